/-
  The abstract machine, part 22: drawn regions in which variables are made in whatever order, continued.
-/
import Derived.Test.YtpfgpjopjadmiaaGreatDoorAM21
set_option linter.unusedVariables false
set_option linter.unusedSimpArgs false
noncomputable section
namespace Go.AM
open Go.RowKit

/-- a new block's value: its address, or a slice of so many elements -/
def mkV : Option Nat → Nat → Value
  | none, b => .pointer (some ⟨b, 0, none⟩)
  | some n, b => .slice (some ⟨b, 0, none⟩) n n
/-- a block that is there, unknown to the heap -/
def PendAt [π : Pins] (w : World) (N0 : Nat) (φ : List Place) (H : AH) (k : Option Nat) (o : AObj) (b : Nat) : Prop :=
  N0 ≤ b ∧ (∃ x tot sz, w.heap[b]? = some x ∧ (∀ n, k = some n → n * esz sz ≤ tot) ∧ ∀ ψ, φ <+: ψ → ORel ψ ⟨b, 0, tot, sz⟩ o (some x)) ∧ (∀ (i : Nat) p, φ[i]? = some p → p.blk ≠ b) ∧ ∀ b' x, π.pin b' = some x → b' ≠ b

theorem Rel.pushOld [Pins] {φ : List Place} {H : AH} {w : World} {k : Option Nat} {o : AObj} {b : Nat} (R : Rel φ H w) (h : PendAt w H.w0.heap.size φ H k o b) : ∃ p : Place, p.blk = b ∧ p.base = 0 ∧ (∀ n, k = some n → n * esz p.sz ≤ p.tot) ∧ Rel (φ ++ [p]) (anew H o) w := by
  obtain ⟨hN, ⟨x, tot, sz, hx, hk, hO⟩, hd, hpn⟩ := h
  have hpre : φ <+: φ ++ [⟨b, 0, tot, sz⟩] := ⟨_, rfl⟩
  refine ⟨⟨b, 0, tot, sz⟩, rfl, rfl, hk, R.below, by simp [anew, R.len], fun i o' hi => ?_, fun i j o1 o2 p q hi hj hp hq e => ?_, fun b' y hb' => ⟨(R.pin b' y hb').1, pin_places R b' y hb' (fun e => hpn b' y hb' e.symm)⟩, lt_places R.lt (Nat.le_refl _) (alt_of_getElem? hx)⟩
  · by_cases hin : i = H.nx
    · subst hin
      simp only [anew, Tr.get_set_same] at hi
      cases hi
      refine ⟨⟨b, 0, tot, sz⟩, by rw [← R.len]; simp, hN, ?_⟩
      rw [hx]; exact hO _ hpre
    · simp only [anew, Tr.get_set_ne _ _ hin] at hi
      obtain ⟨p, hp, hN, hO⟩ := R.obj i o' hi
      exact ⟨p, getElem?_prefix hpre hp, hN, hO.mono hpre⟩
  · have hi_lt : ∀ i o, H.tr.get i = some o → i < H.nx := by
      intro i o hi
      obtain ⟨q, hq, _⟩ := R.obj i o hi
      rw [← R.len]; exact lt_of_getElem? hq
    have back : ∀ i o', (H.tr.set H.nx (some o)).get i = some o' → i ≠ H.nx → H.tr.get i = some o' := fun i o' h hne => by rwa [Tr.get_set_ne _ _ hne] at h
    have pl : ∀ i p, i < H.nx → (φ ++ [(⟨b, 0, tot, sz⟩ : Place)])[i]? = some p → φ[i]? = some p := by
      intro i p hl hp
      rwa [List.getElem?_append_left (by rw [R.len]; exact hl)] at hp
    have pn : ∀ p, (φ ++ [(⟨b, 0, tot, sz⟩ : Place)])[H.nx]? = some p → p.blk = b := by
      intro p hp
      rw [← R.len] at hp; simp at hp; subst hp; rfl
    by_cases h1 : i = H.nx <;> by_cases h2 : j = H.nx
    · omega
    · have hj' := back j o2 hj h2
      subst h1
      exact absurd (e.symm.trans (pn p hp)) (hd j q (pl j q (hi_lt j o2 hj') hq))
    · have hi' := back i o1 hi h1
      subst h2
      exact absurd (e.trans (pn q hq)) (hd i p (pl i p (hi_lt i o1 hi') hp))
    · have hi' := back i o1 hi h1
      have hj' := back j o2 hj h2
      exact R.inj i j o1 o2 p q hi' hj' (pl i p (hi_lt i o1 hi') hp) (pl j q (hi_lt j o2 hj') hq) e

theorem Rel.blk_lt [Pins] {φ : List Place} {H : AH} {w : World} (R : Rel φ H w) {i : Nat} {o : AObj} {p : Place} (hi : H.tr.get i = some o) (hp : φ[i]? = some p) : p.blk < w.heap.size := by
  obtain ⟨q, hq, hN, hO⟩ := R.obj i o hi
  rw [hp] at hq; cases hq
  cases o with
  | cells cs s e => obtain ⟨C, e, lo, hi, hx, _⟩ := hO; exact alt_of_getElem? hx
  | map es c => obtain ⟨es', hx, _⟩ := hO; exact alt_of_getElem? hx
  | iter s q => exact alt_of_getElem? hO

theorem alloc_run {P : Program} (E : Env P) {ty : TypeId} {ii : TI} {z : Value} (hi : E.inf ty = some ii) (hz : ii.zero = some z) {o : Oper} (hop : o.op = .alloc ty) (ρ : Operand → Value) (w : World) :
    ∃ x, (execOp ρ o).run P w = .ok (.value (.pointer (some ⟨w.heap.size, 0, none⟩))) (w.alloc x) ∧ ∃ tot, ∀ ψ, ORel ψ ⟨w.heap.size, 0, tot, boxsz E ty⟩ (.cells (ext z).cells.toList (boxsz E ty) true) (some x) := by
  refine ⟨.cells z.cells ty, ?_, z.cells.size, fun ψ => ?_⟩
  · simp [execOp, hop, Instr.alloc, run_zeroValue' E hi hz, newVar, newRow]
  · have hc := (VR.ext ψ z).cells
    refine ⟨z.cells, ty, 0, 0, rfl, fun k _ => by omega, rfl, ⟨rfl, boxsz_e E ty, fun _ => rfl⟩, ?_, fun _ => ?_, ?_⟩
    · rw [hc.1]; simp
    · rw [hc.1]; simp
    · have e : ((z.cells.toList.drop 0).take (ext z).cells.toList.length) = z.cells.toList := by rw [hc.1, List.drop_zero, List.take_length]
      rw [e]; exact hc

theorem mkV_new {φ : List Place} {n : Nat} (hn : φ.length = n) (p : Place) (hp : p.base = 0) {k : Option Nat} (hk : ∀ m, k = some m → m * esz p.sz ≤ p.tot) : VR (φ ++ [p]) (mkV k (2 * n + 1)) (mkV k p.blk) := by
  cases k with
  | none => exact .ptr (ARel.new φ n hn p hp)
  | some m => exact .slc (SRel.new hn p hp (Nat.le_refl _) (Nat.le_refl _) (hk m rfl))

/-- an operation that makes one new block, the same wherever it runs -/
def MakesNew (P : Program) (o : Oper) (ρ : Operand → Value) (k : Option Nat) (ob : AObj) : Prop :=
  ∀ (ρ' : Operand → Value) (w : World) (φ : List Place), (∀ x ∈ o.op.operands, VR φ (ρ x) (ρ' x)) → ∃ x tot sz, (execOp ρ' o).run P w = .ok (.value (mkV k w.heap.size)) (w.alloc x) ∧ (∀ n, k = some n → n * esz sz ≤ tot) ∧ ∀ ψ, φ <+: ψ → ORel ψ ⟨w.heap.size, 0, tot, sz⟩ ob (some x)
theorem alloc_new {P : Program} (E : Env P) {ty : TypeId} {ii : TI} {z : Value} (hi : E.inf ty = some ii) (hz : ii.zero = some z) {o : Oper} (hop : o.op = .alloc ty) (ρ : Operand → Value) : MakesNew P o ρ none (.cells (ext z).cells.toList (boxsz E ty) true) := fun ρ' w φ _ => by
  obtain ⟨x, h1, tot, h2⟩ := alloc_run E hi hz hop ρ' w
  exact ⟨x, tot, boxsz E ty, h1, (fun n h => by cases h), fun ψ _ => h2 ψ⟩

structure TraceF {P : Program} (E : Env P) (ops : Array Oper) (F : Nat → Fr) (HH : Nat → AH) (V : Nat → Value) (M Fl : Nat → Bool) : Prop extends Trace0 ops F V where
  step : ∀ (i : Nat) o, ops[i]? = some o → Fl i = false →
    (awanted ops (sval (F i)) o = false ∧ V i = undef ∧ M i = false) ∨
    (awanted ops (sval (F i)) o = true ∧ M i = false ∧ isQuiet E o.op = true ∧ ∀ t, t ≤ ops.size → (∀ j, j < ops.size → M j = true → ((bef ops).getD i 0).testBit j = true → j < t) →
      (∀ j, j < ops.size → M j = true → ((bef ops).getD j 0).testBit i = true → t ≤ j) → aop E (aval (F i)) o.op (HH t) = some (V i, HH t)) ∨
    (awanted ops (sval (F i)) o = true ∧ M i = true ∧ aop E (aval (F i)) o.op (HH i) = some (V i, HH (i + 1))) ∨
    (awanted ops (sval (F i)) o = true ∧ M i = true ∧ ∃ g args, acallee E (aval (F i)) o.op = some (g, args) ∧ ACalls P g args (HH i) fun v H' => v = V i ∧ H' = HH (i + 1))
  flop : ∀ (i : Nat) o, ops[i]? = some o → Fl i = true → M i = true ∧ awanted ops (sval (F i)) o = true ∧ ∃ d k ob, o.dst = some d ∧ V i = mkV k (2 * (HH i).nx + 1) ∧ HH (i + 1) = anew (HH i) ob ∧ MakesNew P o (aval (F i)) k ob
  still : ∀ i, i < ops.size → M i = false → HH (i + 1) = HH i
  mains : ∀ i j, i < j → j < ops.size → M i = true → M j = true → ((bef ops).getD j 0).testBit i = true ∨ Fl j = true
  all : ∀ k i j, k < ops.size → i < ops.size → j < i → Fl k = false → Fl i = true → M j = true → ((bef ops).getD k 0).testBit i = true → ((bef ops).getD k 0).testBit j = true
  nofl : ∀ i j, i < ops.size → j < ops.size → Fl i = true → Fl j = true → ((bef ops).getD i 0).testBit j = false

section
variable {P : Program} {E : Env P} {ops : Array Oper} {F : Nat → Fr} {HH : Nat → AH} {V : Nat → Value} {M Fl : Nat → Bool}

def Pd (Fl : Nat → Bool) (S : Nat → Bool) (t j : Nat) : Prop := Fl j = true ∧ S j = true ∧ t ≤ j

structure InvC [Pins] (ops : Array Oper) (F : Nat → Fr) (HH : Nat → AH) (V : Nat → Value) (M Fl S : Nat → Bool) (φ' : List Place) (t : Nat) (bl : Nat → Nat) (a : Act) (w : World) : Prop where
  le : t ≤ ops.size
  rel : Rel φ' (HH t) w
  pre : ∀ j, j < ops.size → M j = true → j < t → S j = true
  post : ∀ j, j < ops.size → M j = true → t ≤ j → S j = true → Fl j = true
  slots : ∀ d, (∀ j o, ops[j]? = some o → Pd Fl S t j → o.dst ≠ some d) → VR φ' (svAt (F 0) ops V S ops.size d) (a.tmps.getD d undef)
  pend : ∀ j o, ops[j]? = some o → Pd Fl S t j → ∃ ob k, HH (j + 1) = anew (HH j) ob ∧ V j = mkV k (2 * (HH j).nx + 1) ∧ PendAt w (HH 0).w0.heap.size φ' (HH t) k ob (bl j) ∧ ∃ d, o.dst = some d ∧ a.tmps.getD d undef = mkV k (bl j)
  inj : ∀ i j, i < ops.size → j < ops.size → Pd Fl S t i → Pd Fl S t j → bl i = bl j → i = j
  dep : ∀ k j, k < ops.size → j < ops.size → S k = true → Pd Fl S t j → ((bef ops).getD k 0).testBit j = false

/-- variables that are next in line become known -/
theorem InvC.normal [Pins] (T : TraceF E ops F HH V M Fl) (hw0 : ∀ i, i < ops.size → (HH (i + 1)).w0 = (HH i).w0) {S : Nat → Bool} (hS : Closed ops S) {a : Act} {w : World} : ∀ (n t : Nat) (φ' : List Place) (bl : Nat → Nat), ops.size - t = n → InvC ops F HH V M Fl S φ' t bl a w →
    ∃ φ2 t2, φ' <+: φ2 ∧ InvC ops F HH V M Fl S φ2 t2 bl a w ∧ (t2 = ops.size ∨ (t2 < ops.size ∧ M t2 = true ∧ S t2 = false)) := by
  intro n
  induction n with
  | zero => intro t φ' bl hn hI; have := hI.le; exact ⟨φ', t, List.prefix_refl _, hI, .inl (by omega)⟩
  | succ n ih =>
    intro t φ' bl hn hI
    have hlt : t < ops.size := by omega
    have ho : ops[t]? = some ops[t] := Array.getElem?_eq_getElem hlt
    cases hM : M t with
    | false =>
      have hne : ∀ j, Fl j = true → j < ops.size → j ≠ t := by
        intro j hF hj e; subst e
        have := (T.flop j _ ho hF).1; rw [hM] at this; cases this
      have hpd : ∀ j, j < ops.size → (Pd Fl S (t + 1) j ↔ Pd Fl S t j) := by
        intro j hj
        constructor
        · rintro ⟨h1, h2, h3⟩; exact ⟨h1, h2, by omega⟩
        · rintro ⟨h1, h2, h3⟩; have := hne j h1 hj; exact ⟨h1, h2, by omega⟩
      have hH := T.still t hlt hM
      refine ih (t + 1) φ' bl (by omega) ⟨by omega, by rw [hH]; exact hI.rel, fun j hj hMj hjt => ?_, fun j hj hMj hjt => hI.post j hj hMj (by omega), fun d hd => hI.slots d fun j o hj hp => hd j o hj ((hpd j (alt_of_getElem? hj)).2 hp), fun j o hj hp => ?_,
        fun i j hi hj h1 h2 => hI.inj i j hi hj ((hpd i hi).1 h1) ((hpd j hj).1 h2), fun k j hk hj h1 h2 => hI.dep k j hk hj h1 ((hpd j hj).1 h2)⟩
      · by_cases e : j = t
        · subst e; rw [hM] at hMj; cases hMj
        · exact hI.pre j hj hMj (by omega)
      · rw [hH]; exact hI.pend j o hj ((hpd j (alt_of_getElem? hj)).1 hp)
    | true =>
      cases hSt : S t with
      | false => exact ⟨φ', t, List.prefix_refl _, hI, .inr ⟨hlt, hM, hSt⟩⟩
      | true =>
        have hF := hI.post t hlt hM (Nat.le_refl _) hSt
        obtain ⟨ob, kk, h1, hV, h2, d, hd, h3⟩ := hI.pend t _ ho ⟨hF, hSt, Nat.le_refl _⟩
        have hww : (HH t).w0 = (HH 0).w0 := trace_w0 hw0 t (by omega)
        obtain ⟨p, hpb, hp0, hpk, hR⟩ := hI.rel.pushOld (by rw [hww]; exact h2)
        have hpd : ∀ j, Pd Fl S (t + 1) j → Pd Fl S t j ∧ j ≠ t := fun j ⟨a1, a2, a3⟩ => ⟨⟨a1, a2, by omega⟩, by omega⟩
        have hpre : φ' <+: φ' ++ [p] := ⟨_, rfl⟩
        have hI2 : InvC ops F HH V M Fl S (φ' ++ [p]) (t + 1) bl a w := by
          refine ⟨by omega, by rw [h1]; exact hR, fun j hj hMj hjt => ?_, fun j hj hMj hjt => hI.post j hj hMj (by omega), fun d' hd' => ?_, fun j o hj hp => ?_, fun i j hi hj a1 a2 => hI.inj i j hi hj (hpd i a1).1 (hpd j a2).1, fun k j hk hj a1 a2 => hI.dep k j hk hj a1 (hpd j a2).1⟩
          · by_cases e : j = t
            · subst e; exact hSt
            · exact hI.pre j hj hMj (by omega)
          · by_cases e : d' = d
            · subst e
              have hsv : svAt (F 0) ops V S ops.size d' = V t := by
                rw [svAt_skip (i := t + 1) ops.size (by omega) ?_]
                · simp [svAt, ho, hd, hSt]
                · intro k hk hkn hdk
                  have hkk : ops[k]? = some ops[k] := Array.getElem?_eq_getElem hkn
                  rw [hkk] at hdk
                  simp only [Option.bind_some] at hdk
                  cases hSk : S k with
                  | false => rfl
                  | true =>
                    rcases orderOk_pair T.order (show t < k by omega) ho hkk with hap | hb
                    · exact absurd hdk ((Oper.apart_spec hap).2.1 d' hd)
                    · rw [hI.dep k t hkn hlt hSk ⟨hF, hSt, Nat.le_refl _⟩] at hb; cases hb
              rw [hsv, h3, hV, ← hpb]
              exact mkV_new hI.rel.len p hp0 hpk
            · refine (hI.slots d' fun j o hj hp => ?_).mono hpre
              by_cases ejt : j = t
              · subst ejt
                rw [ho] at hj; cases hj
                rw [hd]; intro e2; exact e (Option.some.inj e2).symm
              · exact hd' j o hj ⟨hp.1, hp.2.1, by have := hp.2.2; omega⟩
          · obtain ⟨ob', k', q1, qV, ⟨q2, q3, q4, q4'⟩, q5⟩ := hI.pend j o hj (hpd j hp).1
            refine ⟨ob', k', q1, qV, ⟨q2, (let ⟨y, c1, c2, c3, c4, c5⟩ := q3; ⟨y, c1, c2, c3, c4, fun ψ h => c5 ψ (hpre.trans h)⟩), fun i p' hp' => ?_, q4'⟩, q5⟩
            rcases Nat.lt_or_ge i φ'.length with hil | hil
            · rw [List.getElem?_append_left hil] at hp'
              exact q4 i p' hp'
            · rw [List.getElem?_append_right hil] at hp'
              have h0 : i - φ'.length = 0 := by have := lt_of_getElem? hp'; simp at this; omega
              rw [h0] at hp'
              simp at hp'
              subst hp'
              rw [hpb]
              intro e
              exact (hpd j hp).2 (hI.inj t j hlt (alt_of_getElem? hj) ⟨hF, hSt, Nat.le_refl _⟩ (hpd j hp).1 e).symm
        obtain ⟨φ2, t2, r1, r2, r3⟩ := ih (t + 1) (φ' ++ [p]) bl (by omega) hI2
        exact ⟨φ2, t2, hpre.trans r1, r2, r3⟩

theorem TraceF.any [π : Pins] (T : TraceF E ops F HH V M Fl) (hw0 : ∀ i, i < ops.size → (HH (i + 1)).w0 = (HH i).w0) {Q : AQ} (hQ : Q .normal (F ops.size) (HH ops.size)) (φ : List Place) :
    ∀ (fuel : Nat) (listed : Array Bool) (a : Act) (w : World) (φ' : List Place) (t : Nat) (bl : Nat → Nat), listed.size = ops.size → Closed ops (fun i => listed.getD i false) → a.defers = [] → a.tmps.size = (F 0).n → φ <+: φ' →
      InvC ops F HH V M Fl (fun i => listed.getD i false) φ' t bl a w → (t = ops.size ∨ (t < ops.size ∧ M t = true ∧ listed.getD t false = false)) → listed.toList.countP id + fuel = ops.size → wpAny P .any ops (conc φ (HH 0).w0 Q) fuel listed a w := by
  have fin : ∀ (listed : Array Bool) (a : Act) (w : World) (φ' : List Place) (t : Nat) (bl : Nat → Nat), a.defers = [] → a.tmps.size = (F 0).n → φ <+: φ' → InvC ops F HH V M Fl (fun i => listed.getD i false) φ' t bl a w → (t = ops.size ∨ (t < ops.size ∧ M t = true ∧ listed.getD t false = false)) →
      (∀ i, i < ops.size → listed.getD i false = true) → conc φ (HH 0).w0 Q .normal a w := by
    intro listed a w φ' t bl had hat hφ hI hn hall
    obtain rfl : t = ops.size := by
      rcases hn with h | ⟨h1, _, h3⟩
      · exact h
      · rw [hall t h1] at h3; cases h3
    refine ⟨φ', F ops.size, HH ops.size, hφ, ⟨had, by rw [hat, T.size _ (Nat.le_refl _)], fun d => ?_⟩, hI.rel, trace_w0 hw0 _ (Nat.le_refl _), hQ⟩
    have := hI.slots d fun j o hj hp => by have := alt_of_getElem? hj; have := hp.2.2; omega
    rw [svAt_low (S' := fun _ => true) ops.size (fun k hk _ => by simp [hall k hk]), ← T.slots d _ (Nat.le_refl _)] at this
    exact this
  intro fuel
  induction fuel with
  | zero =>
    intro listed a w φ' t bl hsz hS had hat hφ hI hn hc
    have hall : ∀ i, i < ops.size → listed.getD i false = true := by
      have : listed.toList.countP id = listed.toList.length := by rw [Array.length_toList, hsz]; omega
      rw [List.countP_eq_length] at this
      intro i hi
      have hm : listed[i]'(by omega) ∈ listed.toList := by simp
      have := this _ hm
      simp only [id] at this
      simp [Array.getD_eq_getD_getElem?, hsz, hi, this]
    refine ⟨?_, fin listed a w φ' t bl had hat hφ hI hn hall⟩
    rw [List.eq_nil_iff_forall_not_mem]
    intro i hi
    unfold Region.ready at hi
    rw [List.mem_filter] at hi
    obtain ⟨h1, h2⟩ := hi
    have hlt := List.mem_range.1 h1
    simp only [Bool.and_eq_true] at h2
    have h3 := hall i hlt
    have h4 := h2.1
    simp [Array.getD_eq_getD_getElem?, hsz, hlt] at h3 h4
    rw [h3] at h4; cases h4
  | succ fuel ih =>
    intro listed a w φ' t bl hsz hS had hat hφ hI hn hc
    refine ⟨fun hr => fin listed a w φ' t bl had hat hφ hI hn ?_, fun i hi => ?_⟩
    · intro i
      induction i using Nat.strongRecOn with
      | _ i ihi =>
        intro hlt
        cases hl : listed.getD i false with
        | true => rfl
        | false =>
          exfalso
          have hmem : i ∈ Region.ready .any ops listed := by
            unfold Region.ready
            rw [List.mem_filter]
            refine ⟨List.mem_range.2 hlt, ?_⟩
            have ho : ops[i]? = some ops[i] := Array.getElem?_eq_getElem hlt
            simp only [Bool.and_eq_true, ho, Option.map_some, Option.getD_some]
            refine ⟨?_, ?_⟩
            · simp [Array.getD_eq_getD_getElem?, hsz, hlt] at hl ⊢
              exact hl
            · rw [Array.all_eq_true']
              intro e he
              cases hb : Region.binds .any e with
              | false => rfl
              | true =>
                have hlt' := orderOk_back T.order ho he hb
                simp [ihi e.on hlt' (by omega)]
          rw [hr] at hmem
          cases hmem
    · have hi' := hi
      unfold Region.ready at hi'
      rw [List.mem_filter] at hi'
      have hlt := List.mem_range.1 hi'.1
      have hunl : listed.getD i false = false := by
        have h4 := hi'.2
        simp only [Bool.and_eq_true] at h4
        have h4 := h4.1
        simp [Array.getD_eq_getD_getElem?, hsz, hlt] at h4 ⊢
        exact h4
      have ho : ops[i]? = some ops[i] := Array.getElem?_eq_getElem hlt
      generalize ops[i] = o at ho
      have hS' := closed_add hS hi
      have hcount : (listed.setIfInBounds i true).toList.countP id + fuel = ops.size := by
        rw [Array.toList_setIfInBounds, List.countP_set (by simp; omega)]
        have hget : (listed.toList[i]'(by simp; omega)) = false := by
          simp [Array.getD_eq_getD_getElem?, hsz, hlt] at hunl
          simpa using hunl
        rw [hget]
        simp only [id, Bool.false_eq_true, if_false, if_true]
        omega
      have hgd : (fun j => (listed.setIfInBounds i true).getD j false) = fun j => if j = i then true else listed.getD j false := funext fun j => getD_listed (by omega)
      -- what lies before the operation has run
      have hbef : ∀ j, j < ops.size → ((bef ops).getD i 0).testBit j = true → j ≠ i → listed.getD j false = true := by
        intro j hj hb hne
        have := bef_sound hS' hb (by simp)
        rwa [if_neg hne] at this
      have hpart : ∀ j, j < ops.size → Pd Fl (fun i => listed.getD i false) t j → t < ops.size ∧ M t = true ∧ listed.getD t false = false ∧ t < j := by
        intro j hj hp
        rcases hn with h | ⟨h1, h2, h3⟩
        · have := hp.2.2; omega
        · have hne : t ≠ j := by intro e; subst e; have h4 := hp.2.1; simp only at h4; rw [h3] at h4; cases h4
          exact ⟨h1, h2, h3, by have := hp.2.2; omega⟩
      have hback : ∀ j, ((bef ops).getD i 0).testBit j = true → j ≤ i := by
        intro j hb
        have hcl : Closed ops (fun k => decide (k ≤ i)) := fun k o' ho' hk e he hbd => by
          have := orderOk_back T.order ho' he hbd
          simp only [decide_eq_true_eq] at hk ⊢
          omega
        have := bef_sound hcl hb (by simp)
        simpa using this
      have hdep : Fl i = false → ∀ j, j < ops.size → Pd Fl (fun i => listed.getD i false) t j → ((bef ops).getD i 0).testBit j = false := by
        intro hFi j hj hp
        cases hb : ((bef ops).getD i 0).testBit j with
        | false => rfl
        | true =>
          exfalso
          obtain ⟨q1, q2, q3, q4⟩ := hpart j hj hp
          have hbt := T.all i j t hlt hj q4 hFi hp.1 q2 hb
          have := hbef t q1 hbt (fun e => by have := hback j hb; omega)
          rw [q3] at this; cases this
      have hdep2 : ∀ j, j < ops.size → listed.getD j false = true → ((bef ops).getD j 0).testBit i = false := by
        intro j hj hl
        cases hb : ((bef ops).getD j 0).testBit i with
        | false => rfl
        | true => have := bef_sound hS hb hl; rw [hunl] at this; cases this
      have hfree : ∀ j oj, ops[j]? = some oj → Pd Fl (fun i => listed.getD i false) t j → (∀ d, oj.dst = some d → d ∉ o.looksAt ops) ∧ (∀ d, oj.dst = some d → o.dst ≠ some d) := by
        intro j oj hoj hp
        have hj := alt_of_getElem? hoj
        have hne : j ≠ i := by intro e; subst e; have h4 := hp.2.1; simp only at h4; rw [hunl] at h4; cases h4
        have hdp : ((bef ops).getD i 0).testBit j = false := by
          cases hFi : Fl i with
          | false => exact hdep hFi j hj hp
          | true => exact T.nofl i j hlt hj hFi hp.1
        rcases Nat.lt_or_gt_of_ne hne with h | h
        · rcases orderOk_pair T.order h hoj ho with hap | hb
          · exact ⟨(Oper.apart_spec hap).1, (Oper.apart_spec hap).2.1⟩
          · rw [hdp] at hb; cases hb
        · rcases orderOk_pair T.order h ho hoj with hap | hb
          · exact ⟨(Oper.apart_spec hap).2.2, fun d hd hd2 => (Oper.apart_spec hap).2.1 d hd2 hd⟩
          · rw [hdep2 j hj hp.2.1] at hb; cases hb
      have put_get : ∀ (v' : Value) (d : Nat), (a.put o.dst v').tmps.getD d undef = if o.dst = some d then v' else a.tmps.getD d undef := by
        intro v' d
        cases hd : o.dst with
        | none => simp [Act.put]
        | some d' =>
          have hlt' := T.dst_lt ho hd
          simp only [Act.put, Option.some.injEq]
          by_cases e : d' = d
          · subst e; simp [Array.getD_eq_getD_getElem?, hat, hlt']
          · rw [if_neg e]; simp [Array.getD_eq_getD_getElem?, e]
      have put_size : ∀ v', (a.put o.dst v').tmps.size = (F 0).n := by
        intro v'; cases hd : o.dst <;> simp [Act.put, hat]
      have put_def : ∀ v', (a.put o.dst v').defers = [] := by
        intro v'; cases hd : o.dst <;> simp [Act.put, had]
      have hsv : ∀ d, svAt (F 0) ops V (fun j => if j = i then true else listed.getD j false) ops.size d = if o.dst = some d then V i else svAt (F 0) ops V (fun i => listed.getD i false) ops.size d := fun d => T.sees_dst hS ho hunl d
      -- go on
      have go : ∀ (φ2 : List Place) (t2 : Nat) (bl2 : Nat → Nat) (v' : Value) (w' : World), φ' <+: φ2 → InvC ops F HH V M Fl (fun j => if j = i then true else listed.getD j false) φ2 t2 bl2 (a.put o.dst v') w' →
          wpAny P .any ops (conc φ (HH 0).w0 Q) fuel (listed.setIfInBounds i true) (a.put o.dst v') w' := by
        intro φ2 t2 bl2 v' w' h1 h2
        obtain ⟨φ3, t3, r1, r2, r3⟩ := h2.normal T hw0 hS' _ t2 φ2 bl2 rfl
        refine ih _ _ _ φ3 t3 bl2 (by simp [hsz]) (by rw [hgd]; exact hS') (put_def v') (put_size v') (hφ.trans (h1.trans r1)) (by rw [hgd]; exact r2) ?_ hcount
        rcases r3 with r3 | ⟨q1, q2, q3⟩
        · exact .inl r3
        · exact .inr ⟨q1, q2, by rw [show (listed.setIfInBounds i true).getD t3 false = if t3 = i then true else listed.getD t3 false from congrFun hgd t3]; exact q3⟩
      unfold wpOp
      rw [ho]
      simp only
      cases hFi : Fl i with
      | true =>
        obtain ⟨hMi, haw, d, kk, ob, hdst, hV, hHH, hmk⟩ := T.flop i o ho hFi
        have hsee : ∀ d ∈ o.looksAt ops, VR φ' (sval (F i) d) (a.tmps.getD d undef) := by
          intro d hd
          rw [← T.sees hS hS' ho hunl hd]
          exact hI.slots d fun j oj hj hp e => (hfree j oj hj hp).1 d e hd
        have hwant := awanted_ok (φ := φ') (sv := sval (F i)) ops o hsee
        rw [hwant, haw, if_pos rfl]
        left
        obtain ⟨x, tot, sz0, hrun, hkn, hO⟩ := hmk a.eval w φ' (fun x hx => by
          cases x with
          | tmp d => exact hsee d (by simp only [Oper.looksAt, List.mem_append, List.mem_filterMap]; exact .inl ⟨.tmp d, by simpa using hx, rfl⟩)
          | const v => exact VR.ext φ' v
          | global g => exact .ptr (.inl ⟨by simp, by simp, rfl, rfl⟩)
          | func g => exact .func _ rfl rfl (fun i v v' h => by simp at h) (fun i v v' h => by simp at h))
        unfold Oper.wp
        rw [hrun]
        have hti : t ≤ i := by
          rcases Nat.lt_or_ge i t with h | h
          · have h5 : listed.getD i false = true := hI.pre i hlt hMi h
            rw [hunl] at h5; cases h5
          · exact h
        have hww : (HH t).w0 = (HH 0).w0 := trace_w0 hw0 t hI.le
        have hbel : Below w.heap.size w (w.alloc x) := (Below.refl _ _).alloc (Nat.le_refl _) x
        refine go φ' t (fun j => if j = i then w.heap.size else bl j) _ _ (List.prefix_refl _) ⟨hI.le, hI.rel.later hbel, fun j hj hM hjt => ?_, fun j hj hM hjt hs => ?_, fun d' hd' => ?_, fun j oj hj hp => ?_, fun j k hj hk hpj hpk e => ?_, fun k j hk hj hs hp => ?_⟩
        · by_cases e : j = i
          · simp [e]
          · simp only [e, if_false]; exact hI.pre j hj hM hjt
        · by_cases e : j = i
          · rw [e]; exact hFi
          · simp only [e, if_false] at hs; exact hI.post j hj hM hjt hs
        · have hne : o.dst ≠ some d' := hd' i o ho ⟨hFi, by simp, hti⟩
          rw [hsv d', if_neg hne, put_get, if_neg hne]
          refine hI.slots d' fun j oj hj hp => hd' j oj hj ⟨hp.1, ?_, hp.2.2⟩
          by_cases e : j = i
          · simp [e]
          · simp only [e, if_false]; exact hp.2.1
        · by_cases e : j = i
          · subst e
            rw [ho] at hj; cases hj
            refine ⟨_, kk, hHH, hV, ⟨by rw [← hww]; simp only [if_true]; exact hI.rel.below.size, ⟨x, tot, sz0, ?_, hkn, by simp only [if_true]; exact hO⟩, fun k p hp' => ?_, fun b' y hb' => ?_⟩, d, hdst, ?_⟩
            · simp only [if_true]; exact heap_alloc_new w x
            · simp only [if_true]
              have := hI.rel.lt k p hp'
              omega
            · simp only [if_true]
              have := alt_of_getElem? (hI.rel.pin b' y hb').1
              omega
            · rw [put_get, if_pos hdst]; simp
          · have hpj : Pd Fl (fun i => listed.getD i false) t j := ⟨hp.1, by have := hp.2.1; simpa [e] using this, hp.2.2⟩
            obtain ⟨ob', k', q1, qV, ⟨q2, ⟨y, tot', sz', q3, qk, q4⟩, q5, q5'⟩, d2, q6, q7⟩ := hI.pend j oj hj hpj
            refine ⟨ob', k', q1, qV, ⟨?_, ⟨y, tot', sz', ?_, qk, ?_⟩, ?_, ?_⟩, d2, q6, ?_⟩
            · simp only [e, if_false]; exact q2
            · simp only [e, if_false]
              rw [show (w.alloc x).heap[bl j]? = w.heap[bl j]? from Below.heap_alloc w x _ (alt_of_getElem? q3)]
              exact q3
            · simp only [e, if_false]; exact q4
            · simp only [e, if_false]; exact q5
            · simp only [e, if_false]; exact q5'
            · have hne : o.dst ≠ some d2 := by
                rcases Nat.lt_or_gt_of_ne e with h | h
                · rcases orderOk_pair T.order h hj ho with hap | hb
                  · exact (Oper.apart_spec hap).2.1 d2 q6
                  · rw [T.nofl i j hlt (alt_of_getElem? hj) hFi hp.1] at hb; cases hb
                · rcases orderOk_pair T.order h ho hj with hap | hb
                  · intro h2; exact (Oper.apart_spec hap).2.1 d2 h2 q6
                  · rw [T.nofl j i (alt_of_getElem? hj) hlt hp.1 hFi] at hb; cases hb
              rw [put_get, if_neg hne, q7]
              simp only [e, if_false]
        · have blt : ∀ j, j < ops.size → j ≠ i → Pd Fl (fun j => if j = i then true else listed.getD j false) t j → bl j < w.heap.size := by
            intro j hj e hp
            have hpj : Pd Fl (fun i => listed.getD i false) t j := ⟨hp.1, by have := hp.2.1; simpa [e] using this, hp.2.2⟩
            obtain ⟨ob', k', q1, qV, ⟨q2, ⟨y, tot', sz', q3, qk, q4⟩, q5⟩, _⟩ := hI.pend j _ (Array.getElem?_eq_getElem hj) hpj
            exact alt_of_getElem? q3
          by_cases e1 : j = i <;> by_cases e2 : k = i
          · rw [e1, e2]
          · have := blt k hk e2 hpk
            simp only [e1, e2, if_true, if_false] at e; omega
          · have := blt j hj e1 hpj
            simp only [e1, e2, if_true, if_false] at e; omega
          · simp only [e1, e2, if_false] at e
            exact hI.inj j k hj hk ⟨hpj.1, by have := hpj.2.1; simpa [e1] using this, hpj.2.2⟩ ⟨hpk.1, by have := hpk.2.1; simpa [e2] using this, hpk.2.2⟩ e
        · by_cases e1 : k = i
          · subst e1; exact T.nofl k j hk hj hFi hp.1
          · have hs' : listed.getD k false = true := by simpa [e1] using hs
            by_cases e2 : j = i
            · subst e2; exact hdep2 k hk hs'
            · exact hI.dep k j hk hj hs' ⟨hp.1, by have := hp.2.1; simpa [e2] using this, hp.2.2⟩
      | false =>
        have hsee : ∀ d ∈ o.looksAt ops, VR φ' (sval (F i) d) (a.tmps.getD d undef) := by
          intro d hd
          rw [← T.sees hS hS' ho hunl hd]
          exact hI.slots d fun j oj hj hp e => (hfree j oj hj hp).1 d e hd
        have hwant := awanted_ok (φ := φ') (sv := sval (F i)) ops o hsee
        rw [hwant]
        have hpd : ∀ j, Pd Fl (fun j => if j = i then true else listed.getD j false) t j → Pd Fl (fun i => listed.getD i false) t j := by
          rintro j ⟨h1, h2, h3⟩
          have hne : j ≠ i := by intro e; subst e; rw [hFi] at h1; cases h1
          exact ⟨h1, by simpa [hne] using h2, h3⟩
        have hpd' : ∀ j, Pd Fl (fun i => listed.getD i false) t j → Pd Fl (fun j => if j = i then true else listed.getD j false) t j := by
          rintro j ⟨h1, h2, h3⟩
          have hne : j ≠ i := by intro e; subst e; rw [hFi] at h1; cases h1
          exact ⟨h1, by simpa [hne] using h2, h3⟩
        -- an operation that turns nothing
        have still : M i = false → ∀ v', VR φ' (V i) v' → wpAny P .any ops (conc φ (HH 0).w0 Q) fuel (listed.setIfInBounds i true) (a.put o.dst v') w := by
          intro hMi v' hv
          refine go φ' t bl v' w (List.prefix_refl _) ⟨hI.le, hI.rel, fun j hj hM hjt => ?_, fun j hj hM hjt hs => ?_, fun d hd => ?_, fun j oj hj hp => ?_, fun j k hj hk h1 h2 => hI.inj j k hj hk (hpd j h1) (hpd k h2), fun k j hk hj hs hp => ?_⟩
          · by_cases e : j = i
            · simp [e]
            · simp only [e, if_false]; exact hI.pre j hj hM hjt
          · by_cases e : j = i
            · subst e; rw [hMi] at hM; cases hM
            · simp only [e, if_false] at hs; exact hI.post j hj hM hjt hs
          · rw [hsv d, put_get]
            by_cases e : o.dst = some d
            · rw [if_pos e, if_pos e]; exact hv
            · rw [if_neg e, if_neg e]
              exact hI.slots d fun j oj hj hp => hd j oj hj (hpd' j hp)
          · obtain ⟨ob, k', q1, qV, q2, d2, q6, q7⟩ := hI.pend j oj hj (hpd j hp)
            refine ⟨ob, k', q1, qV, q2, d2, q6, ?_⟩
            rw [put_get, if_neg ((hfree j oj hj (hpd j hp)).2 d2 q6)]
            exact q7
          · by_cases e : k = i
            · subst e; exact hdep hFi j hj (hpd j hp)
            · simp only [e, if_false] at hs
              exact hI.dep k j hk hj hs (hpd j hp)
        have hρ : ∃ ρ2 : Operand → Value, (∀ x, VR φ' (ρ2 x) (a.eval x)) ∧ ∀ x ∈ o.op.operands, ρ2 x = aval (F i) x := by
          open Classical in
          refine ⟨fun x => if x ∈ o.op.operands then aval (F i) x else ext (a.eval x), fun x => ?_, fun x hx => by simp [hx]⟩
          by_cases hx : x ∈ o.op.operands
          · simp only [hx, if_true]
            cases x with
            | tmp d => exact hsee d (by simp only [Oper.looksAt, List.mem_append, List.mem_filterMap]; exact .inl ⟨.tmp d, by simpa using hx, rfl⟩)
            | const v => exact VR.ext φ' v
            | global g => exact .ptr (.inl ⟨by simp, by simp, rfl, rfl⟩)
            | func g => exact .func _ rfl rfl (fun i v v' h => by simp at h) (fun i v v' h => by simp at h)
          · simp only [hx, if_false]
            exact VR.ext φ' _
        obtain ⟨ρ2, hρ2, hρe⟩ := hρ
        -- a main operation
        have hmain : M i = true → t = i ∧ (∀ j, j < ops.size → M j = true → j < i → listed.getD j false = true) ∧ (∀ j, j < ops.size → M j = true → i < j → listed.getD j false = true → Fl j = true) := by
          intro hMi
          have hlow : ∀ j, j < ops.size → M j = true → j < i → listed.getD j false = true := by
            intro j hj hM hji
            rcases T.mains j i hji hlt hM hMi with hb | hb
            · exact hbef j hj hb (by omega)
            · rw [hFi] at hb; cases hb
          have hti : t ≤ i := by
            rcases Nat.lt_or_ge i t with h | h
            · have h5 : listed.getD i false = true := hI.pre i hlt hMi h
              rw [hunl] at h5; cases h5
            · exact h
          have hit : t = i := by
            rcases hn with h | ⟨h1, h2, h3⟩
            · omega
            · rcases Nat.lt_or_ge t i with h | h
              · rw [hlow t h1 h2 h] at h3; cases h3
              · omega
          refine ⟨hit, hlow, fun j hj hM hij hl => ?_⟩
          rcases T.mains i j hij hj hMi hM with hb | hb
          · rw [hdep2 j hj hl] at hb; cases hb
          · exact hb
        -- what waits is pinned
        open Classical in
        let p2 : Nat → Option Obj := fun b => if ∃ j, j < ops.size ∧ Pd Fl (fun i => listed.getD i false) t j ∧ bl j = b then w.heap[b]? else π.pin b
        have hrel2 : @Rel ⟨⟨p2⟩⟩ φ' (HH t) w := by
          refine @Rel.mk ⟨⟨p2⟩⟩ _ _ _ hI.rel.below hI.rel.len hI.rel.obj hI.rel.inj (fun b x hb => ?_) hI.rel.lt
          simp only [Pins.pin, p2] at hb
          split at hb
          · rename_i hx
            obtain ⟨j, hj, hp, rfl⟩ := hx
            obtain ⟨ob, k', q1, qV, ⟨q2, q3, q4, q5⟩, _⟩ := hI.pend j _ (Array.getElem?_eq_getElem hj) hp
            exact ⟨hb, q4⟩
          · exact hI.rel.pin b x hb
        have back2 : ∀ {φ2 : List Place} {H2 : AH} {w' : World}, @Rel ⟨⟨p2⟩⟩ φ2 H2 w' → Rel φ2 H2 w' ∧ ∀ j, j < ops.size → Pd Fl (fun i => listed.getD i false) t j → w'.heap[bl j]? = w.heap[bl j]? ∧ ∀ (k : Nat) p, φ2[k]? = some p → p.blk ≠ bl j := by
          intro φ2 H2 w' hR2
          refine ⟨⟨@Rel.below ⟨⟨p2⟩⟩ _ _ _ hR2, @Rel.len ⟨⟨p2⟩⟩ _ _ _ hR2, @Rel.obj ⟨⟨p2⟩⟩ _ _ _ hR2, @Rel.inj ⟨⟨p2⟩⟩ _ _ _ hR2, fun b x hb => @Rel.pin ⟨⟨p2⟩⟩ _ _ _ hR2 b x ?_, @Rel.lt ⟨⟨p2⟩⟩ _ _ _ hR2⟩, fun j hj hp => ?_⟩
          · simp only [Pins.pin, p2]
            rw [if_neg]
            · exact hb
            · rintro ⟨j, hj, hp, rfl⟩
              obtain ⟨ob, k', q1, qV, ⟨q2, q3, q4, q5⟩, _⟩ := hI.pend j _ (Array.getElem?_eq_getElem hj) hp
              exact q5 _ x hb rfl
          · obtain ⟨ob, k', q1, qV, ⟨q2, ⟨x, tot, sz, q3, _⟩, q4, q5⟩, _⟩ := hI.pend j _ (Array.getElem?_eq_getElem hj) hp
            have := @Rel.pin ⟨⟨p2⟩⟩ _ _ _ hR2 (bl j) x (by simp only [Pins.pin, p2]; rw [if_pos ⟨j, hj, hp, rfl⟩]; exact q3)
            exact ⟨this.1.trans q3.symm, this.2⟩
        have mnext : M i = true → ∀ (φ2 : List Place) (v' : Value) (w' : World), φ' <+: φ2 → VR φ2 (V i) v' → @Rel ⟨⟨p2⟩⟩ φ2 (HH (i + 1)) w' → wpAny P .any ops (conc φ (HH 0).w0 Q) fuel (listed.setIfInBounds i true) (a.put o.dst v') w' := by
          intro hMi φ2 v' w' h1 h2 h3
          obtain ⟨hit, hlow, hup⟩ := hmain hMi
          obtain ⟨hR, hpp⟩ := back2 h3
          have hpd1 : ∀ j, j < ops.size → Pd Fl (fun j => if j = i then true else listed.getD j false) (i + 1) j → Pd Fl (fun i => listed.getD i false) t j := by
            rintro j hj ⟨p1, p2, p3⟩
            have hne : j ≠ i := by omega
            exact ⟨p1, by simpa [hne] using p2, by omega⟩
          have hpd2 : ∀ j, j < ops.size → Pd Fl (fun i => listed.getD i false) t j → Pd Fl (fun j => if j = i then true else listed.getD j false) (i + 1) j := by
            rintro j hj hp
            have hne : j ≠ i := by intro e; subst e; have h4 := hp.1; rw [hFi] at h4; cases h4
            exact ⟨hp.1, by simpa [hne] using hp.2.1, by have := hp.2.2; omega⟩
          refine go φ2 (i + 1) bl v' w' h1 ⟨by omega, hR, fun j hj hM hjt => ?_, fun j hj hM hjt hs => ?_, fun d hd => ?_, fun j oj hj hp => ?_, fun j k hj hk p1 p2 => hI.inj j k hj hk (hpd1 j hj p1) (hpd1 k hk p2), fun k j hk hj hs hp => ?_⟩
          · by_cases e : j = i
            · simp [e]
            · simp only [e, if_false]; exact hlow j hj hM (by omega)
          · have e : j ≠ i := by omega
            simp only [e, if_false] at hs
            exact hup j hj hM (by omega) hs
          · rw [hsv d, put_get]
            by_cases e : o.dst = some d
            · rw [if_pos e, if_pos e]; exact h2
            · rw [if_neg e, if_neg e]
              exact (hI.slots d fun j oj hj hp => hd j oj hj (hpd2 j (alt_of_getElem? hj) hp)).mono h1
          · have hjl := alt_of_getElem? hj
            have hp0 := hpd1 j hjl hp
            obtain ⟨ob, k', q1, qV, ⟨q2, ⟨y, tot', sz', q3, qk, q4⟩, q5, q5'⟩, d2, q6, q7⟩ := hI.pend j oj hj hp0
            obtain ⟨r1, r2⟩ := hpp j hjl hp0
            refine ⟨ob, k', q1, qV, ⟨q2, ⟨y, tot', sz', r1.trans q3, qk, fun ψ h => q4 ψ (h1.trans h)⟩, r2, q5'⟩, d2, q6, ?_⟩
            rw [put_get, if_neg ((hfree j oj hj hp0).2 d2 q6)]
            exact q7
          · by_cases e : k = i
            · subst e; exact hdep hFi j hj (hpd1 j hj hp)
            · simp only [e, if_false] at hs
              exact hI.dep k j hk hj hs (hpd1 j hj hp)
        rcases T.step i o ho hFi with ⟨h1, h2, h3⟩ | ⟨h1, h2, hqt, h3⟩ | ⟨h1, h2, h3⟩ | ⟨h1, h2, g, args, h3, h4⟩
        · rw [h1]
          simp only [Bool.false_eq_true, if_false]
          exact still h3 undef (by rw [h2]; exact VR.undef φ')
        · rw [h1, if_pos rfl]
          left
          have hop := h3 t hI.le (fun j hj hM hb => ?_) (fun j hj hM hb => ?_)
          · rw [← aop_congr E o.op _ hρe] at hop
            obtain ⟨v', q1, q2⟩ := aop_quiet E hI.rel hρ2 hqt hop
            unfold Oper.wp
            rw [q2]
            exact still h2 v' q1
          · have hne : j ≠ i := by intro e; subst e; rw [h2] at hM; cases hM
            have hl := hbef j hj hb hne
            rcases Nat.lt_or_ge j t with h | h
            · exact h
            · exfalso
              have := hdep hFi j hj ⟨hI.post j hj hM h hl, hl, h⟩
              rw [this] at hb; cases hb
          · rcases Nat.lt_or_ge j t with h | h
            · have hl := hI.pre j hj hM h
              rw [hdep2 j hj hl] at hb; cases hb
            · exact h
        · rw [h1, if_pos rfl]
          left
          obtain ⟨m1, _⟩ := hmain h2
          rw [← aop_congr E o.op _ hρe] at h3
          obtain ⟨φ2, v', w', q1, q2, q3, q4⟩ := @aop_ok ⟨⟨p2⟩⟩ _ E _ _ _ _ (m1 ▸ hrel2) _ _ hρ2 _ _ h3
          unfold Oper.wp
          rcases q4 with q4 | ⟨q4, rfl⟩
          · rw [q4]; exact mnext h2 φ2 v' w' q1 q3 q2
          · rw [q4]; exact mnext h2 φ2 undef w' q1 q3 q2
        · rw [h1, if_pos rfl]
          left
          obtain ⟨m1, _⟩ := hmain h2
          rw [← acallee_congr E o.op hρe] at h3
          obtain ⟨args', q1, q2⟩ := acallee_ok E hρ2 h3 w
          unfold Oper.wp
          rw [q2]
          refine (h4 ⟨⟨p2⟩⟩ φ' args' w q1 (m1 ▸ hrel2)).mono ?_
          rintro e w' ⟨φ2, v, v', H', r1, rfl, r2, r3, r4, rfl, rfl⟩
          exact mnext h2 φ2 v' w' r1 r2 r3

theorem TraceF.region (T : TraceF E ops F HH V M Fl) (hm : P.follows .mixedOrders = true) (hw0 : ∀ i, i < ops.size → (HH (i + 1)).w0 = (HH i).w0) {Q : AQ} (hQ : Q .normal (F ops.size) (HH ops.size)) (id : Nat) :
    ACode P (.region id ops true) Q (F 0) (HH 0) := by
  intro π φ a w hf hR
  refine wp_region_any hm ?_
  have hno : ∀ j, (Array.replicate ops.size false).getD j false = false := by
    intro j
    simp only [Array.getD_eq_getD_getElem?, Array.getElem?_replicate]
    split <;> rfl
  have hcl : Closed ops (fun i => (Array.replicate ops.size false).getD i false) := by
    intro i o ho hi
    simp only [hno] at hi; cases hi
  have hI0 : InvC ops F HH V M Fl (fun i => (Array.replicate ops.size false).getD i false) φ 0 (fun _ => 0) a w.drew := by
    refine ⟨Nat.zero_le _, hR.drew, (fun j _ _ h => by omega), (fun j _ _ _ h => by cases (hno j).symm.trans h), fun d _ => ?_, (fun j o hj hp => by cases (hno j).symm.trans hp.2.1), (fun i j _ _ hp => by cases (hno i).symm.trans hp.2.1), (fun k j _ _ h => by cases (hno k).symm.trans h)⟩
    have hS : svAt (F 0) ops V (fun i => (Array.replicate ops.size false).getD i false) ops.size d = sval (F 0) d := by
      rw [svAt_skip (i := 0) ops.size (Nat.zero_le _)]
      · rfl
      · intro k _ hk _
        exact hno k
    rw [hS]
    exact hf.2.2 d
  obtain ⟨φ2, t2, r1, r2, r3⟩ := hI0.normal T hw0 hcl _ 0 φ _ rfl
  refine T.any hw0 hQ φ ops.size (Array.replicate ops.size false) a _ φ2 t2 _ (by simp) hcl hf.1 hf.2.1 r1 r2 r3 ?_
  simp [Array.toList_replicate]

/-! ### a drawn region whose variables are made in whatever order -/
def pairsF (bs fl : List Nat) : List Nat → Bool
  | [] => true
  | i :: r => (r.all fun j => (bs.getD j 0).testBit i || fl.contains j) && pairsF bs fl r
def isAlloc : Op → Bool
  | .alloc _ => true
  | _ => false
def flOk (ops : Array Oper) (bs ms fl : List Nat) : Bool :=
  (fl.all fun i => match ops[i]? with
    | some o => isAlloc o.op && (o.guard.isNone && o.dst.isSome)
    | none => false) &&
  ((List.range ops.size).all fun k => fl.contains k || fl.all fun i => !((bs.getD k 0).testBit i) || ms.all fun j => Nat.ble i j || (bs.getD k 0).testBit j) &&
  (fl.all fun i => fl.all fun j => !((bs.getD i 0).testBit j))
theorem pairsF_bit {bs fl : List Nat} : ∀ {ms : List Nat}, pairsF bs fl ms = true → ms.Pairwise (· < ·) → ∀ i j, i ∈ ms → j ∈ ms → i < j → (bs.getD j 0).testBit i = true ∨ fl.contains j = true := by
  intro ms
  induction ms with
  | nil => intro _ _ i j h; cases h
  | cons m r ih =>
    intro h hs i j hi hj hij
    simp only [pairsF, Bool.and_eq_true, List.all_eq_true] at h
    rw [List.pairwise_cons] at hs
    rcases List.mem_cons.1 hi with rfl | hi2
    · rcases List.mem_cons.1 hj with rfl | hj2
      · omega
      · have := h.1 j hj2
        simp only [Bool.or_eq_true] at this
        exact this
    · rcases List.mem_cons.1 hj with rfl | hj2
      · have := hs.1 i hi2; omega
      · exact ih h.2 hs.2 i j hi2 hj2 hij
theorem flOk_spec {ms fl : List Nat} (h : flOk ops (bef ops) ms fl = true) : (∀ i o, ops[i]? = some o → i ∈ fl → ∃ ty d, o.op = .alloc ty ∧ o.guard = none ∧ o.dst = some d) ∧
    (∀ k i j, k < ops.size → k ∉ fl → i ∈ fl → j ∈ ms → j < i → ((bef ops).getD k 0).testBit i = true → ((bef ops).getD k 0).testBit j = true) ∧ (∀ i j, i ∈ fl → j ∈ fl → ((bef ops).getD i 0).testBit j = false) := by
  simp only [flOk, Bool.and_eq_true, List.all_eq_true] at h
  obtain ⟨⟨h1, h2⟩, h3⟩ := h
  refine ⟨fun i o ho hi => ?_, fun k i j hk hnk hi hj hji hb => ?_, fun i j hi hj => ?_⟩
  · have := h1 i hi
    rw [ho] at this
    simp only [Bool.and_eq_true] at this
    obtain ⟨q1, q2, q3⟩ := this
    cases hop : o.op with
    | alloc ty =>
      cases hd : o.dst with
      | none => rw [hd] at q3; cases q3
      | some d => exact ⟨ty, d, rfl, by simpa using q2, rfl⟩
    | _ => rw [hop] at q1; cases q1
  · have := h2 k (List.mem_range.2 hk)
    simp only [Bool.or_eq_true, List.all_eq_true] at this
    rcases this with q | q
    · exact absurd (by simpa using q) hnk
    · rcases q i hi with q | q
      · rw [hb] at q; cases q
      · rcases q j hj with q | q
        · have := Nat.le_of_ble_eq_true q; omega
        · exact q
  · have := h3 i hi j hj
    simpa using this
theorem RunD.drawF {ms : List Nat} {W : AH → Prop} {f g : Fr} {H K : AH} {L : List Step} (h : RunD E true ops ms W 0 ops.toList f H L g K) (hm : P.follows .mixedOrders = true) (hord : orderOk ops (bef ops) = true) (fl : List Nat) (hpairs : pairsF (bef ops) fl ms = true) (hsorted : ms.Pairwise (· < ·)) (hfl : flOk ops (bef ops) ms fl = true) (hW : W H) (id : Nat) :
    Says P (.region id ops true) .normal g K f H := by
  refine ⟨h.w0, ?_⟩
  obtain ⟨hlen, ⟨s0, hs0, hs0f, hs0H⟩, hst⟩ := h.at
  have hlen' : L.length = ops.size := by rw [hlen, Array.length_toList]
  let A := L ++ [(g, K, undef, false)]
  let d : Step := (g, K, undef, false)
  let F := fun i => (A.getD i d).1
  let HH := fun i => (A.getD i d).2.1
  let V := fun i => (A.getD i d).2.2.1
  let M := fun i => (A.getD i d).2.2.2
  have hA : ∀ i, i < ops.size → ∃ s, L[i]? = some s ∧ A.getD i d = s := by
    intro i hi
    refine ⟨L[i]'(by omega), by simp [hlen', hi], ?_⟩
    simp only [A, List.getD_eq_getElem?_getD]
    rw [List.getElem?_append_left (by omega)]
    simp [hlen', hi]
  have hAn : A.getD ops.size d = d := by
    simp only [A, List.getD_eq_getElem?_getD]
    rw [List.getElem?_append_right (by omega)]
    simp [hlen', d]
  have hstep : ∀ i o, ops[i]? = some o → SD E true ops ms W i o (F i) (HH i) (V i) (HH (i + 1)) (M i) ∧ (F i).put o.dst (V i) = some (F (i + 1)) := by
    intro i o ho
    obtain ⟨s, h1, h2⟩ := hA i (alt_of_getElem? ho)
    obtain ⟨s', q1, q2, q3⟩ := hst i o s (by simpa using ho) h1
    have e : A.getD (i + 1) d = s' := by simp only [A, List.getD_eq_getElem?_getD, q1, Option.getD_some]
    simp only [F, HH, V, M, h2, e]
    rw [Nat.zero_add] at q2
    exact ⟨q2, q3⟩
  have hF0 : F 0 = f ∧ HH 0 = H := by
    have e : A.getD 0 d = s0 := by simp only [A, List.getD_eq_getElem?_getD, hs0, Option.getD_some]
    simp only [F, HH, e]
    exact ⟨hs0f, hs0H⟩
  have still : ∀ i, i < ops.size → M i = false → HH (i + 1) = HH i := by
    intro i hi hM
    have ho : ops[i]? = some ops[i] := Array.getElem?_eq_getElem hi
    rcases (hstep i _ ho).1 with ⟨_, _, _, h4⟩ | ⟨_, _, h4, _⟩ | ⟨_, h4, _⟩ | ⟨_, h4, _⟩
    · exact h4
    · exact h4
    · rw [hM] at h4; cases h4
    · rw [hM] at h4; cases h4
  have w0s : ∀ i, i < ops.size → (HH (i + 1)).w0 = (HH i).w0 := by
    intro i hi
    have ho : ops[i]? = some ops[i] := Array.getElem?_eq_getElem hi
    rcases (hstep i _ ho).1 with ⟨_, _, _, h4⟩ | ⟨_, _, h4, _⟩ | ⟨_, _, _, h4⟩ | ⟨_, _, _, h4, _⟩
    · rw [h4]
    · rw [h4]
    · exact aop_w0 E h4
    · exact h4
  have mainW : ∀ i, i < ops.size → M i = true → i ∈ ms ∧ W (HH (i + 1)) := by
    intro i hi hM
    have ho : ops[i]? = some ops[i] := Array.getElem?_eq_getElem hi
    rcases (hstep i _ ho).1 with ⟨_, _, h4, _⟩ | ⟨_, h4, _⟩ | ⟨_, _, h4, _⟩ | ⟨_, _, h4, _⟩
    · rw [hM] at h4; cases h4
    · rw [hM] at h4; cases h4
    · exact h4 rfl
    · exact h4 rfl
  have allW : ∀ t, t ≤ ops.size → W (HH t) := by
    intro t
    induction t with
    | zero => intro _; rw [hF0.2]; exact hW
    | succ t ih =>
      intro ht
      cases hMt : M t with
      | true => exact (mainW t (by omega) hMt).2
      | false => rw [still t (by omega) hMt]; exact ih (by omega)
  have between : ∀ n a, a + n ≤ ops.size → (∀ j, a ≤ j → j < a + n → M j = false) → HH (a + n) = HH a := by
    intro n
    induction n with
    | zero => intro a _ _; rfl
    | succ n ih =>
      intro a ha hno
      rw [show a + (n + 1) = a + n + 1 by omega, still (a + n) (by omega) (hno _ (by omega) (by omega))]
      exact ih a (by omega) (fun j h1 h2 => hno j h1 (by omega))
  have hfl' := flOk_spec hfl
  have T : TraceF E ops F HH V M (fun i => fl.contains i) := by
    refine ⟨⟨hord, fun i o ho => (hstep i o ho).2⟩, fun i o ho hFi => ?_, fun i o ho hFi => ?_, still, fun i j hij hj hMi hMj => ?_, fun k i j hk hi hj hFk hFi hMj hb => ?_, fun i j hi hj hFi hFj => ?_⟩
    · have hi := alt_of_getElem? ho
      rcases (hstep i o ho).1 with ⟨h1, h2, h3, h4⟩ | ⟨h1, h2, h3, ⟨hqt, h4⟩, h5⟩ | ⟨h1, h2, h3, h4⟩ | ⟨h1, h2, _, _, c, args, h3, h4⟩
      · exact .inl ⟨h1, h2, h3⟩
      · refine .inr (.inl ⟨h1, h2, hqt, fun t ht hb ha => ?_⟩)
        rcases h5 rfl with hp | hp | hp
        · exact pure_any E hp h4 (HH t)
        · have hcmp : ∀ j, j < ops.size → M j = true → (j < t ↔ j < i) := by
            intro j hj hMj
            have hjm := (mainW j hj hMj).1
            simp only [ordAll, List.all_eq_true] at hp
            have := hp j hjm
            simp only [Bool.or_eq_true, Bool.and_eq_true, Nat.blt, Nat.ble_eq] at this
            rcases this with ⟨q1, q2⟩ | ⟨q1, q2⟩
            · exact ⟨fun _ => q1, fun _ => hb j hj hMj q2⟩
            · have := ha j hj hMj q2
              constructor <;> intro <;> omega
          have : HH t = HH i := by
            rcases Nat.le_total t i with hle | hle
            · have e := between (i - t) t (by omega) (fun j h1 h2 => by
                cases hMj : M j with
                | false => rfl
                | true => have := (hcmp j (by omega) hMj).2 (by omega); omega)
              rw [show t + (i - t) = i by omega] at e; exact e.symm
            · have e := between (t - i) i (by omega) (fun j h1 h2 => by
                cases hMj : M j with
                | false => rfl
                | true => have := (hcmp j (by omega) hMj).1 (by omega); omega)
              rw [show i + (t - i) = t by omega] at e; exact e
          rw [this]; exact h4
        · exact hp _ (allW t ht)
      · exact .inr (.inr (.inl ⟨h1, h2, h4⟩))
      · exact .inr (.inr (.inr ⟨h1, h2, c, args, h3, h4⟩))
    · obtain ⟨ty, d2, q1, q2, q3⟩ := hfl'.1 i o ho (by simpa using hFi)
      have haw : awanted ops (sval (F i)) o = true := by unfold awanted; rw [q2]
      rcases (hstep i o ho).1 with ⟨h1, _⟩ | ⟨_, _, _, ⟨hqt, _⟩, _⟩ | ⟨h1, h2, h3, h4⟩ | ⟨_, _, _, _, c, args, h3, _⟩
      · rw [haw] at h1; cases h1
      · rw [q1] at hqt; simp only [isQuiet] at hqt; cases hqt
      · rw [q1] at h4
        simp only [aop, aalloc] at h4
        split at h4
        · rename_i ii hii
          split at h4
          · rename_i z hz
            simp only [abox, Option.some.injEq, Prod.mk.injEq] at h4
            exact ⟨h2, haw, d2, none, _, q3, h4.1.symm, h4.2.symm, alloc_new E hii hz q1 _⟩
          · cases h4
        · cases h4
      · rw [q1] at h3; simp only [acallee] at h3; cases h3
    · have m1 := (mainW i (by omega) hMi).1
      have m2 := (mainW j hj hMj).1
      exact pairsF_bit hpairs hsorted i j m1 m2 hij
    · exact hfl'.2.1 k i j hk (by simpa using hFk) (by simpa using hFi) (mainW j (by omega) hMj).1 hj hb
    · exact hfl'.2.2 i j (by simpa using hFi) (by simpa using hFj)
  have := T.region hm w0s (Q := fun e' g' K' => e' = .normal ∧ g' = g ∧ K' = K) (by simp only [F, HH, hAn]; exact ⟨trivial, rfl, rfl⟩) id
  rw [hF0.1, hF0.2] at this
  exact this
end

section
variable {P : Program} {E : Env P} {S H0 : AH} {A0 A : Nat → Prop} {L : OL} {K : AQ}
theorem sx_drawF {ops : Array Oper} {id : Nat} {f : Fr} (hm : P.follows .mixedOrders = true) (ms fl : List Nat) (Lw : OL) (hLw : Lw.Sublist L) (hord : orderOk ops (bef ops) = true) (hpairs : pairsF (bef ops) fl ms = true) (hfl : flOk ops (bef ops) ms fl = true) (hsorted : ms.Pairwise (· < ·))
    (h : SO E ⟨true, ops, ms, S, A0, H0, A, Lw⟩ 0 ops.toList (fun f H => K .normal f H) f H0 A L) : SX P (.region id ops true) K f S A0 H0 A L := by
  intro H hH
  have hW : HS S H0 A0 A Lw H := hH.subl hLw
  obtain ⟨Ls, g, K', hr, hq⟩ := h (fun _ => ⟨fun p hp => hLw.subset hp, hW.dist, fun j hj => ⟨hj, rfl⟩, rfl⟩) H hH
  exact ⟨.normal, g, K', hq, hr.drawF hm hord fl hpairs hsorted hfl hW id⟩
end

theorem XCall.b {P : Program} {g : FuncId} {args : List Value} {H : AH} {b b' : Bool} {K : AH → Prop} (h : XCall P g args H fun v H' => v = .bool b ∧ K H') (hb : b = b') : XCall P g args H fun v H' => v = .bool b' ∧ K H' := by rw [← hb]; exact h
theorem XCall.i {P : Program} {g : FuncId} {args : List Value} {H : AH} {k : IntKind} {b b' : Int} {K : AH → Prop} (h : XCall P g args H fun v H' => v = .int k b ∧ K H') (hb : b = b') : XCall P g args H fun v H' => v = .int k b' ∧ K H' := by rw [← hb]; exact h
end Go.AM
