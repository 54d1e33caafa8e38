/-
  The abstract machine, part 7: copy, len, maps, conversions, small operations; one operation.
-/
import Derived.Test.YtpfgpjopjadmiaaGreatDoorAM6
set_option linter.unusedVariables false
set_option linter.unusedSimpArgs false
noncomputable section
namespace Go.AM
open Go.RowKit

section
variable {P : Program} (E : Env P)

def acopy (dT : TypeId) (d x : Value) (H : AH) : Option (Value × AH) :=
  match E.und dT, d, alenOf x with
  | some (.slice e), .slice base dLen _, some m => (match E.inf e with
    | some i =>
      (match afirst i.size (Nat.min m dLen) x H with
      | some l =>
        (match base with
        | some a => bif Nat.beq l.length 0 then some (.int .i64 (Nat.min m dLen), H) else (match astores H a l with
          | some H' => some (.int .i64 (Nat.min m dLen), H')
          | none => none)
        | none => some (.int .i64 (Nat.min m dLen), H))
      | none => none)
    | none => none)
  | _, _, _ => none

theorem acopy_ok [Pins] {φ : List Place} {H H' : AH} {w : World} (R : Rel φ H w) {dT xT : TypeId} {d d' x x' v : Value} (ty : TypeId) (hd : VR φ d d') (hx : VR φ x x') (h : acopy E dT d x H = some (v, H')) :
    SOk P (Builtin.copy_ #[dT, xT] ty #[d', x']) φ w v H' := by
  unfold acopy at h
  split at h
  · rename_i e base dLen cap m hu hm
    split at h
    · rename_i i hi
      split at h
      · rename_i l hl
        obtain ⟨l', h1, h2⟩ := afirst_ok (P := P) R hx hm (Nat.min_le_left _ _) hl
        have hlen := alenOf_ok (P := P) hx hm w
        split at h
        · rename_i a
          cases hd with
          | @slc _ a' _ _ c' hs =>
            cases hl0 : Nat.beq l.length 0 with
            | true =>
              rw [hl0, cond_true] at h
              cases h
              have e1 := Nat.eq_of_beq_eq_true hl0
              have : l' = [] := List.eq_nil_of_length_eq_zero (by have := h1.1; omega)
              subst this
              refine .here R (.int _ _) ?_
              simp [Builtin.copy_, run_und E hu, hlen, run_sizeOf' E hi, h2, goInt, storeCells]
            | false =>
              rw [hl0, cond_false] at h
              split at h
              · rename_i H2 hst
                cases h
                have hA : ARel φ a a' := by
                  rcases hs with ⟨_, _, hA⟩ | ⟨hodd, q1, q2, h3 | ⟨hA, _⟩⟩
                  · exact hA
                  · exfalso
                    obtain rfl : dLen = 0 := by omega
                    have hz : Nat.min m 0 = 0 := Nat.min_zero m
                    rw [hz] at hl
                    have : l.length = 0 := by
                      unfold afirst at hl
                      split at hl
                      · simp [aloads] at hl; rw [hl]; rfl
                      · simp at hl; rw [hl]; rfl
                      · cases hl; simp
                      · cases hl
                    rw [this] at hl0; cases hl0
                  · exact hA
                obtain ⟨w', hw1, hw2⟩ := astores_ok P R hA h1 hst
                refine ⟨φ, _, w', List.prefix_refl _, hw2, .int _ _, ?_⟩
                simp [Builtin.copy_, run_und E hu, hlen, run_sizeOf' E hi, h2, goInt, hw1]
              · cases h
        · cases h
          cases hd
          refine .here R (.int _ _) ?_
          simp [Builtin.copy_, run_und E hu, hlen, run_sizeOf' E hi, h2, goInt]
      · cases h
    · cases h
  · cases h

def alen (t : TypeId) (x : Value) (H : AH) : Option Value :=
  match E.und t, x with
  | some .string, .string s => some (.int .i64 s.data.toList.length)
  | some (.array n _), _ => some (.int .i64 n)
  | some (.slice _), .slice _ n _ => some (.int .i64 n)
  | some (.map _ _), .map none => some (.int .i64 0)
  | some (.map _ _), .map (some r) =>
    bif Nat.beq (r % 2) 0 then none else
    (match H.tr.get (r / 2) with
    | some (.map es _) => some (.int .i64 es.length)
    | _ => none)
  | _, _ => none

theorem own_map [Pins] {φ : List Place} {H : AH} {w : World} (R : Rel φ H w) {r r' : Nat} (hr : BRel φ r r') (hodd : r % 2 = 1) {es : List (Value × Value × Nat)} {clock : Nat} (hg : H.tr.get (r / 2) = some (.map es clock)) :
    ∃ es' : Array MapEntry, w.heap[r']? = some (.map es' clock) ∧ ERel φ es es'.toList := by
  rcases hr with ⟨h0, _⟩ | ⟨_, p, hp, rfl⟩
  · omega
  · obtain ⟨q, hq, hN, hO⟩ := R.obj _ _ hg
    rw [hp] at hq; cases hq
    exact hO

theorem run_getObj_map {w : World} {r : Nat} {es : Array MapEntry} {c : Nat} (h : w.heap[r]? = some (.map es c)) : (getObj r).run P w = .ok (.map es c) w := by
  simp [getObj, Sem.run, h]

theorem alen_ok [Pins] {φ : List Place} {H : AH} {w : World} (R : Rel φ H w) {t ty : TypeId} {x x' v : Value} (hx : VR φ x x') (h : alen E t x H = some v) :
    ∃ v', VR φ v v' ∧ (Builtin.len_ #[t] ty #[x']).run P w = .ok v' w := by
  unfold alen at h
  split at h
  · rename_i hu; cases h; cases hx
    exact ⟨_, .int _ _, by simp [Builtin.len_, run_und E hu, goInt]⟩
  · rename_i hu; cases h
    exact ⟨_, .int _ _, by simp [Builtin.len_, run_und E hu, goInt]⟩
  · rename_i hu; cases h
    cases hx <;> exact ⟨_, .int _ _, by simp [Builtin.len_, run_und E hu, goInt]⟩
  · rename_i hu; cases h; cases hx
    exact ⟨_, .int _ _, by simp [Builtin.len_, run_und E hu, goInt]⟩
  · rename_i r hu
    cases hx with
    | mp hr =>
      cases hev : Nat.beq (r % 2) 0 with
      | true => rw [hev] at h; cases h
      | false =>
        rw [hev, cond_false] at h
        split at h
        · rename_i es c hg
          cases h
          obtain ⟨es', h1, h2⟩ := own_map R hr (mod2_ne hev) hg
          refine ⟨_, .int _ _, ?_⟩
          have hl : es'.size = es.length := by rw [← Array.length_toList]; exact h2.1.symm
          simp [Builtin.len_, run_und E hu, goInt, run_getObj_map h1, hl]
        · cases h
  · cases h

def acap (t : TypeId) (x : Value) (H : AH) : Option Value :=
  match E.und t, x with
  | some (.array n _), _ => some (.int .i64 n)
  | some (.slice _), .slice none _ c => some (.int .i64 c)
  | some (.slice e), .slice (some a) _ c =>
    bif Nat.beq (a.block % 2) 0 then some (.int .i64 c) else
    (match E.inf e, H.tr.get (a.block / 2) with
    | some i, some (.cells cs sz true) => bif Nat.beq sz i.size && Nat.blt cs.length (a.off + (c + 1) * sz) then some (.int .i64 c) else none
    | _, _ => none)
  | _, _ => none

theorem acap_ok [Pins] {φ : List Place} {H : AH} {w : World} (R : Rel φ H w) {t ty : TypeId} {x x' v : Value} (hx : VR φ x x') (h : acap E t x H = some v) :
    ∃ v', VR φ v v' ∧ (Builtin.cap_ #[t] ty #[x']).run P w = .ok v' w := by
  unfold acap at h
  split at h
  · rename_i hu; cases h
    exact ⟨_, .int _ _, by simp [Builtin.cap_, run_und E hu, goInt]⟩
  · rename_i hu; cases h; cases hx
    exact ⟨_, .int _ _, by simp [Builtin.cap_, run_und E hu, goInt]⟩
  · rename_i e a l c hu
    cases hx with
    | @slc _ a' _ _ c' hs =>
      have hrun : (Builtin.cap_ #[t] ty #[.slice (some a') l c']).run P w = .ok (.int .i64 c') w := by simp [Builtin.cap_, run_und E hu, goInt]
      cases hev : Nat.beq (a.block % 2) 0 with
      | true =>
        rw [hev, cond_true] at h
        cases h
        have hev' := Nat.eq_of_beq_eq_true hev
        rcases hs with ⟨_, rfl, _⟩ | ⟨h0, _⟩
        · exact ⟨_, .int _ _, hrun⟩
        · omega
      | false =>
        rw [hev, cond_false] at h
        have hodd := mod2_ne hev
        split at h
        · rename_i i cs sz hi hg
          cases hb : (Nat.beq sz i.size && Nat.blt cs.length (a.off + (c + 1) * sz)) with
          | false => rw [hb] at h; cases h
          | true =>
            rw [hb, cond_true] at h
            cases h
            simp only [Bool.and_eq_true] at hb
            have hlt : cs.length + 1 ≤ a.off + (c + 1) * sz := Nat.le_of_ble_eq_true hb.2
            have hcc : c' = c := by
              rcases hs with ⟨h0, _⟩ | ⟨_, h1, h2, h3 | ⟨hA, hbd⟩⟩
              · omega
              · omega
              · rcases hA with ⟨h0, _⟩ | ⟨_, _, _, p, hp, _⟩
                · omega
                · have hb2 := hbd p hp
                  obtain ⟨o1, o2, o3⟩ := own_sz R hg hp
                  have o3 := o3 rfl
                  rw [o1, show esz sz = sz by (rw [Nat.eq_of_beq_eq_true hb.1]; exact esz_small (E.sz_lt _ _ hi))] at hb2
                  rcases Nat.lt_or_ge c' (c + 1) with h' | h'
                  · omega
                  · have := Nat.mul_le_mul_right sz h'
                    omega
            subst hcc
            exact ⟨_, .int _ _, hrun⟩
        · cases h
  · cases h

/-! ### maps -/
def amakeMap (H : AH) : Value × AH := (.map (some (2 * H.nx + 1)), anew H (.map [] 0))

theorem amakeMap_ok [Pins] {φ : List Place} {H : AH} {w : World} (R : Rel φ H w) (t : TypeId) : SOk P (Instr.makeMap t none) φ w (amakeMap H).1 (amakeMap H).2 := by
  refine ⟨_, _, _, ⟨_, rfl⟩, R.new (.map [] 0) (.map #[] 0) 0 0 ⟨#[], rfl, rfl, fun i k v b e h => by simp at h⟩, .mp (r' := w.heap.size) (.inr ⟨by omega, ⟨w.heap.size, 0, 0, 0⟩, ?_, rfl⟩), ?_⟩
  · have : (2 * H.nx + 1) / 2 = φ.length := by rw [R.len]; omega
    simp [this]
  · simp [Instr.makeMap]

/-- keys that are strings or integers -/
def akind : TypeDesc → Value → Bool
  | .string, .string _ => true
  | .int k, .int k' _ => decide (k = k')
  | _, _ => false

theorem akind_cases {d : TypeDesc} {k : Value} (h : akind d k = true) : (d = .string ∧ ∃ s, k = .string s) ∨ ∃ kk n, d = .int kk ∧ k = .int kk n := by
  unfold akind at h
  split at h
  · exact .inl ⟨rfl, _, rfl⟩
  · rename_i k1 k2 n
    simp only [decide_eq_true_eq] at h; subst h; exact .inr ⟨_, _, rfl, rfl⟩
  · cases h

theorem akind_eq {φ : List Place} {d : TypeDesc} {k k' : Value} (h : VR φ k k') (hk : akind d k = true) : k' = k := by
  unfold akind at hk
  split at hk
  · cases h; rfl
  · cases h; rfl
  · cases hk

def asame : Value → Value → Bool
  | .string a, .string b => a.data.toList == b.data.toList
  | .int k a, .int k' b => decide (k = k') && a == b
  | _, _ => false

def afind (d : TypeDesc) (k : Value) : List (Value × Value × Nat) → Nat → Option (Option (Nat × Value))
  | [], _ => some none
  | (k', v, _) :: es, i => bif akind d k' then (bif asame k k' then some (some (i, v)) else afind d k es (i + 1)) else none

theorem afind_ok {φ : List Place} {d : TypeDesc} {k : Value} (hk : akind d k = true) : ∀ (es : List (Value × Value × Nat)) (es' : List MapEntry) (i : Nat) (r : Option (Nat × Value)), ERel φ es es' → afind d k es i = some r →
    ∃ r', Instr.findNow d k es' i = some r' ∧ (match r with
      | none => r' = none
      | some (j, v) => ∃ v', r' = some (j, v') ∧ VR φ v v' ∧ i ≤ j ∧ ∃ e, es'[j - i]? = some e ∧ e.key = k) := by
  intro es
  induction es with
  | nil =>
    intro es' i r hE h
    simp [afind] at h; subst h
    have : es' = [] := List.eq_nil_of_length_eq_zero hE.1.symm
    subst this
    exact ⟨none, rfl, rfl⟩
  | cons x es ih =>
    intro es' i r hE h
    obtain ⟨k', v, b⟩ := x
    cases es' with
    | nil => have := hE.1; simp at this
    | cons e es' =>
      obtain ⟨r1, r2, r3⟩ := hE.2 0 k' v b e rfl rfl
      simp only [afind] at h
      cases hkd : akind d k' with
      | false => rw [hkd] at h; cases h
      | true =>
        rw [hkd, cond_true] at h
        have hkey : e.key = k' := akind_eq r1 hkd
        have hsame : Instr.sameNow d k e.key = some (asame k k') := by
          rw [hkey]
          rcases akind_cases hk with ⟨rfl, s, rfl⟩ | ⟨kk, n, rfl, rfl⟩ <;> rcases akind_cases hkd with ⟨h1, s', rfl⟩ | ⟨kk', n', h1, rfl⟩
          · simp only [Instr.sameNow, asame, beq_toListBytes, ByteArray.toList_eq]
          · cases h1
          · cases h1
          · cases h1; simp [Instr.sameNow, asame]
        cases hs : asame k k' with
        | true =>
          rw [hs, cond_true] at h
          cases h
          refine ⟨some (i, e.val), by simp [Instr.findNow, hsame, hs], e.val, rfl, r2, Nat.le_refl _, e, by simp, ?_⟩
          rw [hkey]
          rcases akind_cases hk with ⟨rfl, s, rfl⟩ | ⟨kk, n, rfl, rfl⟩ <;> rcases akind_cases hkd with ⟨h1, s', rfl⟩ | ⟨kk', n', h1, rfl⟩
          · simp only [asame, beq_iff_eq] at hs
            congr 1
            apply ByteArray.ext
            rw [← Array.toList_inj]; exact hs.symm
          · cases h1
          · cases h1
          · simp only [asame, Bool.and_eq_true, decide_eq_true_eq, beq_iff_eq] at hs
            rw [hs.1, hs.2]
        | false =>
          rw [hs, cond_false] at h
          have hE' : ERel φ es es' := ⟨by have := hE.1; simpa using this, fun j k v b e h1 h2 => hE.2 (j + 1) k v b e (by simpa using h1) (by simpa using h2)⟩
          obtain ⟨r', q1, q2⟩ := ih es' (i + 1) r hE' h
          refine ⟨r', by simp [Instr.findNow, hsame, hs, q1], ?_⟩
          split
          · exact q2
          · rename_i j v
            obtain ⟨v', a1, a2, a3, e, a4, a5⟩ := q2
            refine ⟨v', a1, a2, by omega, e, ?_, a5⟩
            rw [show j - i = (j - (i + 1)) + 1 by omega]
            simpa using a4

def alookup (t : TypeId) (x ix : Value) (ok : Bool) (H : AH) : Option Value :=
  match E.und t, x with
  | some (.map kt et), .map r =>
    (match E.und kt, E.inf et with
    | some d, some i =>
      bif akind d ix then
        (match i.zero with
        | some z =>
          (match (match r with
            | none => some []
            | some r => bif Nat.beq (r % 2) 0 then none else (match H.tr.get (r / 2) with
              | some (.map es _) => some es
              | _ => none)) with
          | some es =>
            (match afind d ix es 0 with
            | some (some (_, v)) => some (if ok then .tuple ⟨[v, .bool true]⟩ else v)
            | some none => some (if ok then .tuple ⟨[ext z, .bool false]⟩ else ext z)
            | none => none)
          | none => none)
        | none => none)
      else none
    | _, _ => none)
  | _, _ => none

theorem run_checkKey {kt : TypeId} {d : TypeDesc} {k : Value} (hd : E.und kt = some d) (hk : akind d k = true) (b : Bool) (n : Nat) (w : World) : (Instr.checkKey b (n + 1) kt k).run P w = .ok () w := by
  simp only [Instr.checkKey, Sem.run_bind, run_und E hd, Result.andThen_ok]
  rcases akind_cases hk with ⟨rfl, s, rfl⟩ | ⟨kk, n, rfl, rfl⟩ <;> rfl

theorem alookup_ok [Pins] {φ : List Place} {H : AH} {w : World} (R : Rel φ H w) {t : TypeId} {x x' ix ix' v : Value} {ok : Bool} (hx : VR φ x x') (hi : VR φ ix ix') (h : alookup E t x ix ok H = some v) :
    ∃ v', VR φ v v' ∧ (Instr.lookup t x' ix' ok).run P w = .ok v' w := by
  unfold alookup at h
  split at h
  · rename_i kt et r hu
    split at h
    · rename_i d i hd hinf
      cases hk : akind d ix with
      | false => rw [hk] at h; cases h
      | true =>
        rw [hk, cond_true] at h
        obtain rfl := akind_eq hi hk
        split at h
        · rename_i z hz
          split at h
          · rename_i es hes
            have hr : ∃ es' : Array MapEntry, ERel φ es es'.toList ∧ (Instr.lookup t x' ix' ok).run P w = (do
                Instr.checkKey es'.isEmpty 10000 kt ix'
                let (v, o) ← match ← Instr.findKey kt ix' es'.toList with
                  | some (_, v) => pure (v, true)
                  | none => pure (← zeroValue et, false)
                pure (if ok then .tuple #[v, .bool o] else v) : Sem Value).run P w := by
              cases hx with
              | mnil =>
                simp at hes; subst hes
                refine ⟨#[], ⟨rfl, fun i k v b e h => by simp at h⟩, ?_⟩
                unfold Instr.lookup
                rw [Sem.run_bind, run_und E hu]
                rfl
              | mp hr =>
                rename_i rr rr'
                simp only at hes
                cases hev : Nat.beq (rr % 2) 0 with
                | true => rw [hev] at hes; cases hes
                | false =>
                  rw [hev, cond_false] at hes
                  split at hes
                  · rename_i es2 c hg
                    cases hes
                    obtain ⟨es', h1, h2⟩ := own_map R hr (mod2_ne hev) hg
                    refine ⟨es', h2, ?_⟩
                    unfold Instr.lookup
                    rw [Sem.run_bind, run_und E hu]
                    simp only [Result.andThen_ok]
                    rw [Sem.run_bind, run_getObj_map h1]
                    rfl
                  · cases hes
            obtain ⟨es', hE, hstart⟩ := hr
            rw [hstart]
            have hck := run_checkKey E hd hk es'.isEmpty 9999 w
            split at h
            · rename_i j v1 hf
              cases h
              obtain ⟨r', q1, v', rfl, q2, _⟩ := afind_ok hk es es'.toList 0 _ hE hf
              have hfk : (Instr.findKey kt ix' es'.toList).run P w = .ok (some (j, v')) w := by simp [Instr.findKey, run_und E hd, q1]
              refine ⟨if ok then .tuple #[v', .bool true] else v', ?_, ?_⟩
              · cases ok
                · exact q2
                · exact VR.tuple' (VRs.cons q2 (VRs.cons (.bool true) (VRs.nil φ)))
              · simp only [Sem.run_bind, hck, Result.andThen_ok, hfk, Sem.run_pure]
            · rename_i hf
              cases h
              obtain ⟨r', q1, rfl⟩ := afind_ok hk es es'.toList 0 _ hE hf
              have hfk : (Instr.findKey kt ix' es'.toList).run P w = .ok none w := by simp [Instr.findKey, run_und E hd, q1]
              refine ⟨if ok then .tuple #[z, .bool false] else z, ?_, ?_⟩
              · cases ok
                · exact VR.ext φ z
                · exact VR.tuple' (VRs.cons (VR.ext φ z) (VRs.cons (.bool false) (VRs.nil φ)))
              · simp only [Sem.run_bind, hck, Result.andThen_ok, hfk, run_zeroValue' E hinf hz, Sem.run_pure]
            · cases h
          · cases h
        · cases h
    · cases h
  · cases h

def amapUpdate (t : TypeId) (m k v : Value) (H : AH) : Option AH :=
  match E.und t, m with
  | some (.map kt _), .map (some r) =>
    bif Nat.beq (r % 2) 0 then none else
    (match E.und kt, H.tr.get (r / 2) with
    | some d, some (.map es c) =>
      bif akind d k then
        (match afind d k es 0 with
        | some (some (j, _)) => some { H with tr := H.tr.set (r / 2) (some (.map (es.modify j fun e => (k, v, e.2.2)) c)) }
        | some none => some { H with tr := H.tr.set (r / 2) (some (.map (es ++ [(k, v, c)]) (c + 1))) }
        | none => none)
      else none
    | _, _ => none)
  | _, _ => none

/-- an object of another kind in the same block -/
theorem Rel.setMap [Pins] {φ : List Place} {H : AH} {w : World} (R : Rel φ H w) {i : Nat} {es : List (Value × Value × Nat)} {c : Nat} (hg : H.tr.get i = some (.map es c)) {p : Place} (hp : φ[i]? = some p)
    {es2 : List (Value × Value × Nat)} {c2 : Nat} {es2' : Array MapEntry} (hE : ERel φ es2 es2'.toList) :
    Rel φ { H with tr := H.tr.set i (some (.map es2 c2)) } { w with heap := w.heap.setIfInBounds p.blk (.map es2' c2) } := by
  obtain ⟨q, hq, hN, hO⟩ := R.obj _ _ hg
  rw [hp] at hq; cases hq
  obtain ⟨es', hx, _⟩ := hO
  have hblk := alt_of_getElem? hx
  have other : ∀ k, k ≠ p.blk → ({ w with heap := w.heap.setIfInBounds p.blk (.map es2' c2) } : World).heap[k]? = w.heap[k]? := by
    intro k hk
    simp only [Array.getElem?_setIfInBounds]
    rw [if_neg (fun h => hk h.symm)]
  refine ⟨⟨R.below.os, R.below.tape, R.below.output, by simpa using R.below.size, fun k hk => ?_⟩, R.len, fun j o' hj => ?_, fun j k o1 o2 p1 p2 hj hk hp1 hp2 hE => ?_, pin_set R hp _, fun i p hp => by simpa using R.lt i p hp⟩
  · have hk' : k < H.w0.heap.size := hk
    rw [other k (by omega)]; exact R.below.block k hk
  · by_cases hji : j = i
    · subst hji
      simp only [Tr.get_set_same] at hj
      cases hj
      exact ⟨p, hp, hN, es2', by simp [hblk], hE⟩
    · simp only [Tr.get_set_ne _ _ hji] at hj
      obtain ⟨q, hq, hNq, hOq⟩ := R.obj _ _ hj
      refine ⟨q, hq, hNq, ?_⟩
      have hne : q.blk ≠ p.blk := fun hE => hji (R.inj j i _ _ q p hj hg hq hp hE)
      rw [other _ hne]; exact hOq
  · have back : ∀ j o', (H.tr.set i (some (AObj.map es2 c2))).get j = some o' → ∃ o'', H.tr.get j = some o'' := by
      intro j o' h
      by_cases hji : j = i
      · subst hji; exact ⟨_, hg⟩
      · exact ⟨o', by rwa [Tr.get_set_ne _ _ hji] at h⟩
    obtain ⟨o1', h1⟩ := back _ _ hj
    obtain ⟨o2', h2⟩ := back _ _ hk
    exact R.inj j k _ _ p1 p2 h1 h2 hp1 hp2 hE

theorem run_setObj {w : World} {r : Nat} {es : Array MapEntry} {c : Nat} (h : w.heap[r]? = some (.map es c)) (o : Obj) : (setObj r o).run P w = .ok () { w with heap := w.heap.setIfInBounds r o } := by
  simp [setObj, Sem.run, h]

theorem sameBits_kind {d : TypeDesc} {k : Value} (hk : akind d k = true) : Instr.sameBits 10000 k k = true := by
  rcases akind_cases hk with ⟨rfl, s, rfl⟩ | ⟨kk, n, rfl, rfl⟩
  · simp [Instr.sameBits, beq_toListBytes]
  · simp [Instr.sameBits]

theorem amapUpdate_ok [Pins] {φ : List Place} {H H' : AH} {w : World} (R : Rel φ H w) {t : TypeId} {m m' k k' v v' : Value} (hm : VR φ m m') (hk : VR φ k k') (hv : VR φ v v') (h : amapUpdate E t m k v H = some H') :
    ∃ w', Rel φ H' w' ∧ (Instr.mapUpdate t m' k' v').run P w = .ok () w' := by
  unfold amapUpdate at h
  split at h
  · rename_i kt et r hu
    cases hm with
    | mp hr =>
      rename_i r'
      cases hev : Nat.beq (r % 2) 0 with
      | true => rw [hev] at h; cases h
      | false =>
        rw [hev, cond_false] at h
        split at h
        · rename_i d es c hd hg
          cases hkk : akind d k with
          | false => rw [hkk] at h; cases h
          | true =>
            rw [hkk, cond_true] at h
            obtain rfl := akind_eq hk hkk
            obtain ⟨es', h1, hE⟩ := own_map R hr (mod2_ne hev) hg
            have hr2 := hr
            rcases hr2 with ⟨h0, _⟩ | ⟨_, p, hp, hrp⟩
            · have := mod2_ne hev; omega
            have hck := run_checkKey E hd hkk false 9999 w
            split at h
            · rename_i j v1 hf
              cases h
              obtain ⟨rr, q1, v2, rfl, q2, _, e, q3, q4⟩ := afind_ok hkk es es'.toList 0 _ hE hf
              have hfk : (Instr.findKey kt k' es'.toList).run P w = .ok (some (j, v2)) w := by simp [Instr.findKey, run_und E hd, q1]
              have hkey : (((es'[j]?).map (·.key)).getD k') = k' := by
                rw [Nat.sub_zero] at q3
                rw [← Array.getElem?_toList, q3]; simp [q4]
              refine ⟨_, R.setMap hg hp (es2' := es'.modify j fun e => { e with key := k', val := v' }) (c2 := c) ?_, ?_⟩
              · refine ⟨by have := hE.1; simpa using this, fun i kk vv bb ee hi hi' => ?_⟩
                rw [Array.toList_modify, List.getElem?_modify] at hi'
                rw [List.getElem?_modify] at hi
                by_cases hij : j = i
                · subst hij
                  cases hes : es[j]? with
                  | none => rw [hes] at hi; simp at hi
                  | some x =>
                    cases hes' : es'.toList[j]? with
                    | none => rw [hes'] at hi'; simp at hi'
                    | some x' =>
                      rw [hes] at hi; rw [hes'] at hi'
                      simp at hi hi'
                      obtain ⟨x1, x2, x3⟩ := x
                      obtain ⟨s1, s2, s3⟩ := hE.2 j x1 x2 x3 x' hes hes'
                      obtain ⟨rfl, rfl, rfl⟩ := hi
                      subst hi'
                      exact ⟨hk, hv, s3⟩
                · simp [hij] at hi hi'
                  exact hE.2 i kk vv bb ee hi (by simpa using hi')
              · rw [hrp] at h1 ⊢
                simp only [Instr.mapUpdate, Sem.run_bind, run_und E hu, Result.andThen_ok, run_getObj_map h1, hck, hfk, Instr.keyThatStays, hkey, sameBits_kind hkk, if_true, Sem.run_pure, run_setObj h1]
            · rename_i hf
              cases h
              obtain ⟨rr, q1, rfl⟩ := afind_ok hkk es es'.toList 0 _ hE hf
              have hfk : (Instr.findKey kt k' es'.toList).run P w = .ok none w := by simp [Instr.findKey, run_und E hd, q1]
              refine ⟨_, R.setMap hg hp (es2' := es'.push { key := k', val := v', born := c }) (c2 := c + 1) ?_, ?_⟩
              · refine ⟨by have := hE.1; simpa using this, fun i kk vv bb ee hi hi' => ?_⟩
                rw [Array.toList_push] at hi'
                by_cases hil : i < es.length
                · rw [List.getElem?_append_left hil] at hi
                  rw [List.getElem?_append_left (by rw [← hE.1]; exact hil)] at hi'
                  exact hE.2 i kk vv bb ee hi hi'
                · rw [List.getElem?_append_right (by omega)] at hi
                  rw [List.getElem?_append_right (by rw [← hE.1]; omega), ← hE.1] at hi'
                  cases hz : i - es.length with
                  | zero =>
                    rw [hz] at hi hi'
                    simp at hi hi'
                    obtain ⟨rfl, rfl, rfl⟩ := hi
                    subst hi'
                    exact ⟨hk, hv, rfl⟩
                  | succ n => rw [hz] at hi; simp at hi
              · rw [hrp] at h1 ⊢
                simp only [Instr.mapUpdate, Sem.run_bind, run_und E hu, Result.andThen_ok, run_getObj_map h1, hck, hfk, run_setObj h1]
            · cases h
        · cases h
  · cases h
/-! ### maps whose keys are structs of plain parts -/
def akeyOk : Nat → TypeId → Value → Bool
  | 0, _, _ => false
  | d + 1, t, v =>
    match E.und t with
    | some (.int _) => true
    | some .string => true
    | some .bool => true
    | some (.struct fs) => (match v with
      | .agg ⟨xs⟩ => fs.toList.all fun f => (f.name == "_") || (match apart E f.type xs f.offset with
        | some a => akeyOk d f.type a
        | none => false)
      | _ => false)
    | _ => false

theorem run_checkKeyA (b : Bool) (m : Nat) : ∀ (d : Nat) (t : TypeId) (v : Value) (w : World), akeyOk E d t v = true → (Instr.checkKey b (d + m) t v).run P w = .ok () w := by
  intro d
  induction d with
  | zero => intro t v w h; simp [akeyOk] at h
  | succ d ih =>
    intro t v w h
    rw [show d + 1 + m = (d + m) + 1 by omega]
    unfold akeyOk at h
    split at h
    · rename_i hu; rw [Instr.checkKey, Sem.run_bind, run_und E hu, Result.andThen_ok]; rfl
    · rename_i hu; rw [Instr.checkKey, Sem.run_bind, run_und E hu, Result.andThen_ok]; rfl
    · rename_i hu; rw [Instr.checkKey, Sem.run_bind, run_und E hu, Result.andThen_ok]; rfl
    · rename_i fs hu
      split at h
      · rename_i xs
        rw [Instr.checkKey]
        simp only [Sem.run_bind, run_und E hu, Result.andThen_ok]
        rw [← Array.forIn_toList]
        generalize fs.toList = L at h
        induction L with
        | nil => simp
        | cons f L ihL =>
          simp only [List.all_cons, Bool.and_eq_true, Bool.or_eq_true, beq_iff_eq] at h
          have ht := ihL h.2
          rcases h.1 with hn | hn
          · simp only [List.forIn_cons, Sem.run_bind, hn, ne_eq, not_true_eq_false, if_false, Result.andThen_ok, Sem.run_pure]
            exact ht
          · by_cases hn0 : f.name = "_"
            · simp only [List.forIn_cons, Sem.run_bind, hn0, ne_eq, not_true_eq_false, if_false, Result.andThen_ok, Sem.run_pure]
              exact ht
            · split at hn
              · rename_i a ha
                simp only [List.forIn_cons, Sem.run_bind, hn0, ne_eq, not_false_eq_true, if_true, Result.andThen_ok, apart_run E ha, ih _ _ w hn, Sem.run_pure]
                exact ht
              · cases hn
      · cases h
    · cases h

def flatK : Value → Bool
  | .agg ⟨xs⟩ => flatL xs
  | _ => false
theorem flatK_eq {φ : List Place} {v v' : Value} (h : VR φ v v') (hf : flatK v = true) : v' = v := by
  unfold flatK at hf
  split at hf
  · cases h with
    | agg ha hv => rw [flatL_eq ⟨ha, hv⟩ hf]
  · cases hf
def isStruct : TypeDesc → Bool
  | .struct _ => true
  | _ => false

def FoundR (φ : List Place) : Option (Nat × Value) → Option (Nat × Value) → Prop
  | none, r' => r' = none
  | some (j, v), r' => ∃ v', r' = some (j, v') ∧ VR φ v v'
def afindA (kt : TypeId) (k : Value) : List (Value × Value × Nat) → Nat → Option (Option (Nat × Value))
  | [], _ => some none
  | (k', v, _) :: es, i => bif flatK k' then (match aeq E 9 kt k k' with
      | some true => some (some (i, v))
      | some false => afindA kt k es (i + 1)
      | none => none) else none

theorem afindA_ok {φ : List Place} {kt : TypeId} {k : Value} (w : World) : ∀ (es : List (Value × Value × Nat)) (es' : List MapEntry) (i : Nat) (r : Option (Nat × Value)), ERel φ es es' → afindA E kt k es i = some r →
    ∃ r', (Instr.findAsking kt k es' i).run P w = .ok r' w ∧ FoundR φ r r' := by
  intro es
  induction es with
  | nil =>
    intro es' i r hE h
    simp [afindA] at h; subst h
    have : es' = [] := List.eq_nil_of_length_eq_zero hE.1.symm
    subst this
    exact ⟨none, by simp [Instr.findAsking], rfl⟩
  | cons x es ih =>
    intro es' i r hE h
    obtain ⟨k', v, b⟩ := x
    cases es' with
    | nil => have := hE.1; simp at this
    | cons e es' =>
      obtain ⟨r1, r2, r3⟩ := hE.2 0 k' v b e rfl rfl
      simp only [afindA] at h
      cases hfk : flatK k' with
      | false => rw [hfk] at h; cases h
      | true =>
        rw [hfk, cond_true] at h
        have hkey : e.key = k' := flatK_eq r1 hfk
        split at h
        · rename_i hq
          cases h
          have hr := aeq_ok E 9991 9 kt k k' true w hq
          refine ⟨some (i, e.val), ?_, e.val, rfl, r2⟩
          rw [Instr.findAsking, Sem.run_bind, hkey, show (Op.equal kt k k').run P w = .ok true w from hr]
          simp
        · rename_i hq
          have hr := aeq_ok E 9991 9 kt k k' false w hq
          have hE' : ERel φ es es' := ⟨by have := hE.1; simpa using this, fun j k v b e h1 h2 => hE.2 (j + 1) k v b e (by simpa using h1) (by simpa using h2)⟩
          obtain ⟨r', q1, q2⟩ := ih es' (i + 1) r hE' h
          refine ⟨r', ?_, q2⟩
          rw [Instr.findAsking, Sem.run_bind, hkey, show (Op.equal kt k k').run P w = .ok false w from hr]
          simpa using q1
        · cases h

theorem run_findKeyA {φ : List Place} {kt : TypeId} {d : TypeDesc} {k : Value} (hd : E.und kt = some d) (hs : isStruct d = true) (w : World) {es : List (Value × Value × Nat)} {es' : List MapEntry} {r : Option (Nat × Value)} (hE : ERel φ es es') (h : afindA E kt k es 0 = some r) :
    ∃ r', (Instr.findKey kt k es').run P w = .ok r' w ∧ FoundR φ r r' := by
  obtain ⟨r', q1, q2⟩ := afindA_ok E w es es' 0 r hE h
  refine ⟨r', ?_, q2⟩
  unfold isStruct at hs
  split at hs
  · rename_i fs
    rw [Instr.findKey, Sem.run_bind, run_und E hd, Result.andThen_ok]
    cases es' with
    | nil =>
      simp only [Instr.findAsking, Sem.run_pure] at q1
      simp only [Instr.findNow, Sem.run_pure]
      exact q1
    | cons e es' =>
      have : Instr.sameNow (.struct fs) k e.key = none := by cases k <;> rfl
      simp only [Instr.findNow, this]
      exact q1
  · cases hs

def alookupA (t : TypeId) (x ix : Value) (ok : Bool) (H : AH) : Option Value :=
  match E.und t, x with
  | some (.map kt et), .map r =>
    (match E.und kt, E.inf et with
    | some d, some i =>
      bif isStruct d && (flatK ix && akeyOk E 9 kt ix) then
        (match i.zero with
        | some z =>
          (match (match r with
            | none => some []
            | some r => bif Nat.beq (r % 2) 0 then none else (match H.tr.get (r / 2) with
              | some (.map es _) => some es
              | _ => none)) with
          | some es =>
            (match afindA E kt ix es 0 with
            | some (some (_, v)) => some (if ok then .tuple ⟨[v, .bool true]⟩ else v)
            | some none => some (if ok then .tuple ⟨[ext z, .bool false]⟩ else ext z)
            | none => none)
          | none => none)
        | none => none)
      else none
    | _, _ => none)
  | _, _ => none

theorem alookupA_ok [Pins] {φ : List Place} {H : AH} {w : World} (R : Rel φ H w) {t : TypeId} {x x' ix ix' v : Value} {ok : Bool} (hx : VR φ x x') (hi : VR φ ix ix') (h : alookupA E t x ix ok H = some v) :
    ∃ v', VR φ v v' ∧ (Instr.lookup t x' ix' ok).run P w = .ok v' w := by
  unfold alookupA at h
  split at h
  · rename_i kt et r hu
    split at h
    · rename_i d i hd hinf
      cases hk : (isStruct d && (flatK ix && akeyOk E 9 kt ix)) with
      | false => rw [hk] at h; cases h
      | true =>
        rw [hk, cond_true] at h
        simp only [Bool.and_eq_true] at hk
        obtain ⟨hst, hfl, hok⟩ := hk
        obtain rfl := flatK_eq hi hfl
        split at h
        · rename_i z hz
          split at h
          · rename_i es hes
            have hr : ∃ es' : Array MapEntry, ERel φ es es'.toList ∧ (Instr.lookup t x' ix' ok).run P w = (do
                Instr.checkKey es'.isEmpty 10000 kt ix'
                let (v, o) ← match ← Instr.findKey kt ix' es'.toList with
                  | some (_, v) => pure (v, true)
                  | none => pure (← zeroValue et, false)
                pure (if ok then .tuple #[v, .bool o] else v) : Sem Value).run P w := by
              cases hx with
              | mnil =>
                simp at hes; subst hes
                refine ⟨#[], ⟨rfl, fun i k v b e h => by simp at h⟩, ?_⟩
                unfold Instr.lookup
                rw [Sem.run_bind, run_und E hu]
                rfl
              | mp hr =>
                rename_i rr rr'
                simp only at hes
                cases hev : Nat.beq (rr % 2) 0 with
                | true => rw [hev] at hes; cases hes
                | false =>
                  rw [hev, cond_false] at hes
                  split at hes
                  · rename_i es2 c hg
                    cases hes
                    obtain ⟨es', h1, h2⟩ := own_map R hr (mod2_ne hev) hg
                    refine ⟨es', h2, ?_⟩
                    unfold Instr.lookup
                    rw [Sem.run_bind, run_und E hu]
                    simp only [Result.andThen_ok]
                    rw [Sem.run_bind, run_getObj_map h1]
                    rfl
                  · cases hes
            obtain ⟨es', hE, hstart⟩ := hr
            rw [hstart]
            have hck : (Instr.checkKey es'.isEmpty 10000 kt ix').run P w = .ok () w := run_checkKeyA E es'.isEmpty 9991 9 kt ix' w hok
            split at h
            · rename_i j v1 hf
              cases h
              obtain ⟨r', hfk, v', rfl, q2⟩ := run_findKeyA E hd hst w hE hf
              refine ⟨if ok then .tuple #[v', .bool true] else v', ?_, ?_⟩
              · cases ok
                · exact q2
                · exact VR.tuple' (VRs.cons q2 (VRs.cons (.bool true) (VRs.nil φ)))
              · simp only [Sem.run_bind, hck, Result.andThen_ok, hfk, Sem.run_pure]
            · rename_i hf
              cases h
              obtain ⟨r', hfk, rfl⟩ := run_findKeyA E hd hst w hE hf
              refine ⟨if ok then .tuple #[z, .bool false] else z, ?_, ?_⟩
              · cases ok
                · exact VR.ext φ z
                · exact VR.tuple' (VRs.cons (VR.ext φ z) (VRs.cons (.bool false) (VRs.nil φ)))
              · simp only [Sem.run_bind, hck, Result.andThen_ok, hfk, run_zeroValue' E hinf hz, Sem.run_pure]
            · cases h
          · cases h
        · cases h
    · cases h
  · cases h

def amapUpdateA (t : TypeId) (m k v : Value) (H : AH) : Option AH :=
  match E.und t, m with
  | some (.map kt _), .map (some r) =>
    bif Nat.beq (r % 2) 0 then none else
    (match E.und kt, H.tr.get (r / 2) with
    | some d, some (.map es c) =>
      bif isStruct d && (flatK k && akeyOk E 9 kt k) then
        (match afindA E kt k es 0 with
        | some none => some { H with tr := H.tr.set (r / 2) (some (.map (es ++ [(k, v, c)]) (c + 1))) }
        | _ => none)
      else none
    | _, _ => none)
  | _, _ => none

theorem amapUpdateA_ok [Pins] {φ : List Place} {H H' : AH} {w : World} (R : Rel φ H w) {t : TypeId} {m m' k k' v v' : Value} (hm : VR φ m m') (hk : VR φ k k') (hv : VR φ v v') (h : amapUpdateA E t m k v H = some H') :
    ∃ w', Rel φ H' w' ∧ (Instr.mapUpdate t m' k' v').run P w = .ok () w' := by
  unfold amapUpdateA at h
  split at h
  · rename_i kt et r hu
    cases hm with
    | mp hr =>
      rename_i r'
      cases hev : Nat.beq (r % 2) 0 with
      | true => rw [hev] at h; cases h
      | false =>
        rw [hev, cond_false] at h
        split at h
        · rename_i d es c hd hg
          cases hkk : (isStruct d && (flatK k && akeyOk E 9 kt k)) with
          | false => rw [hkk] at h; cases h
          | true =>
            rw [hkk, cond_true] at h
            simp only [Bool.and_eq_true] at hkk
            obtain ⟨hst, hfl, hok⟩ := hkk
            obtain rfl := flatK_eq hk hfl
            obtain ⟨es', h1, hE⟩ := own_map R hr (mod2_ne hev) hg
            have hr2 := hr
            rcases hr2 with ⟨h0, _⟩ | ⟨_, p, hp, hrp⟩
            · have := mod2_ne hev; omega
            have hck : (Instr.checkKey false 10000 kt k').run P w = .ok () w := run_checkKeyA E false 9991 9 kt k' w hok
            split at h
            · rename_i hf
              cases h
              obtain ⟨rr, hfk, rfl⟩ := run_findKeyA E hd hst w hE hf
              refine ⟨_, R.setMap hg hp (es2' := es'.push { key := k', val := v', born := c }) (c2 := c + 1) ?_, ?_⟩
              · refine ⟨by have := hE.1; simpa using this, fun i kk vv bb ee hi hi' => ?_⟩
                rw [Array.toList_push] at hi'
                by_cases hil : i < es.length
                · rw [List.getElem?_append_left hil] at hi
                  rw [List.getElem?_append_left (by rw [← hE.1]; exact hil)] at hi'
                  exact hE.2 i kk vv bb ee hi hi'
                · rw [List.getElem?_append_right (by omega)] at hi
                  rw [List.getElem?_append_right (by rw [← hE.1]; omega), ← hE.1] at hi'
                  cases hz : i - es.length with
                  | zero =>
                    rw [hz] at hi hi'
                    simp at hi hi'
                    obtain ⟨rfl, rfl, rfl⟩ := hi
                    subst hi'
                    exact ⟨hk, hv, rfl⟩
                  | succ n => rw [hz] at hi; simp at hi
              · rw [hrp] at h1 ⊢
                simp only [Instr.mapUpdate, Sem.run_bind, run_und E hu, Result.andThen_ok, run_getObj_map h1, hck, hfk, run_setObj h1]
            · cases h
        · cases h
  · cases h

def orE {α : Type} (a b : Option α) : Option α := match a with
  | some x => some x
  | none => b
theorem orE_some {α : Type} {a b : Option α} {x : α} (h : orE a b = some x) : a = some x ∨ b = some x := by
  cases a with
  | some y => exact .inl h
  | none => exact .inr h
theorem orE_left {α : Type} {a b : Option α} {x : α} (h : a = some x) : orE a b = some x := by rw [h]; rfl
def alookup2 (t : TypeId) (x ix : Value) (ok : Bool) (H : AH) : Option Value := orE (alookup E t x ix ok H) (alookupA E t x ix ok H)
def amapUpdate2 (t : TypeId) (m k v : Value) (H : AH) : Option AH := orE (amapUpdate E t m k v H) (amapUpdateA E t m k v H)
theorem alookup2_ok [Pins] {φ : List Place} {H : AH} {w : World} (R : Rel φ H w) {t : TypeId} {x x' ix ix' v : Value} {ok : Bool} (hx : VR φ x x') (hi : VR φ ix ix') (h : alookup2 E t x ix ok H = some v) :
    ∃ v', VR φ v v' ∧ (Instr.lookup t x' ix' ok).run P w = .ok v' w := by
  rcases orE_some h with h | h
  · exact alookup_ok E R hx hi h
  · exact alookupA_ok E R hx hi h
theorem amapUpdate2_ok [Pins] {φ : List Place} {H H' : AH} {w : World} (R : Rel φ H w) {t : TypeId} {m m' k k' v v' : Value} (hm : VR φ m m') (hk : VR φ k k') (hv : VR φ v v') (h : amapUpdate2 E t m k v H = some H') :
    ∃ w', Rel φ H' w' ∧ (Instr.mapUpdate t m' k' v').run P w = .ok () w' := by
  rcases orE_some h with h | h
  · exact amapUpdate_ok E R hm hk hv h
  · exact amapUpdateA_ok E R hm hk hv h
end
end Go.AM
