/-
  The abstract machine, part 5: slices: slicing, make, append, copy, len.
-/
import Derived.Test.YtpfgpjopjadmiaaGreatDoorAM4
set_option linter.unusedVariables false
set_option linter.unusedSimpArgs false
noncomputable section
namespace Go.AM
open Go.RowKit

theorem Rel.kill [Pins] {φ : List Place} {H : AH} {w : World} (R : Rel φ H w) (i : Nat) : Rel φ { H with tr := H.tr.set i none } w := by
  have back : ∀ j o, (H.tr.set i none).get j = some o → H.tr.get j = some o := by
    intro j o h
    by_cases e : j = i
    · subst e; rw [Tr.get_set_same] at h; cases h
    · rwa [Tr.get_set_ne _ _ e] at h
  exact ⟨R.below, R.len, fun j o h => R.obj j o (back j o h), fun j k o1 o2 p q h1 h2 => R.inj j k o1 o2 p q (back _ _ h1) (back _ _ h2), R.pin, R.lt⟩

theorem ORel.mono {φ φ' : List Place} (h : φ <+: φ') {p : Place} {o : AObj} {x : Option Obj} (hO : ORel φ p o x) : ORel φ' p o x := by
  cases o with
  | cells cs s e => obtain ⟨C, e, lo, hi, hx, h1, h2, h3, h4, h5, h6⟩ := hO; exact ⟨C, e, lo, hi, hx, h1, h2, h3, h4, h5, h6.mono h⟩
  | map es c =>
    obtain ⟨es', hx, h1, h2⟩ := hO
    exact ⟨es', hx, h1, fun i k v b e he he' => let ⟨a1, a2, a3⟩ := h2 i k v b e he he'; ⟨a1.mono h, a2.mono h, a3⟩⟩
  | iter s q => exact hO

theorem Rel.takeOver [Pins] {φ : List Place} {H : AH} {w : World} (R : Rel φ H w) {i : Nat} {cs : List Value} {sz : Nat} {ex : Bool} (hg : H.tr.get i = some (.cells cs sz ex)) {p : Place} (hp : φ[i]? = some p)
    {base2 : Nat} {cs2 : List Value} {C C2 : List Value} {e : TypeId} {lo hi : Nat} (hC : w.heap[p.blk]? = some (.cells C.toArray e (lo, hi))) (hl : C2.length = C.length)
    (hle : base2 + cs2.length ≤ C.length) (hv : VRs φ cs2 ((C2.drop base2).take cs2.length)) (hsm : sz ≤ tagB + 5) :
    Rel (φ ++ [⟨p.blk, base2, p.tot, p.sz⟩]) (anew { H with tr := H.tr.set i none } (.cells cs2 sz false)) { w with heap := w.heap.setIfInBounds p.blk (.cells C2.toArray e (lo, hi)) } := by
  have hpre : φ <+: φ ++ [⟨p.blk, base2, p.tot, p.sz⟩] := ⟨_, rfl⟩
  obtain ⟨q, hq, hN, hO⟩ := R.obj _ _ hg
  rw [hp] at hq; cases hq
  obtain ⟨C', e', lo', hi', hx, hf, ht, hs, hle2, hex, hr⟩ := hO
  rw [hC] at hx; cases hx
  simp only [List.size_toArray] at hf ht
  have hblk := alt_of_getElem? hC
  have other : ∀ k, k ≠ p.blk → ({ w with heap := w.heap.setIfInBounds p.blk (.cells C2.toArray e (lo, hi)) } : World).heap[k]? = w.heap[k]? := by
    intro k hk
    simp only [Array.getElem?_setIfInBounds]
    rw [if_neg (fun h => hk h.symm)]
  have back : ∀ j o, (anew { H with tr := H.tr.set i none } (.cells cs2 sz false)).tr.get j = some o → j ≠ H.nx → H.tr.get j = some o ∧ j ≠ i := by
    intro j o h hne
    simp only [anew] at h
    rw [Tr.get_set_ne _ _ hne] at h
    by_cases e : j = i
    · subst e; rw [Tr.get_set_same] at h; cases h
    · rw [Tr.get_set_ne _ _ e] at h; exact ⟨h, e⟩
  have hi_lt : ∀ j o, H.tr.get j = some o → j < H.nx := by
    intro j o hj
    obtain ⟨q, hq, _⟩ := R.obj j o hj
    rw [← R.len]; exact lt_of_getElem? hq
  have pl : ∀ j q, j < H.nx → (φ ++ [⟨p.blk, base2, p.tot, p.sz⟩])[j]? = some q → φ[j]? = some q := by
    intro j q hl hq
    rwa [List.getElem?_append_left (by rw [R.len]; exact hl)] at hq
  have pn : ∀ q, (φ ++ [(⟨p.blk, base2, p.tot, p.sz⟩ : Place)])[H.nx]? = some q → q.blk = p.blk := by
    intro q hq
    rw [← R.len] at hq; simp at hq; subst hq; rfl
  refine ⟨⟨R.below.os, R.below.tape, R.below.output, by have := R.below.size; simpa [anew] using this, fun k hk => ?_⟩, by simp [anew, R.len], fun j o hj => ?_, fun j k o1 o2 p1 p2 hj hk hp1 hp2 hE => ?_, fun b x hb => ⟨(pin_set R hp _ b x hb).1, pin_places R b x hb ((R.pin b x hb).2 i p hp)⟩, by simpa using lt_places R.lt (Nat.le_refl _) (q := ⟨p.blk, base2, p.tot, p.sz⟩) (R.lt i p hp)⟩
  · have hk' : k < H.w0.heap.size := hk
    rw [other k (by omega)]; exact R.below.block k hk
  · by_cases hjn : j = H.nx
    · subst hjn
      simp only [anew, Tr.get_set_same] at hj
      cases hj
      refine ⟨⟨p.blk, base2, p.tot, p.sz⟩, by rw [← R.len]; simp, hN, C2.toArray, e, lo, hi, by simp [hblk], ?_, ?_, ⟨hs.1, hs.2.1, fun q => absurd q (by omega)⟩, ?_, fun h => by simp at h, ?_⟩
      · simp only [List.size_toArray, hl]; exact hf
      · simp only [List.size_toArray, hl]; exact ht
      · simp only [List.size_toArray, hl]; exact hle
      · exact hv.mono hpre
    · obtain ⟨hj', hji⟩ := back j o hj hjn
      obtain ⟨q, hq, hNq, hOq⟩ := R.obj _ _ hj'
      refine ⟨q, getElem?_prefix hpre hq, hNq, ?_⟩
      have hne : q.blk ≠ p.blk := fun hE => hji (R.inj j i _ _ q p hj' hg hq hp hE)
      rw [other _ hne]; exact hOq.mono hpre
  · by_cases h1 : j = H.nx <;> by_cases h2 : k = H.nx
    · omega
    · obtain ⟨hk', hki⟩ := back k o2 hk h2
      have hq := pl k p2 (hi_lt k o2 hk') hp2
      subst h1
      rw [pn p1 hp1] at hE
      exact absurd (R.inj i k _ _ p p2 hg hk' hp hq hE).symm hki
    · obtain ⟨hj', hji⟩ := back j o1 hj h1
      have hq := pl j p1 (hi_lt j o1 hj') hp1
      subst h2
      rw [pn p2 hp2] at hE
      exact absurd (R.inj j i _ _ p1 p hj' hg hq hp hE) hji
    · obtain ⟨hj', _⟩ := back j o1 hj h1
      obtain ⟨hk', _⟩ := back k o2 hk h2
      exact R.inj j k _ _ p1 p2 hj' hk' (pl j p1 (hi_lt j o1 hj') hp1) (pl k p2 (hi_lt k o2 hk') hp2) hE

section
variable {P : Program} (E : Env P)

/-! ### slicing -/
def abound (v : Option Value) (dflt y : Nat) : Option Nat :=
  match v with
  | none => some dflt
  | some (.int _ i) => if 0 ≤ i ∧ i ≤ y then some i.toNat else none
  | _ => none

def abounds (len cap : Nat) (low high max : Option Value) : Option (Nat × Nat × Nat) :=
  match abound max cap cap with
  | some m => (match (match high, max with
      | some v, _ => abound (some v) 0 m
      | none, none => some len
      | none, some _ => none) with
    | some h => (match abound low 0 h with
      | some l => some (l, h, m)
      | none => none)
    | none => none)
  | none => none

/-- a bound that is given, in the world -/
def ORelV (φ : List Place) (v v' : Option Value) : Prop := (v = none ∧ v' = none) ∨ ∃ a a', v = some a ∧ v' = some a' ∧ VR φ a a'

theorem abound_le {v : Option Value} {d y n : Nat} (h : abound v d y = some n) (hd : v = none → d ≤ y) : n ≤ y := by
  unfold abound at h
  split at h
  · cases h; exact hd rfl
  · split at h
    · rename_i hi; cases h; omega
    · cases h
  · cases h

theorem abound_run {φ : List Place} {v v' : Option Value} {d y y' n : Nat} (hv : ORelV φ v v') (h : abound v d y = some n) (hy : y ≤ y') (code : BoundsCode) (w : World) :
    (v = none ∧ v' = none ∧ n = d) ∨ ∃ x, v' = some x ∧ (Instr.sliceBound x y' code).run P w = .ok n w := by
  rcases hv with ⟨rfl, rfl⟩ | ⟨a, a', rfl, rfl, hr⟩
  · simp [abound] at h; exact .inl ⟨rfl, rfl, h.symm⟩
  · right
    refine ⟨a', rfl, ?_⟩
    unfold abound at h
    split at h
    · rename_i e; cases e
    · rename_i k i e
      cases e
      cases hr
      split at h
      · rename_i hi
        cases h
        rw [run_sliceBound _ _ _ _ _ hi.1 (by omega)]
      · cases h
    · cases h

/-- the three bounds; the world's capacity may be greater -/
theorem abounds_ok {φ : List Place} {len cap cap' l h m : Nat} {lo hi mx lo' hi' mx' : Option Value} (hlo : ORelV φ lo lo') (hhi : ORelV φ hi hi') (hmx : ORelV φ mx mx') (hlen : len ≤ cap) (hc : cap ≤ cap')
    (hb : abounds len cap lo hi mx = some (l, h, m)) (b : Bool) (w : World) :
    l ≤ h ∧ h ≤ m ∧ m ≤ cap ∧ ∃ m', (m' = m ∨ m' = cap' ∧ m = cap) ∧ (Instr.sliceBounds b len cap' lo' hi' mx').run P w = .ok (l, h, m') w := by
  unfold abounds at hb
  split at hb
  · rename_i m0 hm
    split at hb
    · rename_i h0 hh
      split at hb
      · rename_i l0 hl
        cases hb
        have hmle := abound_le hm (fun _ => Nat.le_refl _)
        have hlh := abound_le hl (fun _ => Nat.zero_le _)
        rcases abound_run (P := P) hmx hm hc (if b then .slice3Acap else .slice3Alen) w with ⟨rfl, rfl, rfl⟩ | ⟨mxv, rfl, hrm⟩
        · -- no max
          cases hi with
          | none =>
            rcases hhi with ⟨_, rfl⟩ | ⟨a, a', e, _⟩
            · simp at hh; subst hh
              refine ⟨hlh, hlen, Nat.le_refl _, cap', .inr ⟨rfl, rfl⟩, ?_⟩
              rcases abound_run (P := P) hlo hl (Nat.le_refl _) .sliceB w with ⟨rfl, rfl, rfl⟩ | ⟨x, rfl, hr⟩
              · simp [Instr.sliceBounds]
              · simp [Instr.sliceBounds, hr]
            · cases e
          | some hv =>
            simp only at hh
            have hhm := abound_le hh (by simp)
            refine ⟨hlh, hhm, Nat.le_refl _, cap', .inr ⟨rfl, rfl⟩, ?_⟩
            rcases abound_run (P := P) hhi hh hc (if b then .sliceAcap else .sliceAlen) w with ⟨e, _⟩ | ⟨y, rfl, hrh⟩
            · cases e
            · rcases abound_run (P := P) hlo hl (Nat.le_refl _) .sliceB w with ⟨rfl, rfl, rfl⟩ | ⟨x, rfl, hr⟩
              · simp [Instr.sliceBounds, hrh]
              · simp [Instr.sliceBounds, hrh, hr]
        · -- a max
          cases hi with
          | none =>
            cases mx with
            | none => rcases hmx with ⟨_, e⟩ | ⟨a, a', e, _⟩ <;> cases e
            | some _ => cases hh
          | some hv =>
            simp only at hh
            have hhm := abound_le hh (by simp)
            refine ⟨hlh, hhm, hmle, m, .inl rfl, ?_⟩
            rcases abound_run (P := P) hhi hh (Nat.le_refl _) .slice3B w with ⟨e, _⟩ | ⟨y, rfl, hrh⟩
            · cases e
            · rcases abound_run (P := P) hlo hl (Nat.le_refl _) .slice3C w with ⟨rfl, rfl, rfl⟩ | ⟨x, rfl, hr⟩
              · simp [Instr.sliceBounds, hrm, hrh]
              · simp [Instr.sliceBounds, hrm, hrh, hr]
      · cases hb
    · cases hb
  · cases hb

def aslice (t : TypeId) (x : Value) (lo hi mx : Option Value) (H : AH) : Option Value :=
  match E.und t, x with
  | some .string, .string s =>
    (match mx with
    | none => (match abounds s.data.toList.length s.data.toList.length lo hi none with
      | some (l, h, _) => some (.string ⟨⟨(s.data.toList.take h).drop l⟩⟩)
      | none => none)
    | some _ => none)
  | some (.slice e), .slice none 0 0 => (match E.inf e, abounds 0 0 lo hi mx with
    | some _, some _ => some (.slice none 0 0)
    | _, _ => none)
  | some (.slice e), .slice (some a) len cap =>
    (match E.inf e with
    | some i =>
      bif Nat.ble len cap then
        (match abounds len cap lo hi mx with
        | some (l, h, m) =>
          bif Nat.beq (a.block % 2) 0 then some (.slice (some (if m = l then a else a.add (l * i.size))) (h - l) (m - l))
          else (match H.tr.get (a.block / 2) with
            | some (.cells _ sz _) => bif Nat.beq sz i.size then some (.slice (some (a.add (l * i.size))) (h - l) (m - l)) else none
            | _ => none)
        | none => none)
      else none
    | none => none)
  | some (.array n e), .pointer (some a) =>
    (match E.inf e with
    | some i =>
      (match abounds n n lo hi mx with
      | some (l, h, m) =>
        bif Nat.beq (a.block % 2) 0 then some (.slice (some (if m = l then a else a.add (l * i.size))) (h - l) (m - l))
        else (match H.tr.get (a.block / 2) with
          | some (.cells cs sz _) => bif Nat.beq sz i.size && Nat.ble (a.off + n * i.size) cs.length then some (.slice (some (a.add (l * i.size))) (h - l) (m - l)) else none
          | _ => none)
      | none => none)
    | none => none)
  | _, _ => none

theorem own_sz [Pins] {φ : List Place} {H : AH} {w : World} (R : Rel φ H w) {i : Nat} {cs : List Value} {sz : Nat} {ex : Bool} (hg : H.tr.get i = some (.cells cs sz ex)) {p : Place} (hp : φ[i]? = some p) :
    p.sz = sz ∧ p.base + cs.length ≤ p.tot ∧ (ex = true → p.base + cs.length = p.tot) := by
  obtain ⟨q, hq, hN, hO⟩ := R.obj _ _ hg
  rw [hp] at hq; cases hq
  obtain ⟨C, e, lo, hi, hx, hf, ht, hs, hle2, hex, hr⟩ := hO
  exact ⟨hs.1, by omega, fun h => by have := hex h; omega⟩

theorem mod2_ne {n : Nat} (h : Nat.beq (n % 2) 0 = false) : n % 2 = 1 := by
  have : n % 2 ≠ 0 := fun e => by rw [e] at h; cases h
  omega

theorem add_block (a : Addr) (n : Nat) : (a.add n).block = a.block := by unfold Addr.add; split <;> rfl
theorem add_off (a : Addr) (n : Nat) : (a.add n).off = a.off + n := by unfold Addr.add; split <;> simp_all

/-- a part of a slice -/
theorem SRel.part {φ : List Place} {a a' : Addr} {len cap cap' size l h m m' : Nat} (hs : SRel φ a a' len cap cap') (hlh : l ≤ h) (hhm : h ≤ m) (hmc : m ≤ cap) (hm' : m' = m ∨ m' = cap' ∧ m = cap)
    (hodd : a.block % 2 = 1) (hsz : ∀ p, φ[a.block / 2]? = some p → esz p.sz = size) :
    SRel φ (a.add (l * size)) (if m' = l then a' else a'.add (l * size)) (h - l) (m - l) (m' - l) := by
  rcases hs with ⟨h0, _⟩ | ⟨_, h1, h2, h3⟩
  · omega
  · have hmm : m ≤ m' := by rcases hm' with rfl | ⟨rfl, rfl⟩ <;> omega
    refine .inr ⟨by rw [add_block]; exact hodd, by omega, by omega, ?_⟩
    by_cases hml : m' = l
    · left; omega
    · rw [if_neg hml]
      rcases h3 with h3 | ⟨hA, hb⟩
      · left; rcases hm' with rfl | ⟨rfl, rfl⟩ <;> omega
      · right
        refine ⟨hA.add _, fun p hp => ?_⟩
        rw [add_block] at hp
        have e1 := hb p hp
        have e2 := hsz p hp
        rw [e2] at e1
        rw [add_off, e2]
        have hle : m' ≤ cap' := by rcases hm' with rfl | ⟨rfl, rfl⟩ <;> omega
        have e3 : l * size + (m' - l) * size = m' * size := by rw [← Nat.add_mul]; congr 1; omega
        have e4 : m' * size ≤ cap' * size := Nat.mul_le_mul_right _ hle
        omega

theorem aslice_ok [Pins] {φ : List Place} {H : AH} {w : World} (R : Rel φ H w) {t : TypeId} {x x' : Value} {lo hi mx lo' hi' mx' : Option Value} {v : Value} (hx : VR φ x x') (hlo : ORelV φ lo lo') (hhi : ORelV φ hi hi') (hmx : ORelV φ mx mx')
    (h : aslice E t x lo hi mx H = some v) : ∃ v', VR φ v v' ∧ (Instr.sliceAt t x' lo' hi' mx').run P w = .ok v' w := by
  unfold aslice at h
  split at h
  · -- strings
    rename_i s hu
    cases hx
    split at h
    · split at h
      · rename_i l hh m hb
        cases h
        rcases hmx with ⟨_, rfl⟩ | ⟨a, a', e, _⟩
        · obtain ⟨h1, h2, h3, m', _, hr⟩ := abounds_ok (P := P) hlo hhi (.inl ⟨rfl, rfl⟩) (Nat.le_refl _) (Nat.le_refl _) hb false w
          refine ⟨_, .string _, ?_⟩
          have hsize : s.data.toList.length = s.size := by rw [Array.length_toList]; rfl
          rw [hsize] at hr
          have hex : s.extract l hh = ⟨⟨(s.data.toList.take hh).drop l⟩⟩ := by
            apply ByteArray.ext
            rw [ByteArray.data_extract]
            rw [← Array.toList_inj]
            simp only [Array.toList_extract, List.extract_eq_drop_take']
          simp [Instr.sliceAt, Instr.slice, run_und E hu, hr, hex]
        · cases e
      · cases h
    · cases h
  · -- nil
    rename_i e hu
    cases hx
    split at h
    · rename_i i r hi hb
      cases h
      obtain ⟨l, hh, m⟩ := r
      obtain ⟨h1, h2, h3, m', hm', hr⟩ := abounds_ok (P := P) hlo hhi hmx (Nat.le_refl _) (Nat.le_refl _) hb true w
      have : m' = 0 := by rcases hm' with rfl | ⟨rfl, _⟩ <;> omega
      subst this
      obtain rfl : l = 0 := by omega
      obtain rfl : hh = 0 := by omega
      exact ⟨_, .snil 0 0, by simp [Instr.sliceAt, Instr.slice, run_und E hu, hr, run_sizeOf' E hi]⟩
    · cases h
  · -- slices
    rename_i e a len cap hu
    cases hx with
    | @slc _ a' _ _ cap' hs =>
      split at h
      · rename_i i hi
        cases hlc : Nat.ble len cap with
        | false => rw [hlc] at h; cases h
        | true =>
          rw [hlc, cond_true] at h
          have hlc' := Nat.le_of_ble_eq_true hlc
          split at h
          · rename_i l hh m hb
            cases hev : Nat.beq (a.block % 2) 0 with
            | true =>
              rw [hev, cond_true] at h
              cases h
              have hev' := Nat.eq_of_beq_eq_true hev
              rcases hs with ⟨h0, rfl, hA⟩ | ⟨h0, _⟩
              · obtain ⟨h1, h2, h3, m', hm', hr⟩ := abounds_ok (P := P) hlo hhi hmx hlc' (Nat.le_refl _) hb true w
                obtain rfl : m' = m := by rcases hm' with rfl | ⟨rfl, rfl⟩ <;> rfl
                refine ⟨.slice (some (if m' = l then a' else a'.add (l * i.size))) (hh - l) (m' - l), .slc (.inl ⟨?_, rfl, ?_⟩), ?_⟩
                · split
                  · exact h0
                  · rw [add_block]; exact h0
                · split
                  · exact hA
                  · exact hA.add _
                · simp [Instr.sliceAt, Instr.slice, run_und E hu, hr, run_sizeOf' E hi]
                  split <;> rfl
              · omega
            | false =>
              rw [hev, cond_false] at h
              have hodd := mod2_ne hev
              split at h
              · rename_i cs sz ex hg
                cases hsz : Nat.beq sz i.size with
                | false => rw [hsz] at h; cases h
                | true =>
                  rw [hsz, cond_true] at h
                  cases h
                  have hsz' := Nat.eq_of_beq_eq_true hsz
                  have hcc : cap ≤ cap' := by rcases hs with ⟨h0, _⟩ | ⟨_, _, h2, _⟩ <;> omega
                  obtain ⟨h1, h2, h3, m', hm', hr⟩ := abounds_ok (P := P) hlo hhi hmx hlc' hcc hb true w
                  refine ⟨.slice (some (if m' = l then a' else a'.add (l * i.size))) (hh - l) (m' - l), .slc (hs.part h1 h2 h3 hm' hodd fun p hp => by rw [(own_sz R hg hp).1, hsz', esz_small (E.sz_lt _ _ hi)]), ?_⟩
                  simp [Instr.sliceAt, Instr.slice, run_und E hu, hr, run_sizeOf' E hi]
                  split <;> rfl
              · cases h
          · cases h
      · cases h
  · -- arrays
    rename_i n e a hu
    cases hx with
    | @ptr _ a' hA =>
      split at h
      · rename_i i hi
        split at h
        · rename_i l hh m hb
          obtain ⟨h1, h2, h3, m', hm', hr⟩ := abounds_ok (P := P) hlo hhi hmx (Nat.le_refl _) (Nat.le_refl _) hb false w
          obtain rfl : m' = m := by rcases hm' with rfl | ⟨rfl, rfl⟩ <;> rfl
          have hrun : (Instr.sliceAt t (.pointer (some a')) lo' hi' mx').run P w = .ok (.slice (some (if m' = l then a' else a'.add (l * i.size))) (hh - l) (m' - l)) w := by
            simp [Instr.sliceAt, Instr.sureAddr, run_und E hu, hr, run_sizeOf' E hi]
          cases hev : Nat.beq (a.block % 2) 0 with
          | true =>
            rw [hev, cond_true] at h
            cases h
            have hev' := Nat.eq_of_beq_eq_true hev
            refine ⟨_, .slc (.inl ⟨?_, rfl, ?_⟩), hrun⟩
            · split
              · exact hev'
              · rw [add_block]; exact hev'
            · split
              · exact hA
              · exact hA.add _
          | false =>
            rw [hev, cond_false] at h
            have hodd := mod2_ne hev
            split at h
            · rename_i cs sz ex hg
              cases hsz : (Nat.beq sz i.size && Nat.ble (a.off + n * i.size) cs.length) with
              | false => rw [hsz] at h; cases h
              | true =>
                rw [hsz, cond_true] at h
                cases h
                simp only [Bool.and_eq_true] at hsz
                have hsz' := Nat.eq_of_beq_eq_true hsz.1
                have hle := Nat.le_of_ble_eq_true hsz.2
                refine ⟨_, .slc (SRel.part (len := n) (cap := n) (cap' := n) (.inr ⟨hodd, Nat.le_refl _, Nat.le_refl _, .inr ⟨hA, fun p hp => ?_⟩⟩) h1 h2 h3 (.inl rfl) hodd fun p hp => by rw [(own_sz R hg hp).1, hsz', esz_small (E.sz_lt _ _ (by assumption))]), hrun⟩
                have := own_sz R hg hp
                rw [this.1, hsz', esz_small (E.sz_lt _ _ (by assumption))]; omega
            · cases h
        · cases h
      · cases h
  · cases h

/-! ### make -/
def amakeSlice (t : TypeId) (len cap : Value) (H : AH) : Option (Value × AH) :=
  match E.und t, len, cap with
  | some (.slice e), .int _ l, .int _ c => (match E.inf e with
    | some i => (match i.zero with
      | some z =>
        if 0 ≤ l ∧ l ≤ c ∧ c ≤ 140737488355328 ∧ i.bytes * c ≤ 281474976710656 then
          some (newSlice H l.toNat c.toNat, anew H (.cells (extL (zcells (if c.toNat * i.size = 0 then #[] else z.cells) (c.toNat * i.size))) i.size true))
        else none
      | none => none)
    | none => none)
  | _, _, _ => none

theorem zcells_length (z : Array Value) (n : Nat) : (zcells z n).length = n := by simp [zcells]

theorem wrap_small {n : Int} (h0 : 0 ≤ n) (h1 : n ≤ 140737488355328) : IntKind.i64.wrap n = n := by
  simp only [IntKind.wrap, IntKind.bits, IntKind.signed]
  have e : n % (2 ^ 64 : Int) = n := Int.emod_eq_of_lt h0 (by omega)
  simp only [e]
  rw [if_neg (by simp; omega)]

theorem amakeSlice_ok [Pins] {φ : List Place} {H H' : AH} {w : World} (R : Rel φ H w) {t : TypeId} {len len' cap cap' : Value} {v : Value} (hl : VR φ len len') (hc : VR φ cap cap') (h : amakeSlice E t len cap H = some (v, H')) :
    SOk P (Instr.makeSlice t len' cap') φ w v H' := by
  unfold amakeSlice at h
  split at h
  · rename_i e k l k2 c hu
    cases hl; cases hc
    split at h
    · rename_i i hi
      split at h
      · rename_i z hz
        split at h
        · rename_i hcond
          obtain ⟨h0, h1, h2, h3⟩ := hcond
          cases h
          have hv := VRs.ext φ (zcells (if c.toNat * i.size = 0 then #[] else z.cells) (c.toNat * i.size))
          refine ⟨_, _, _, ⟨_, rfl⟩, R.newCells hv e i.size (SzE.small (E.sz_lt _ _ hi)), .slc (SRel.new R.len _ rfl (c := c.toNat) (by omega) (Nat.le_refl _) (by simp only; rw [esz_small (E.sz_lt _ _ hi), zcells_length]; exact Nat.le_refl _)), ?_⟩
          obtain ⟨ii, hii, e1, e2, e3⟩ := run_typeInfo' E hi w
          have hl2 : ¬ (281474976710656 < (i.bytes : Int) * c) := by omega
          have hbl : (i.bytes : Int) * l ≤ (i.bytes : Int) * c := Int.mul_le_mul_of_nonneg_left h1 (by omega)
          have hc0 : ¬ c < 0 := by omega
          have hl0 : ¬ l < 0 := by omega
          have hlc : ¬ c < l := by omega
          simp only [Instr.makeSlice, Sem.run_bind, run_und E hu, Result.andThen_ok, asInt, asIntOf, Sem.run_pure, hii, wrap_small h0 (by omega : l ≤ 140737488355328), wrap_small (by omega : 0 ≤ c) h2, e2]
          have hpow : ((2 : Int) ^ 48) = 281474976710656 := by decide
          have hcnd : ((decide (c < 0) || decide ((i.bytes : Int) * c > 2 ^ 48)) || decide (l < 0) || decide (l > c)) = false := by
            simp only [hpow]
            simp; omega
          simp only [hcnd, Bool.false_eq_true, if_false, Sem.run_bind, run_askRoom, Result.andThen_ok, run_sizeOf' E hi]
          by_cases hz0 : c.toNat * i.size = 0
          · simp only [hz0, if_true, Sem.run_pure, Result.andThen_ok, newRow, Sem.run_bind, run_newObj]
            rfl
          · simp only [hz0, if_false, Sem.run_bind, run_zeroValue' E hi hz, Sem.run_pure, Result.andThen_ok, newRow, run_newObj]
            rfl
        · cases h
      · cases h
    · cases h
  · cases h
end
end Go.AM
