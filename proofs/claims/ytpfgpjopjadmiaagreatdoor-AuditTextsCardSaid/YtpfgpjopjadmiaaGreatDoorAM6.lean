/-
  The abstract machine, part 6: append, copy, len.
-/
import Derived.Test.YtpfgpjopjadmiaaGreatDoorAM5
import Derived.Deep.DeepAppendWide
set_option linter.unusedVariables false
set_option linter.unusedSimpArgs false
noncomputable section
namespace Go.AM
open Go.RowKit

/-- a row of so many elements may grow -/
def roomB (need bytes : Nat) : Bool := Nat.ble (need * bytes) 140737488355328 || Nat.ble ((need + need / 4 + 192) * bytes) 281474976710656
theorem roomB_of {need bytes : Nat} (h : need * bytes ≤ 140737488355328) : roomB need bytes = true := by
  unfold roomB; rw [Nat.ble_eq_true_of_le h]; rfl
theorem roomB_wide {need bytes : Nat} (h : (need + need / 4 + 192) * bytes ≤ 281474976710656) : roomB need bytes = true := by
  unfold roomB; rw [Nat.ble_eq_true_of_le h, Bool.or_true]
theorem roomB_fits {need old bytes : Nat} (h : old < need) (hb : roomB need bytes = true) : Builtin.nextslicecap need old * bytes ≤ 281474976710656 := by
  rcases Bool.or_eq_true_iff.1 hb with hb | hb
  · exact growslice_fits h (Nat.le_of_ble_eq_true hb)
  · exact growslice_fits_wide h (Nat.le_of_ble_eq_true hb)

theorem Rel.congr [Pins] {φ : List Place} {H H2 : AH} {w : World} (R : Rel φ H w) (h0 : H2.w0 = H.w0) (h1 : H2.nx = H.nx) (h2 : ∀ j, H2.tr.get j = H.tr.get j) : Rel φ H2 w :=
  ⟨by rw [h0]; exact R.below, by rw [h1]; exact R.len, fun i o h => by rw [h0]; exact R.obj i o (by rw [← h2]; exact h), fun i j o o' p q hi hj => R.inj i j o o' p q (by rw [← h2]; exact hi) (by rw [← h2]; exact hj), R.pin, R.lt⟩

section
variable {P : Program} (E : Env P)

def isIntD : TypeDesc → Bool
  | .int _ => true
  | _ => false

/-- the first n elements of a slice or a string, as cells -/
def afirst (size n : Nat) (x : Value) (H : AH) : Option (List Value) :=
  match x with
  | .slice (some a) _ _ => aloads H a (n * size)
  | .slice none _ _ => bif Nat.beq n 0 then some [] else none
  | .string s => some ((s.data.toList.take n).map fun b => .int .u8 b.toNat)
  | _ => none

def alenOf (x : Value) : Option Nat :=
  match x with
  | .slice _ n _ => some n
  | .string s => some s.data.toList.length
  | _ => none

theorem alenOf_ok {φ : List Place} {x x' : Value} {n : Nat} (hx : VR φ x x') (h : alenOf x = some n) (w : World) : (Builtin.lenOf x').run P w = .ok n w := by
  unfold alenOf at h
  split at h
  · cases h
    cases hx <;> simp [Builtin.lenOf]
  · cases h
    cases hx
    simp [Builtin.lenOf]
  · cases h

/-- what is read lies there; n is at most the slice's length -/
theorem afirst_ok [Pins] {φ : List Place} {H : AH} {w : World} (R : Rel φ H w) {size n m : Nat} {x x' : Value} {l : List Value} (hx : VR φ x x') (hm : alenOf x = some m) (hn : n ≤ m) (h : afirst size n x H = some l) :
    ∃ l', VRs φ l l' ∧ (Builtin.firstCells size n x').run P w = .ok ⟨l'⟩ w := by
  unfold afirst at h
  split at h
  · rename_i a k c
    cases hx with
    | @slc _ a' _ _ c' hs =>
      simp [alenOf] at hm; subst hm
      have hA : n * size = 0 ∨ ARel φ a a' := by
        rcases hs with ⟨_, _, hA⟩ | ⟨_, h1, h2, h3 | ⟨hA, _⟩⟩
        · exact .inr hA
        · left
          obtain rfl : n = 0 := by omega
          simp
        · exact .inr hA
      obtain ⟨l', h1, h2, h3⟩ := aloads_ok R hA h
      refine ⟨l', h1, ?_⟩
      have := run_loadCells_list (P := P) w a' l' h3
      rw [h2] at this
      simp [Builtin.firstCells, this]
  · cases hb : Nat.beq n 0 with
    | false => rw [hb] at h; cases h
    | true =>
      rw [hb, cond_true] at h
      cases h
      cases hx
      exact ⟨[], VRs.nil φ, by simp [Builtin.firstCells]⟩
  · rename_i s
    cases h
    cases hx
    have key : ∀ bs : List UInt8, VRs φ (bs.map fun b => Value.int .u8 (b.toNat : Int)) (bs.map fun b => Value.int .u8 (b.toNat : Int)) := by
      intro bs
      induction bs with
      | nil => exact VRs.nil φ
      | cons b bs ih => exact VRs.cons (.int _ _) ih
    refine ⟨_, key _, ?_⟩
    simp only [Builtin.firstCells, Sem.run_pure]
    congr 1
    rw [← Array.toList_inj]
    simp [ByteArray.data_extract]
  · cases h

/-- a row of bytes that begins with a text's bytes bears its type -/
def isStr : Value → Bool
  | .string _ => true
  | _ => false
def nilTag (e : TypeId) (x : Value) (size : Nat) : Nat := bif isStr x && (Nat.beq e 5 && Nat.beq size 1) then tagB + 5 else size
def szFits (sz size : Nat) (e : TypeId) : Bool := Nat.beq sz size || (Nat.beq sz (tagB + 5) && (Nat.beq e 5 && Nat.beq size 1))
theorem nilTag_ok {e : TypeId} {x : Value} {size : Nat} (h : size < tagB) : esz (nilTag e x size) = size ∧ SzE (nilTag e x size) e := by
  unfold nilTag
  cases q : (isStr x && (Nat.beq e 5 && Nat.beq size 1)) with
  | false => rw [cond_false]; exact ⟨esz_small h, SzE.small h⟩
  | true =>
    rw [cond_true]
    simp only [Bool.and_eq_true] at q
    have q1 := Nat.eq_of_beq_eq_true q.2.1
    have q2 := Nat.eq_of_beq_eq_true q.2.2
    rw [q1, q2]
    exact ⟨esz_tag (by decide), fun _ => by decide⟩
theorem szFits_ok {sz size : Nat} {e : TypeId} (h : size < tagB) (q : szFits sz size e = true) : esz sz = size ∧ SzE sz e ∧ sz ≤ tagB + 5 := by
  unfold szFits at q
  rw [Bool.or_eq_true] at q
  rcases q with q | q
  · have q := Nat.eq_of_beq_eq_true q
    subst q
    exact ⟨esz_small h, SzE.small h, by omega⟩
  · simp only [Bool.and_eq_true] at q
    have q0 := Nat.eq_of_beq_eq_true q.1
    have q1 := Nat.eq_of_beq_eq_true q.2.1
    have q2 := Nat.eq_of_beq_eq_true q.2.2
    rw [q0, q1, q2]
    exact ⟨esz_tag (by decide), fun _ => by decide, Nat.le_refl _⟩
def arealloc (tg size bytes n : Nat) (s : Value) (sLen : Nat) (new : List Value) (H : AH) : Option (Value × AH) :=
  match afirst size sLen s H with
  | some old => bif roomB (sLen + n) bytes && (Nat.ble (sLen + n) 140737488355328 && (Nat.beq old.length (sLen * size) && Nat.beq new.length (n * size))) then
      some (newSlice H (sLen + n) (sLen + n), anew H (.cells (old ++ new) tg false))
    else none
  | none => none

/-- append(nil, make([]T, n)...) -/
def aappendZ (i : TI) (s x : Value) (H : AH) : Option (Value × AH) :=
  match s, x, i.zero with
  | .slice none 0 0, .int _ n, some z =>
    if 0 ≤ n ∧ n ≤ 140737488355328 ∧ n.toNat * i.bytes ≤ 140737488355328 then
      (if n.toNat = 0 ∨ i.size = 0 then none else some (newSlice H n.toNat n.toNat, anew H (.cells (extL (Builtin.zeroCells z.cells n.toNat).toList) i.size false)))
    else none
  | _, _, _ => none

theorem aappendZ_ok [Pins] {φ : List Place} {H H' : AH} {w : World} (R : Rel φ H w) {e sT xT : TypeId} {i : TI} (hu : E.und sT = some (.slice e)) {k0 : IntKind} (hx : E.und xT = some (.int k0)) (hi : E.inf e = some i) {s s' x x' v : Value} (ty : TypeId)
    (hs : VR φ s s') (hxx : VR φ x x') (h : aappendZ i s x H = some (v, H')) : SOk P (Builtin.append_ #[sT, xT] ty #[s', x']) φ w v H' := by
  unfold aappendZ at h
  split at h
  · rename_i k n z hz
    cases hs; cases hxx
    split at h
    · rename_i hc
      obtain ⟨h0, h1, h2⟩ := hc
      split at h
      · cases h
      · rename_i hne
        cases h
        have hn0 : n.toNat ≠ 0 := fun e => hne (.inl e)
        have hs0 : i.size ≠ 0 := fun e => hne (.inr e)
        have hzs := E.zs_ok _ _ _ hi hz
        obtain ⟨ii, hii, e1, e2, e3⟩ := E.inf_ok e i hi
        have hti : ∀ w, (typeInfo e).run P w = .ok ii w := fun w => by simp [typeInfo, hii]
        have hwr : IntKind.i64.wrap n = n := wrap_small h0 h1
        have hl0 : ¬ n < 0 := by omega
        have hpow : ((2 : Int) ^ 48) = 281474976710656 := by decide
        have hpow' : (2 : Nat) ^ 48 = 281474976710656 := by decide
        have hb : ¬ (n * (ii.bytes : Int) > 2 ^ 48) := by
          rw [hpow, e2]
          have : ((n.toNat * i.bytes : Nat) : Int) ≤ ((140737488355328 : Nat) : Int) := Int.ofNat_le.2 h2
          have hnn : ((n.toNat : Nat) : Int) = n := Int.toNat_of_nonneg h0
          rw [Int.natCast_mul, hnn] at this
          omega
        have hfit := growslice_fits (need := n.toNat) (old := 0) (bytes := i.bytes) (by omega) h2
        have c1 : ¬ (((0 + n.toNat : Nat) : Int) > IntKind.i64.max ∧ (True ∨ ii.bytes = 0)) := by
          simp only [IntKind.max_i64]; omega
        have c2 : ¬ (Builtin.nextslicecap (0 + n.toNat) 0 * ii.bytes > 2 ^ 48) := by rw [e2, hpow', Nat.zero_add]; omega
        have hnr : ¬ (0 + n.toNat ≤ 0) := by omega
        have hns : ¬ (n.toNat * i.size = 0) := by
          intro e
          rcases Nat.mul_eq_zero.1 e with e | e
          · exact hn0 e
          · exact hs0 e
        let cap := (Question.appendCap (0 + n.toNat) 0 e).cut (w.tape w.drawn (.appendCap (0 + n.toNat) 0 e))
        have hcap : n.toNat ≤ cap := by
          show n.toNat ≤ 0 + n.toNat + _
          omega
        have hq : (Question.appendCap (0 + n.toNat) 0 e).forced = false := rfl
        have hco := VRs.ext φ (Builtin.zeroCells z.cells n.toNat).toList
        have hR := R.drew.newSpare (more := (Builtin.zeroCells z.cells (cap - (0 + n.toNat))).toList) hco e i.size (SzE.small (E.sz_lt _ _ hi))
        refine ⟨_, _, _, ⟨_, rfl⟩, hR, .slc (SRel.new R.len _ rfl (Nat.le_refl _) hcap ?_), ?_⟩
        · show cap * esz i.size ≤ _
          rw [esz_small (E.sz_lt _ _ hi)]
          simp only [List.length_append, Builtin.zeroCells, Array.toList_map, List.length_map, Array.length_toList, Array.size_range]
          rw [hzs, ← Nat.add_mul]
          apply Nat.mul_le_mul_right
          omega
        · have fin : ((Builtin.zeroCells z.cells n.toNat).toList ++ (Builtin.zeroCells z.cells (cap - (0 + n.toNat))).toList).toArray = ((#[] : Array Value) ++ Builtin.zeroCells z.cells n.toNat) ++ Builtin.zeroCells z.cells (cap - (0 + n.toNat)) := by
            rw [← Array.toList_inj]; simp
          rw [fin]
          refine Eq.trans (b := Result.ok (Value.slice (some ⟨w.drew.heap.size, 0, none⟩) (0 + n.toNat) cap) (w.drew.alloc (.cells ((#[] : Array Value) ++ Builtin.zeroCells z.cells n.toNat ++ Builtin.zeroCells z.cells (cap - (0 + n.toNat))) e))) ?_ (by rw [Nat.zero_add])
          simp only [Builtin.append_, List.getElem?_toArray, List.getElem?_cons_zero, List.getElem?_cons_succ, Sem.run_bind, run_und E hu, Result.andThen_ok, run_sizeOf' E hi, run_und E hx, asInt, asIntOf, Sem.run_pure, hwr, hl0, hti, hb, hnr, c1, c2, hns,
            if_true, if_false, Bool.not_true, Bool.false_eq_true, run_choose, hq, run_askRoom, World.drew_eq, Builtin.firstCells, run_zeroValue' E hi hz, newRow, run_newObj, World.alloc_eq]
          rfl
    · cases h
  · cases h

def aappend (sT xT : TypeId) (s x : Value) (H : AH) : Option (Value × AH) :=
  match E.und sT, E.und xT with
  | some (.slice e), some dx =>
    bif isIntD dx then (match E.inf e with
      | some i => aappendZ i s x H
      | none => none)
    else
    (match E.inf e, alenOf x with
    | some i, some n =>
      bif Nat.beq i.size 0 || i.zero.isNone then none else
      (match afirst i.size n x H with
      | some new =>
        (match s with
        | .slice base sLen sCap =>
          bif Nat.beq n 0 then (bif Nat.ble sLen sCap then some (s, H) else none) else
          (match base with
          | none => bif Nat.beq sLen 0 && Nat.beq sCap 0 then arealloc (nilTag e x i.size) i.size i.bytes n s sLen new H else none
          | some a =>
            bif Nat.beq (a.block % 2) 0 then (bif Nat.ble (sLen + n) sCap then none else arealloc i.size i.size i.bytes n s sLen new H)
            else (match H.tr.get (a.block / 2) with
              | some (.cells cs sz ex) =>
                bif szFits sz i.size e then
                  bif Nat.ble (sLen + n) sCap then
                    (match astores H (a.add (sLen * i.size)) new with
                    | some H' => some (.slice base (sLen + n) sCap, H')
                    | none => none)
                  else bif ex then (bif Nat.ble (cs.length + 1) (a.off + (sLen + n) * i.size) then arealloc sz i.size i.bytes n s sLen new H else none)
                  else bif Nat.beq (a.off + sLen * i.size) cs.length && (roomB (sLen + n) i.bytes && (Nat.ble (sLen + n) 140737488355328 && (Nat.beq new.length (n * i.size) && allOne new))) then
                    some (newSlice H (sLen + n) (sLen + n), anew { H with tr := H.tr.set (a.block / 2) none } (.cells (cs.drop a.off ++ new) sz false))
                  else none
                else none
              | _ => none))
        | _ => none)
      | none => none)
    | _, _ => none)
  | _, _ => none

/-- append where the world has no room -/
theorem run_append_realloc {e sT xT : TypeId} {i : TI} {z : Value} (hu : E.und sT = some (.slice e)) {dx : TypeDesc} (hx : E.und xT = some dx) (hdx : isIntD dx = false) (hi : E.inf e = some i) (hz : i.zero = some z)
    {base : Option Addr} {sLen sCap n : Nat} {x : Value} (ty : TypeId) {w : World} (hlen : ∀ w, (Builtin.lenOf x).run P w = .ok n w) (hroom : sCap < sLen + n) (hb : roomB (sLen + n) i.bytes = true) (hmax : sLen + n ≤ 140737488355328)
    {old new : List Value} (hold : (Builtin.firstCells i.size sLen (.slice base sLen sCap)).run P w.drew = .ok ⟨old⟩ w.drew) (hnew : (Builtin.firstCells i.size n x).run P w.drew = .ok ⟨new⟩ w.drew) :
    ∃ c, sLen + n ≤ c ∧ (Builtin.append_ #[sT, xT] ty #[.slice base sLen sCap, x]).run P w = .ok (.slice (some ⟨w.heap.size, 0, none⟩) (sLen + n) c) (w.drew.alloc (.cells ((old ++ new) ++ (Builtin.zeroCells z.cells (c - (sLen + n))).toList).toArray e)) := by
  have hfit := roomB_fits hroom hb
  refine ⟨(Question.appendCap (sLen + n) sCap e).cut (w.tape w.drawn (.appendCap (sLen + n) sCap e)), by simp [Question.cut], ?_⟩
  obtain ⟨ii, hii, e1, e2, e3⟩ := E.inf_ok e i hi
  have hti : ∀ w, (typeInfo e).run P w = .ok ii w := fun w => by simp [typeInfo, hii]
  have c1 : ¬ (((sLen + n : Nat) : Int) > IntKind.i64.max ∧ (False ∨ ii.bytes = 0)) := by
    simp only [IntKind.max_i64]; omega
  have hpow : (2 : Nat) ^ 48 = 281474976710656 := by decide
  have c2 : ¬ (Builtin.nextslicecap (sLen + n) sCap * ii.bytes > 2 ^ 48) := by rw [e2, hpow]; omega
  have hnr : ¬ (sLen + n ≤ sCap) := by omega
  have hq : (Question.appendCap (sLen + n) sCap e).forced = false := rfl
  simp only [Builtin.append_, List.getElem?_toArray, List.getElem?_cons_zero, List.getElem?_cons_succ, Sem.run_bind, run_und E hu, Result.andThen_ok, run_sizeOf' E hi]
  have fin : ((old ++ new) ++ (Builtin.zeroCells z.cells ((Question.appendCap (sLen + n) sCap e).cut (w.tape w.drawn (.appendCap (sLen + n) sCap e)) - (sLen + n))).toList).toArray =
      (⟨old⟩ ++ ⟨new⟩ : Array Value) ++ Builtin.zeroCells z.cells ((Question.appendCap (sLen + n) sCap e).cut (w.tape w.drawn (.appendCap (sLen + n) sCap e)) - (sLen + n)) := by
    rw [← Array.toList_inj]; simp
  rw [fin]
  cases dx
  case int k => simp [isIntD] at hdx
  all_goals
    simp only [run_und E hx, Result.andThen_ok, Bool.false_eq_true, if_false, hlen, hnr, hti, c1, c2, Sem.run_bind, run_choose, hq, run_askRoom, World.drew_eq, hold, Bool.not_false, if_true, hnew, run_zeroValue' E hi hz, newRow, run_newObj, Sem.run_pure, World.alloc_eq]
    rfl

/-- append where the world has room -/
theorem run_append_room {e sT xT : TypeId} {i : TI} (hu : E.und sT = some (.slice e)) {dx : TypeDesc} (hx : E.und xT = some dx) (hdx : isIntD dx = false) (hi : E.inf e = some i)
    {base : Option Addr} {sLen sCap n : Nat} {x : Value} (ty : TypeId) {w w' : World} (hlen : (Builtin.lenOf x).run P w = .ok n w) (hroom : sLen + n ≤ sCap)
    {new : List Value} (hnew : (Builtin.firstCells i.size n x).run P w = .ok ⟨new⟩ w) (hst : match base with | some a => (storeCells (a.add (sLen * i.size)) new 0).run P w = .ok () w' | none => w' = w) :
    (Builtin.append_ #[sT, xT] ty #[.slice base sLen sCap, x]).run P w = .ok (.slice base (sLen + n) sCap) w' := by
  simp only [Builtin.append_, List.getElem?_toArray, List.getElem?_cons_zero, List.getElem?_cons_succ, Sem.run_bind, run_und E hu, Result.andThen_ok, run_sizeOf' E hi]
  cases dx
  case int k => simp [isIntD] at hdx
  all_goals
    simp only [run_und E hx, Result.andThen_ok, Bool.false_eq_true, if_false, hlen, hroom, Sem.run_bind, Bool.not_false, if_true, hnew, Sem.run_pure]
    cases base with
    | none => simp only at hst; subst hst; rfl
    | some a => simp only at hst; simp only [Sem.run_bind, hst, Result.andThen_ok, Sem.run_pure]

theorem arealloc_ok [Pins] {φ : List Place} {H H' : AH} {w : World} (R : Rel φ H w) {e sT xT : TypeId} {i : TI} (hu : E.und sT = some (.slice e)) {dx : TypeDesc} (hx : E.und xT = some dx) (hdx : isIntD dx = false)
    (hi : E.inf e = some i) (hz : i.zero.isNone = false) {base base' : Option Addr} {sLen sCap sCap' n : Nat} {x x' v : Value} (ty : TypeId) (hs : VR φ (.slice base sLen sCap) (.slice base' sLen sCap')) (hxx : VR φ x x') (hn : alenOf x = some n)
    {new : List Value} (hnew : afirst i.size n x H = some new) (hroom : sCap' < sLen + n) {tg : Nat} (htg : esz tg = i.size) (hte : SzE tg e) (h : arealloc tg i.size i.bytes n (.slice base sLen sCap) sLen new H = some (v, H')) :
    SOk P (Builtin.append_ #[sT, xT] ty #[.slice base' sLen sCap', x']) φ w v H' := by
  unfold arealloc at h
  split at h
  · rename_i old hold
    cases hb : (roomB (sLen + n) i.bytes && (Nat.ble (sLen + n) 140737488355328 && (Nat.beq old.length (sLen * i.size) && Nat.beq new.length (n * i.size)))) with
    | false => rw [hb] at h; cases h
    | true =>
      rw [hb, cond_true] at h
      cases h
      simp only [Bool.and_eq_true] at hb
      obtain ⟨hb1, hb2, hb3, hb4⟩ := hb
      have hb2 := Nat.le_of_ble_eq_true hb2
      have hb3 := Nat.eq_of_beq_eq_true hb3
      have hb4 := Nat.eq_of_beq_eq_true hb4
      obtain ⟨z, hz'⟩ : ∃ z, i.zero = some z := by cases hzz : i.zero with | none => rw [hzz] at hz; cases hz | some z => exact ⟨z, rfl⟩
      obtain ⟨old', ho1, ho2⟩ := afirst_ok (P := P) R.drew hs (m := sLen) rfl (Nat.le_refl _) hold
      obtain ⟨new', hn1, hn2⟩ := afirst_ok (P := P) R.drew hxx hn (Nat.le_refl _) hnew
      obtain ⟨c, hc, hrun⟩ : ∃ c, sLen + n ≤ c ∧ (Builtin.append_ #[sT, xT] ty #[.slice base' sLen sCap', x']).run P w = .ok (.slice (some ⟨w.heap.size, 0, none⟩) (sLen + n) c) (w.drew.alloc (.cells ((old' ++ new') ++ (Builtin.zeroCells z.cells (c - (sLen + n))).toList).toArray e)) :=
        run_append_realloc E hu hx hdx hi hz' ty (fun w => alenOf_ok hxx hn w) hroom hb1 hb2 ho2 hn2
      have hco := ho1.append hn1
      have hR := R.drew.newSpare (more := (Builtin.zeroCells z.cells (c - (sLen + n))).toList) hco e tg hte
      refine ⟨_, _, _, ⟨_, rfl⟩, hR, .slc (SRel.new R.len _ rfl (Nat.le_refl _) hc ?_), hrun⟩
      show c * esz tg ≤ _
      rw [htg]
      have hzs := E.zs_ok _ _ _ hi hz'
      have e1 := ho1.1
      have e2 := hn1.1
      simp only [List.length_append, Builtin.zeroCells, Array.toList_map, List.length_map, Array.length_toList, Array.size_range]
      rw [hzs, ← e1, ← e2, hb3, hb4, ← Nat.add_mul, ← Nat.add_mul]
      apply Nat.mul_le_mul_right
      omega
  · cases h

theorem aappend_ok [Pins] {φ : List Place} {H H' : AH} {w : World} (R : Rel φ H w) {sT xT : TypeId} {s s' x x' v : Value} (ty : TypeId) (hs : VR φ s s') (hx : VR φ x x') (h : aappend E sT xT s x H = some (v, H')) :
    SOk P (Builtin.append_ #[sT, xT] ty #[s', x']) φ w v H' := by
  unfold aappend at h
  split at h
  · rename_i e dx hu hxt
    cases hdx : isIntD dx with
    | true =>
      rw [hdx, cond_true] at h
      split at h
      · rename_i i hi
        cases dx with
        | int k0 => exact aappendZ_ok E R hu hxt hi ty hs hx h
        | _ => simp [isIntD] at hdx
      · cases h
    | false =>
      rw [hdx, cond_false] at h
      split at h
      · rename_i i n hi hn
        cases hsz : (Nat.beq i.size 0 || i.zero.isNone) with
        | true => rw [hsz] at h; cases h
        | false =>
          rw [hsz, cond_false] at h
          simp only [Bool.or_eq_false_iff] at hsz
          have hsize : i.size ≠ 0 := fun e => by rw [e] at hsz; cases hsz.1
          split at h
          · rename_i new hnew
            obtain ⟨new', hnv, hnr⟩ := afirst_ok (P := P) R hx hn (Nat.le_refl _) hnew
            split at h
            · rename_i base sLen sCap
              cases hn0 : Nat.beq n 0 with
              | true =>
                rw [hn0, cond_true] at h
                obtain rfl := Nat.eq_of_beq_eq_true hn0
                cases hlc : Nat.ble sLen sCap with
                | false => rw [hlc] at h; cases h
                | true =>
                  rw [hlc, cond_true] at h
                  cases h
                  have hlc' := Nat.le_of_ble_eq_true hlc
                  have hnew0 : new' = [] := by
                    have hl : new.length = 0 := by
                      unfold afirst at hnew
                      split at hnew
                      · simp [aloads] at hnew; rw [hnew]; rfl
                      · simp at hnew; rw [hnew]; rfl
                      · cases hnew; simp
                      · cases hnew
                    have := hnv.1
                    exact List.eq_nil_of_length_eq_zero (by omega)
                  subst hnew0
                  cases hs with
                  | snil l c => exact .here R (.snil _ _) (run_append_room E hu hxt hdx hi ty (alenOf_ok hx hn w) (by omega) hnr rfl)
                  | @slc _ a' _ _ c' hsl =>
                    have hcc : sCap ≤ c' := by rcases hsl with ⟨_, rfl, _⟩ | ⟨_, _, h2, _⟩ <;> omega
                    exact .here R (.slc hsl) (run_append_room E hu hxt hdx hi ty (alenOf_ok hx hn w) (by omega) hnr (by simp [storeCells]))
              | false =>
                rw [hn0, cond_false] at h
                have hn0' : n ≠ 0 := fun e => by rw [e] at hn0; cases hn0
                split at h
                · -- nil
                  cases hz : (Nat.beq sLen 0 && Nat.beq sCap 0) with
                  | false => rw [hz] at h; cases h
                  | true =>
                    rw [hz, cond_true] at h
                    simp only [Bool.and_eq_true] at hz
                    have e1 := Nat.eq_of_beq_eq_true hz.1
                    have e2 := Nat.eq_of_beq_eq_true hz.2
                    cases hs
                    exact arealloc_ok E R hu hxt hdx hi hsz.2 ty (.snil _ _) hx hn hnew (by omega) (nilTag_ok (E.sz_lt _ _ hi)).1 (nilTag_ok (E.sz_lt _ _ hi)).2 h
                · rename_i a
                  cases hs with
                  | @slc _ a' _ _ c' hsl =>
                    cases hev : Nat.beq (a.block % 2) 0 with
                    | true =>
                      rw [hev, cond_true] at h
                      have hev' := Nat.eq_of_beq_eq_true hev
                      cases hr : Nat.ble (sLen + n) sCap with
                      | true => rw [hr] at h; cases h
                      | false =>
                        rw [hr, cond_false] at h
                        have hr' : sCap < sLen + n := by
                          rcases Nat.lt_or_ge sCap (sLen + n) with h' | h'
                          · exact h'
                          · rw [Nat.ble_eq_true_of_le h'] at hr; cases hr
                        have hcc : c' = sCap := by rcases hsl with ⟨_, e, _⟩ | ⟨h0, _⟩ <;> omega
                        exact arealloc_ok E R hu hxt hdx hi hsz.2 ty (.slc hsl) hx hn hnew (by omega) (esz_small (E.sz_lt _ _ hi)) (SzE.small (E.sz_lt _ _ hi)) h
                    | false =>
                      rw [hev, cond_false] at h
                      have hodd := mod2_ne hev
                      split at h
                      · rename_i cs sz ex hg
                        cases hse : szFits sz i.size e with
                        | false => rw [hse] at h; cases h
                        | true =>
                          rw [hse, cond_true] at h
                          obtain ⟨hz1, hz2, hz3⟩ := szFits_ok (E.sz_lt _ _ hi) hse
                          have hsl' := hsl
                          rcases hsl' with ⟨h0, _⟩ | ⟨_, h1, h2, h3⟩
                          · omega
                          cases hr : Nat.ble (sLen + n) sCap with
                          | true =>
                            rw [hr, cond_true] at h
                            have hr' := Nat.le_of_ble_eq_true hr
                            split at h
                            · rename_i H2 hst
                              cases h
                              rcases h3 with h3 | ⟨hA, hbd⟩
                              · omega
                              · obtain ⟨w', hw1, hw2⟩ := astores_ok P R (hA.add (sLen * i.size)) hnv hst
                                exact ⟨φ, _, w', List.prefix_refl _, hw2, .slc (.inr ⟨hodd, hr', h2, .inr ⟨hA, hbd⟩⟩), run_append_room E hu hxt hdx hi ty (alenOf_ok hx hn w) (by omega) hnr hw1⟩
                            · cases h
                          | false =>
                            rw [hr, cond_false] at h
                            cases ex with
                            | true =>
                              rw [cond_true] at h
                              cases hle : Nat.ble (cs.length + 1) (a.off + (sLen + n) * i.size) with
                              | false => rw [hle] at h; cases h
                              | true =>
                                rw [hle, cond_true] at h
                                have hle' := Nat.le_of_ble_eq_true hle
                                refine arealloc_ok E R hu hxt hdx hi hsz.2 ty (.slc hsl) hx hn hnew ?_ hz1 hz2 h
                                rcases h3 with h3 | ⟨hA, hbd⟩
                                · omega
                                · rcases hA with ⟨h0, _⟩ | ⟨_, _, _, p, hp, _⟩
                                  · omega
                                  · have hb := hbd p hp
                                    obtain ⟨o1, o2, o3⟩ := own_sz R hg hp
                                    have o3 := o3 rfl
                                    rw [o1, hz1] at hb
                                    rcases Nat.lt_or_ge c' (sLen + n) with h' | h'
                                    · exact h'
                                    · have := Nat.mul_le_mul_right i.size h'
                                      omega
                            | false =>
                              rw [cond_false] at h
                              cases hb : (Nat.beq (a.off + sLen * i.size) cs.length && (roomB (sLen + n) i.bytes && (Nat.ble (sLen + n) 140737488355328 && (Nat.beq new.length (n * i.size) && allOne new)))) with
                              | false => rw [hb] at h; cases h
                              | true =>
                                rw [hb, cond_true] at h
                                simp only [Bool.and_eq_true] at hb
                                obtain ⟨hb0, hb1, hb2, hb3, hb4⟩ := hb
                                have hb0 := Nat.eq_of_beq_eq_true hb0
                                have hb2 := Nat.le_of_ble_eq_true hb2
                                have hb3' := Nat.eq_of_beq_eq_true hb3
                                rcases Nat.lt_or_ge c' (sLen + n) with hroom | hroom
                                · -- no room in the world: a new row
                                  have hold : afirst i.size sLen (.slice (some a) sLen sCap) H = some (cs.drop a.off) := by
                                    show aloads H a (sLen * i.size) = _
                                    unfold aloads
                                    by_cases hz0 : sLen * i.size = 0
                                    · rw [hz0]; simp; omega
                                    · rw [show Nat.beq (sLen * i.size) 0 = false by (cases hq : sLen * i.size with | zero => exact absurd hq hz0 | succ m => rfl), cond_false, hev, cond_false, hg]
                                      simp only
                                      rw [Nat.ble_eq_true_of_le (by omega), cond_true]
                                      congr 1
                                      apply List.take_of_length_le
                                      simp; omega
                                  have hH : arealloc sz i.size i.bytes n (.slice (some a) sLen sCap) sLen new H = some (newSlice H (sLen + n) (sLen + n), anew H (.cells (cs.drop a.off ++ new) sz false)) := by
                                    unfold arealloc
                                    rw [hold]
                                    simp only
                                    rw [hb1, Nat.ble_eq_true_of_le hb2, hb3, show Nat.beq (cs.drop a.off).length (sLen * i.size) = true by (rw [Nat.beq_eq]; simp; omega)]
                                    rfl
                                  obtain ⟨φ', v', w', q1, q2, q3, q4⟩ := arealloc_ok E R hu hxt hdx hi hsz.2 ty (.slc hsl) hx hn hnew hroom hz1 hz2 hH
                                  cases h
                                  refine ⟨φ', v', w', q1, ?_, q3, q4⟩
                                  refine (q2.kill (a.block / 2)).congr rfl rfl fun j => ?_
                                  have hlt : a.block / 2 < H.nx := by
                                    obtain ⟨p, hp, _⟩ := R.obj _ _ hg
                                    rw [← R.len]; exact lt_of_getElem? hp
                                  simp only [anew]
                                  rw [Tr.get_set, Tr.get_set, Tr.get_set, Tr.get_set]
                                  by_cases j1 : j = H.nx
                                  · rw [if_pos j1, if_neg (by omega), if_pos j1]
                                  · rw [if_neg j1, if_neg j1]
                                · -- room: the old row is taken over
                                  cases h
                                  rcases h3 with h3 | ⟨hA, hbd⟩
                                  · omega
                                  rcases hA with ⟨h0, _⟩ | ⟨_, hsp, hsp', p, hp, hblk, hoff⟩
                                  · omega
                                  have hb := hbd p hp
                                  obtain ⟨o1, o2, _⟩ := own_sz R hg hp
                                  obtain ⟨q, hq, hN, hO⟩ := R.obj _ _ hg
                                  rw [hp] at hq; cases hq
                                  obtain ⟨C, ee, lo, hi2, hxx, hf, ht, hs2, hle2, hex, hr2⟩ := hO
                                  have hC : w.heap[p.blk]? = some (.cells C.toList.toArray ee (lo, hi2)) := by simpa using hxx
                                  have hmul := Nat.mul_le_mul_right i.size hroom
                                  rw [Nat.add_mul] at hmul
                                  rw [o1, hz1] at hb
                                  have hl' : new'.length = n * i.size := by rw [← hnv.1, hb3']
                                  have hsz2 : C.toList.length = C.size := Array.length_toList
                                  have hst := run_storeCells P new' 0 w (a'.add (sLen * i.size)) C.toList ee lo hi2 (by rw [add_block, hblk]; exact hC) (by rw [add_spot _ hsp']) (by simpa using hf) (by rw [add_off, hoff, hl']; omega) (allOne_VRs hnv hb4)
                                  rw [add_block, add_off, hblk, hoff, Nat.add_zero] at hst
                                  refine ⟨_, _, _, ⟨_, rfl⟩, R.takeOver hg hp (base2 := p.base + a.off) (cs2 := cs.drop a.off ++ new) (C2 := splice C.toList (p.base + a.off + sLen * i.size) new') hC (splice_length (by omega)) ?_ ?_ hz3, ?_, run_append_room E hu hxt hdx hi ty (alenOf_ok hx hn w) hroom hnr hst⟩
                                  · simp only [List.length_append, List.length_drop, hb3']; omega
                                  · have hd := hr2.drop a.off
                                    have := hd.append hnv
                                    have e5 : ((splice C.toList (p.base + a.off + sLen * i.size) new').drop (p.base + a.off)).take (cs.drop a.off ++ new).length = ((C.toList.drop p.base).take cs.length).drop a.off ++ new' := by
                                      apply List.ext_getElem?
                                      intro k
                                      rw [List.getElem?_take, List.getElem?_drop, splice_get (by omega)]
                                      simp only [List.length_append, List.length_drop, hb3']
                                      by_cases k1 : k < sLen * i.size
                                      · rw [if_pos (by omega), if_pos (by omega), List.getElem?_append_left (by simp; omega), List.getElem?_drop, List.getElem?_take, if_pos (by omega), List.getElem?_drop]
                                        congr 1; omega
                                      · by_cases k2 : k < sLen * i.size + n * i.size
                                        · rw [if_pos (by omega), if_neg (by omega), if_pos (by omega), List.getElem?_append_right (by simp; omega)]
                                          congr 1; simp; omega
                                        · rw [if_neg (by omega)]
                                          symm
                                          apply List.getElem?_eq_none
                                          simp; omega
                                    rw [e5]; exact this
                                  · refine .slc (.inr ⟨by simp only; omega, Nat.le_refl _, hroom, .inr ⟨.inr ⟨by simp only; omega, rfl, hsp', ⟨p.blk, p.base + a.off, p.tot, p.sz⟩, ?_, hblk, by simp [hoff]⟩, fun q hq => ?_⟩⟩)
                                    · have : (2 * H.nx + 1) / 2 = φ.length := by rw [R.len]; omega
                                      simp [this]
                                    · have : (2 * H.nx + 1) / 2 = φ.length := by rw [R.len]; omega
                                      simp only [this] at hq
                                      simp at hq
                                      subst hq
                                      simp only
                                      rw [o1, hz1]; omega
                      · cases h
            · cases h
          · cases h
      · cases h
  · cases h
end
end Go.AM
