/-
  The abstract machine, part 20: rows of data, opened; append; maps.
-/
import Derived.Test.YtpfgpjopjadmiaaGreatDoorAM19
set_option linter.unusedVariables false
set_option linter.unusedSimpArgs false
noncomputable section
namespace Go.AM
open Go.RowKit

section
variable {A : Nat → Prop} {H : AH}
/-- a row of data: the slice, and each element where it lies -/
structure RowD (A : Nat → Prop) (H : AH) (b : Nat) (ks : List Kd) (l : List (List CT)) (a : Option Addr) (cap : Nat) : Prop where
  len : l.length ≤ 140737488351232
  bytes : l.length * b ≤ 140737488351232
  le : l.length ≤ cap
  nil : a = none → cap = 0
  inA : ∀ p, a = some p → InA A p.block
  sz : ∀ p, a = some p → SzA H p ks.length
  at' : ∀ (i : Nat), i < l.length → ∃ p xs c, a = some p ∧ InA A p.block ∧ l[i]? = some c ∧ aloads H (p.add (i * ks.length)) ks.length = some xs ∧ CellsA A H ks xs c
theorem CellA.rowD {b : Nat} {ks : List Kd} {x : Value} {c : CT} (h : CellA A H (.row b ks) x c) : ∃ l a cap, c = .row l ∧ x = .slice a l.length cap ∧ RowD A H b ks l a cap := by
  obtain ⟨l, rfl, h1, h2, ⟨rfl, rfl⟩ | ⟨a, cap, rfl, q1, q2, q3⟩⟩ := h.row
  · exact ⟨[], none, 0, rfl, rfl, h1, h2, Nat.le_refl _, fun _ => rfl, (fun p h => by cases h), (fun p h => by cases h), fun i hi => absurd hi (Nat.not_lt_zero _)⟩
  · refine ⟨l, some a, cap, rfl, rfl, h1, h2, q1, (fun h => by cases h), (fun p h => by cases h; exact q2.1), (fun p h => by cases h; exact q2.2), fun i hi => ?_⟩
    obtain ⟨xs, r1, r2⟩ := q3 i l[i] (List.getElem?_eq_getElem hi)
    exact ⟨a, xs, l[i], rfl, q2.1, List.getElem?_eq_getElem hi, r1, r2⟩
theorem RowD.gr {A' : Nat → Prop} {H' : AH} {b : Nat} {ks : List Kd} {l : List (List CT)} {a : Option Addr} {cap : Nat} (h : RowD A H b ks l a cap) (g : Gr A H A' H') : RowD A' H' b ks l a cap :=
  ⟨h.len, h.bytes, h.le, h.nil, fun p hp => g.inA (h.inA p hp), fun p hp => g.szA (h.inA p hp) (h.sz p hp), fun i hi => by
    obtain ⟨p, xs, c, h1, h2, h3, h4, h5⟩ := h.at' i hi
    exact ⟨p, xs, c, h1, g.inA h2, h3, by rw [g.aloads (by rw [add_block]; exact h2)]; exact h4, h5.gr g⟩⟩
theorem RowD.cell {b : Nat} {ks : List Kd} {l : List (List CT)} {a : Option Addr} {cap : Nat} (h : RowD A H b ks l a cap) : CellA A H (.row b ks) (.slice a l.length cap) (.row l) := by
  simp only [CellA]
  refine ⟨h.len, h.bytes, ?_⟩
  cases a with
  | none =>
    left
    have : l.length = 0 := by
      cases e : l.length with
      | zero => rfl
      | succ n =>
        obtain ⟨p, xs, c, h1, _⟩ := h.at' 0 (by omega)
        cases h1
    have hl : l = [] := List.eq_nil_of_length_eq_zero this
    rw [h.nil rfl, this]; exact ⟨rfl, hl⟩
  | some p =>
    right
    refine ⟨p, cap, rfl, h.le, ⟨h.inA p rfl, h.sz p rfl⟩, fun i c hc => ?_⟩
    obtain ⟨p', xs, c', h1, h2, h3, h4, h5⟩ := h.at' i (lt_of_getElem? hc)
    cases h1
    rw [h3] at hc; cases hc
    exact ⟨xs, h4, h5⟩
end

/-! ### structs by their places -/
theorem cellsOf_in {off n m : Nat} {x : Nat → Value} {cs : List Value} (h : Nat.ble (off + n) m = true) (hc : cs.length = m) : off + (cellsOf n x).length ≤ cs.length := by
  rw [cellsOf_length, hc]; exact Nat.le_of_ble_eq_true h
def ctsOf (n : Nat) (c : Nat → CT) : List CT := (List.range n).map c
theorem ctsOf_of {cs : List CT} {n : Nat} (h : cs.length = n) : ∃ c : Nat → CT, cs = ctsOf n c := by
  refine ⟨fun i => cs.getD i (.row []), ?_⟩
  apply List.ext_getElem
  · simp [ctsOf, h]
  · intro i h1 h2
    simp [ctsOf, h1]
theorem ctsOf_get {n i : Nat} {c : Nat → CT} (h : i < n) : (ctsOf n c)[i]? = some (c i) := by simp [ctsOf, h]
theorem ctsOf_length (n : Nat) (c : Nat → CT) : (ctsOf n c).length = n := by simp [ctsOf]
theorem ctsOf_congr {n : Nat} {c c' : Nat → CT} (h : ∀ i, i < n → c i = c' i) : ctsOf n c = ctsOf n c' := by
  unfold ctsOf
  exact List.map_congr_left fun i hi => h i (List.mem_range.1 hi)

section
variable {A A' : Nat → Prop} {H H' : AH}
/-- cell by cell -/
def Pts (A : Nat → Prop) (H : AH) (ks : List Kd) (x : Nat → Value) (c : Nat → CT) : Prop := ∀ i k, ks[i]? = some k → CellA A H k (x i) (c i)
theorem Pts.gr {ks : List Kd} {x : Nat → Value} {c : Nat → CT} (h : Pts A H ks x c) (g : Gr A H A' H') : Pts A' H' ks x c := fun i k hk => CellA.gr g _ _ _ (h i k hk)
theorem CellsA.pts {ks : List Kd} {x : Nat → Value} {c : Nat → CT} {n : Nat} (h : CellsA A H ks (cellsOf n x) (ctsOf n c)) : Pts A H ks x c := fun i k hk => by
  have hi := lt_of_getElem? hk
  have hn := h.len.1
  rw [cellsOf_length] at hn
  exact h.at hk (cellsOf_get (by simp [Nat.blt]; omega)) (ctsOf_get (by omega))
theorem Pts.cells {ks : List Kd} {x : Nat → Value} {c : Nat → CT} {n : Nat} (h : Pts A H ks x c) (hn : ks.length = n) : CellsA A H ks (cellsOf n x) (ctsOf n c) := by
  refine CellsA.mk (by rw [cellsOf_length, hn]) (by rw [ctsOf_length, hn]) fun i k y d h1 h2 h3 => ?_
  have hi := lt_of_getElem? h1
  rw [cellsOf_get (by simp [Nat.blt]; omega)] at h2
  rw [ctsOf_get (by omega)] at h3
  cases h2; cases h3
  exact h i k h1
theorem CellsA.fn {ks : List Kd} {xs : List Value} {cs : List CT} {n : Nat} (h : CellsA A H ks xs cs) (hn : ks.length = n) : ∃ x c, xs = cellsOf n x ∧ cs = ctsOf n c ∧ Pts A H ks x c := by
  obtain ⟨x, rfl⟩ := cellsOf_of (h.len.1.trans hn)
  obtain ⟨c, rfl⟩ := ctsOf_of (h.len.2.trans hn)
  exact ⟨x, c, rfl, rfl, h.pts⟩
theorem CellsA.fn2 {ks : List Kd} {xs ys : List Value} {cs : List CT} {n : Nat} (h : CellsA A H ks xs cs) (h' : CellsA A' H' ks ys cs) (hn : ks.length = n) : ∃ x y c, xs = cellsOf n x ∧ ys = cellsOf n y ∧ cs = ctsOf n c ∧ Pts A H ks x c ∧ Pts A' H' ks y c := by
  obtain ⟨x, c, rfl, rfl, h1⟩ := h.fn hn
  obtain ⟨y, rfl⟩ := cellsOf_of (h'.len.1.trans hn)
  exact ⟨x, y, c, rfl, rfl, rfl, h1, h'.pts⟩
theorem Pts.part {ks : List Kd} {x : Nat → Value} {c : Nat → CT} (h : Pts A H ks x c) (off m : Nat) (hm : Nat.ble (off + m) ks.length = true) : CellsA A H ((ks.drop off).take m) (cellsOf m fun i => x (off + i)) (ctsOf m fun i => c (off + i)) := by
  have hm' := Nat.le_of_ble_eq_true hm
  refine Pts.cells (fun i k hk => ?_) (by simp; omega)
  rw [List.getElem?_take] at hk
  split at hk
  · rw [List.getElem?_drop] at hk
    exact h _ k hk
  · cases hk
end

section
variable {A : Nat → Prop} {H : AH}
/-- an own row that has become data -/
theorem row_own {N sz : Nat} {cs : List Value} {ex : Bool} (hg : H.tr.get N = some (.cells cs sz ex)) (hA : A N) {b : Nat} {ks : List Kd} (hk : ks.length = sz) {l : List (List CT)} {m cap : Nat} (hm : m = l.length) (hlen : l.length * sz ≤ cs.length)
    (h : ∀ (i : Nat) c, l[i]? = some c → CellsA A H ks ((cs.drop (i * sz)).take sz) c) (hcap : l.length ≤ cap) (h1 : l.length ≤ 140737488351232) (h2 : l.length * b ≤ 140737488351232) : CellA A H (.row b ks) (.slice (some ⟨2 * N + 1, 0, none⟩) m cap) (.row l) := by
  subst hm
  simp only [CellA]
  refine ⟨h1, h2, .inr ⟨_, cap, rfl, hcap, ⟨InA.own hA, fun _ => ⟨cs, ex, by rw [odd_div, hk]; exact hg⟩⟩, fun i c hc => ?_⟩⟩
  have hi := lt_of_getElem? hc
  refine ⟨_, ?_, h i c hc⟩
  rw [add_spot _ rfl, hk, aloads_own hg]
  · simp only [Nat.zero_add]
  · simp only [Nat.zero_add]
    have : (i + 1) * sz ≤ l.length * sz := Nat.mul_le_mul_right _ hi
    rw [Nat.add_mul, Nat.one_mul] at this
    omega
end
/-- the bytes of a text -/
def CT.str : CT → List UInt8
  | .v (.string s) => s.data.toList
  | _ => []
/-- a text's content -/
def strs (l : List (List UInt8)) : List (List CT) := l.map fun s => [.v (.string ⟨⟨s⟩⟩)]

/-! ### bounds that are given or not -/
inductive OpO (l : List (Nat × Value)) : Option Operand → Option Value → Prop
  | none : OpO l none none
  | some {x : Operand} {v : Value} (h : opv l x = some v) : OpO l (some x) (some v)
theorem OpO.ok {n : Nat} {t : Tr Value} {l : List (Nat × Value)} {x : Option Operand} {v : Option Value} (h : OpO l x v) : x.map (aval (fr n t l)) = v := by
  cases h with
  | none => rfl
  | some h => rw [Option.map_some, opv_ok h]
theorem abounds_lh {len cap a b : Nat} {k k' : IntKind} (h1 : a ≤ b) (h2 : b ≤ cap) : abounds len cap (some (.int k (a : Int))) (some (.int k' (b : Int))) none = some (a, b, cap) := by
  have e1 : abound none cap cap = some cap := rfl
  have e2 : abound (some (Value.int k' (b : Int))) 0 cap = some b := by simp only [abound]; rw [if_pos ⟨by omega, by omega⟩]; simp
  have e3 : abound (some (Value.int k (a : Int))) 0 b = some a := by simp only [abound]; rw [if_pos ⟨by omega, by omega⟩]; simp
  simp only [abounds, e1, e2, e3]
theorem abounds_h {len cap b : Nat} {k' : IntKind} (h2 : b ≤ cap) : abounds len cap none (some (.int k' (b : Int))) none = some (0, b, cap) := by
  have e1 : abound none cap cap = some cap := rfl
  have e2 : abound (some (Value.int k' (b : Int))) 0 cap = some b := by simp only [abound]; rw [if_pos ⟨by omega, by omega⟩]; simp
  have e3 : abound none 0 b = some 0 := rfl
  simp only [abounds, e1, e2, e3]
theorem abounds_hm {len cap b m : Nat} {k k' : IntKind} (h1 : b ≤ m) (h2 : m ≤ cap) : abounds len cap none (some (.int k (b : Int))) (some (.int k' (m : Int))) = some (0, b, m) := by
  have e1 : abound (some (Value.int k' (m : Int))) cap cap = some m := by simp only [abound]; rw [if_pos ⟨by omega, by omega⟩]; simp
  have e2 : abound (some (Value.int k (b : Int))) 0 m = some b := by simp only [abound]; rw [if_pos ⟨by omega, by omega⟩]; simp
  have e3 : abound none 0 b = some 0 := rfl
  simp only [abounds, e1, e2, e3]
section
variable {P : Program} {E : Env P} {G : RG} {i n d : Nat} {r : List Oper} {Q : Fr → AH → Prop} {t : Tr Value} {l : List (Nat × Value)} {S H0 : AH} {A0 A : Nat → Prop} {L L' : OL} {v u : Value}
  {ty : TypeId} {ps : String} {af : Array Edge} {gd : Option (Nat × Bool)} {x y z : Operand}
theorem so_cutS {ta : TypeId} {lo hi : Option Operand} {vl vh : Option Value} {s : ByteArray} {p q m : Nat} (hw : gok G.ops l gd = true) (hdn : Nat.ble (d + 1) n = true) (hx : opv l x = some (.string s)) (hu : E.und ta = some .string) (h1 : OpO l lo vl) (h2 : OpO l hi vh)
    (hb : abounds s.data.toList.length s.data.toList.length vl vh none = some (p, q, m))
    (h : SO E G (i + 1) r Q (fr n t ((d, .string ⟨⟨(s.data.toList.take q).drop p⟩⟩) :: l)) H0 A L) : SO E G i (⟨some d, .slice ta x lo hi none, ty, ps, af, gd⟩ :: r) Q (fr n t l) H0 A L :=
  so_sliceS hw hdn hx hu rfl (by rw [h1.ok, h2.ok]; exact hb) h
/-- a part of a row of data, from its head -/
theorem so_cutD {ta e : TypeId} {lo hi mx : Option Operand} {vl vh vm : Option Value} {ii : TI} {a : Option Addr} {b cap q m : Nat} {ks : List Kd} {rw' : List (List CT)} (hw : gok G.ops l gd = true) (hdn : Nat.ble (d + 1) n = true) (hx : opv l x = some (.slice a rw'.length cap)) (hu : E.und ta = some (.slice e)) (hi' : E.inf e = some ii)
    (h1 : OpO l lo vl) (h2 : OpO l hi vh) (h3 : OpO l mx vm) (hr : RowD (qA G A) (qH G H0) b ks rw' a cap) (hk : ks.length = ii.size) (hk0 : ii.size ≠ 0) (hb : abounds rw'.length cap vl vh vm = some (0, q, m)) (hq : q ≤ rw'.length) (hqm : q ≤ m)
    (h : ∀ a', RowD (qA G A) (qH G H0) b ks (rw'.take q) a' (m) → SO E G (i + 1) r Q (fr n t ((d, .slice a' q m) :: l)) H0 A L) : SO E G i (⟨some d, .slice ta x lo hi mx, ty, ps, af, gd⟩ :: r) Q (fr n t l) H0 A L := by
  have hlen : (rw'.take q).length = q := by rw [List.length_take]; omega
  have row : ∀ p, a = some p → RowD (qA G A) (qH G H0) b ks (rw'.take q) (some p) m := by
    intro p hp
    refine ⟨by rw [hlen]; have := hr.len; omega, by rw [hlen]; have h4 := Nat.mul_le_mul_right b hq; have := hr.bytes; omega, by rw [hlen]; exact hqm, (fun h => by cases h), (fun p' h' => by cases h'; exact hr.inA p hp), (fun p' h' => by cases h'; exact hr.sz p hp), fun j hj => ?_⟩
    rw [hlen] at hj
    obtain ⟨p2, xs, c, e1, e2, e3, e4, e5⟩ := hr.at' j (by omega)
    rw [hp] at e1; cases e1
    exact ⟨p, xs, c, rfl, e2, by rw [List.getElem?_take, if_pos hj]; exact e3, e4, e5⟩
  cases a with
  | none =>
    have hc := hr.nil rfl
    subst hc
    have hl0 : rw'.length = 0 := by have := hr.le; omega
    have hm0 : m = 0 := by
      unfold abounds at hb
      split at hb
      · rename_i m' hm'
        split at hb
        · split at hb
          · rename_i hm2
            cases hb
            cases vm with
            | none => simp [abound] at hm'; omega
            | some vv =>
              cases vv <;> simp only [abound] at hm' <;> first | (cases hm'; done) | skip
              split at hm'
              · rename_i hcond; cases hm'; omega
              · cases hm'
          · cases hb
        · cases hb
      · cases hb
    subst hm0
    have hq0 : q = 0 := by omega
    subst hq0
    rw [hl0] at hx hb
    refine so_sliceN hw hdn hx hu hi' (by rw [h1.ok, h2.ok, h3.ok]; exact hb) (h none ⟨by simp, by simp, by simp, fun _ => rfl, (fun p h => by cases h), (fun p h => by cases h), fun j hj => by simp at hj⟩)
  | some p =>
    have e0 : p.add (0 * ii.size) = p := by unfold Addr.add; simp
    rcases Nat.mod_two_eq_zero_or_one p.block with hev | hod
    · refine so_sliceE hw hdn hx hu hi' hr.le hev (by rw [h1.ok, h2.ok, h3.ok]; exact hb) ?_
      rw [e0]
      simp only [ite_self, Nat.sub_zero]
      exact h _ (row p rfl)
    · obtain ⟨cs, ex, hget⟩ := hr.sz p rfl hod
      rw [hk] at hget
      have hAp : qA G A (p.block / 2) := by
        rcases hr.inA p rfl with h' | h'
        · omega
        · exact h'
      refine so_sliceD hw hdn hx hu hi' hr.le hod hAp hget (by simp) (by rw [h1.ok, h2.ok, h3.ok]; exact hb) ?_
      rw [e0]
      simp only [Nat.sub_zero]
      exact h _ (row p rfl)
theorem bin_sadd {ta : TypeId} {a b : ByteArray} (h : a.size + b.size ≤ 9223372036854775807) : abin E .add ta (.string a) (.string b) = some (.string ⟨⟨a.data.toList ++ b.data.toList⟩⟩) := by
  simp only [abin, abinStr, h, if_true]
end
end Go.AM
