/-
  The abstract machine, part 18: a rule for each operation.
-/
import Derived.Test.YtpfgpjopjadmiaaGreatDoorAM17
set_option linter.unusedVariables false
set_option linter.unusedSimpArgs false
noncomputable section
namespace Go.AM
open Go.RowKit

theorem cellsOf_get {n i : Nat} {x : Nat → Value} (h : Nat.blt i n = true) : (cellsOf n x)[i]? = some (x i) := by
  have : i < n := Nat.le_of_ble_eq_true h
  simp [cellsOf, this]
theorem cellsOf_length (n : Nat) (x : Nat → Value) : (cellsOf n x).length = n := by simp [cellsOf]
theorem cellsOf_le {m n : Nat} {x : Nat → Value} (h : Nat.ble m n = true) : m ≤ (cellsOf n x).length := by rw [cellsOf_length]; exact Nat.le_of_ble_eq_true h
def upd1 (x : Nat → Value) (off : Nat) (v : Value) : Nat → Value := fun i => bif Nat.beq i off then v else x i
def updr (x : Nat → Value) (off m : Nat) (y : Nat → Value) : Nat → Value := fun i => bif Nat.ble off i && Nat.blt i (off + m) then y (i - off) else x i
theorem cellsOf_set {n off : Nat} {x : Nat → Value} {v : Value} (h : Nat.blt off n = true) : (cellsOf n x).take off ++ ([v] ++ (cellsOf n x).drop (off + 1)) = cellsOf n (upd1 x off v) := by
  have hlt : off < n := Nat.le_of_ble_eq_true h
  apply List.ext_getElem?
  intro i
  by_cases h1 : i < off
  · rw [List.getElem?_append_left (by simp [cellsOf]; omega), List.getElem?_take, if_pos h1, cellsOf_get (by simp [Nat.blt]; omega), cellsOf_get (by simp [Nat.blt]; omega)]
    rw [upd1, show Nat.beq i off = false by (cases e : Nat.beq i off with | false => rfl | true => have := Nat.eq_of_beq_eq_true e; omega)]; rfl
  · rw [List.getElem?_append_right (by simp [cellsOf]; omega)]
    simp only [List.length_take, cellsOf_length, Nat.min_eq_left (Nat.le_of_lt hlt)]
    by_cases h2 : i = off
    · subst h2
      rw [cellsOf_get (by simp [Nat.blt]; omega), upd1]
      simp
    · rw [List.getElem?_append_right (by simp; omega), List.getElem?_drop]
      simp only [List.length_singleton]
      rw [show off + 1 + (i - off - 1) = i by omega]
      by_cases h3 : i < n
      · rw [cellsOf_get (by simp [Nat.blt]; omega), cellsOf_get (by simp [Nat.blt]; omega), upd1, show Nat.beq i off = false by (cases e : Nat.beq i off with | false => rfl | true => exact absurd (Nat.eq_of_beq_eq_true e) h2)]; rfl
      · rw [List.getElem?_eq_none (by simp [cellsOf]; omega), List.getElem?_eq_none (by simp [cellsOf]; omega)]
theorem cellsOf_setr {n off m : Nat} {x y : Nat → Value} (h : Nat.ble (off + m) n = true) : (cellsOf n x).take off ++ (cellsOf m y ++ (cellsOf n x).drop (off + (cellsOf m y).length)) = cellsOf n (updr x off m y) := by
  have hle : off + m ≤ n := Nat.le_of_ble_eq_true h
  rw [cellsOf_length]
  apply List.ext_getElem?
  intro i
  have hu : updr x off m y i = if off ≤ i ∧ i < off + m then y (i - off) else x i := by
    simp only [updr, cond_eq_ite, Bool.and_eq_true, Nat.blt, Nat.ble_eq]
    by_cases hc : off ≤ i ∧ i < off + m
    · rw [if_pos hc, if_pos ⟨hc.1, hc.2⟩]
    · rw [if_neg hc, if_neg (fun h => hc ⟨h.1, h.2⟩)]
  by_cases h1 : i < off
  · rw [List.getElem?_append_left (by simp [cellsOf]; omega), List.getElem?_take, if_pos h1, cellsOf_get (by simp [Nat.blt]; omega), cellsOf_get (by simp [Nat.blt]; omega), hu, if_neg (by omega)]
  · rw [List.getElem?_append_right (by simp [cellsOf]; omega)]
    simp only [List.length_take, cellsOf_length, Nat.min_eq_left (show off ≤ n by omega)]
    by_cases h2 : i < off + m
    · rw [List.getElem?_append_left (by simp [cellsOf]; omega), cellsOf_get (by simp [Nat.blt]; omega), cellsOf_get (by simp [Nat.blt]; omega), hu, if_pos (by omega)]
    · rw [List.getElem?_append_right (by simp [cellsOf]; omega), List.getElem?_drop, cellsOf_length]
      rw [show off + m + (i - off - m) = i by omega]
      by_cases h3 : i < n
      · rw [cellsOf_get (by simp [Nat.blt]; omega), cellsOf_get (by simp [Nat.blt]; omega), hu, if_neg (by omega)]
      · rw [List.getElem?_eq_none (by simp [cellsOf]; omega), List.getElem?_eq_none (by simp [cellsOf]; omega)]
theorem cellsOf_part {n off m : Nat} {x : Nat → Value} (h : Nat.ble (off + m) n = true) : ((cellsOf n x).drop off).take m = cellsOf m (fun i => x (off + i)) := by
  have hle : off + m ≤ n := Nat.le_of_ble_eq_true h
  apply List.ext_getElem?
  intro i
  rw [List.getElem?_take]
  by_cases h1 : i < m
  · rw [if_pos h1, List.getElem?_drop, cellsOf_get (by simp [Nat.blt]; omega), cellsOf_get (by simp [Nat.blt]; omega)]
  · rw [if_neg h1, List.getElem?_eq_none (by simp [cellsOf]; omega)]

section
variable {A : Nat → Prop} {H : AH}
theorem CellA.one {k : Kd} {x : Value} {c : CT} (h : CellA A H k x c) : x.oneCell' = true := by
  cases k with
  | int k => obtain ⟨n, rfl, _⟩ := h.int; rfl
  | bool => obtain ⟨n, rfl, _⟩ := h.bool; rfl
  | str => obtain ⟨n, rfl, _⟩ := h.str; rfl
  | row b ks =>
    obtain ⟨l, rfl, _, _, ⟨rfl, _⟩ | ⟨a, cap, rfl, _⟩⟩ := h.row
    · rfl
    · rfl
theorem CellsA.one : ∀ {ks : List Kd} {xs : List Value} {cs : List CT}, CellsA A H ks xs cs → allOne xs = true
  | [], [], [], _ => rfl
  | k :: ks, x :: xs, c :: cs, h => by
    simp only [CellsA] at h
    simp only [allOne, h.1.one, CellsA.one h.2, Bool.and_self]
  | [], [], _ :: _, h => by simp only [CellsA] at h
  | [], _ :: _, _, h => by simp only [CellsA] at h
  | _ :: _, [], _, h => by simp only [CellsA] at h
  | _ :: _, _ :: _, [], h => by simp only [CellsA] at h
end

/-! ### comparisons and sums -/
section
variable {P : Program} {E : Env P} {t : TypeId} {k : IntKind} {a b : Int} {s u : ByteArray}
theorem bin_lss_t (h : a < b) : abin E .lss t (.int k a) (.int k b) = some (.bool true) := by simp [abin, abinInt, h]
theorem bin_lss_f (h : b ≤ a) : abin E .lss t (.int k a) (.int k b) = some (.bool false) := by simp [abin, abinInt]; omega
theorem bin_leq_t (h : a ≤ b) : abin E .leq t (.int k a) (.int k b) = some (.bool true) := by simp [abin, abinInt, h]
theorem bin_leq_f (h : b < a) : abin E .leq t (.int k a) (.int k b) = some (.bool false) := by simp [abin, abinInt]; omega
theorem bin_gtr_t (h : b < a) : abin E .gtr t (.int k a) (.int k b) = some (.bool true) := by simp [abin, abinInt, h]
theorem bin_gtr_f (h : a ≤ b) : abin E .gtr t (.int k a) (.int k b) = some (.bool false) := by simp [abin, abinInt]; omega
theorem bin_geq_t (h : b ≤ a) : abin E .geq t (.int k a) (.int k b) = some (.bool true) := by simp [abin, abinInt, h]
theorem bin_geq_f (h : a < b) : abin E .geq t (.int k a) (.int k b) = some (.bool false) := by simp [abin, abinInt]; omega
theorem bin_eql_t (h : a = b) : abin E .eql t (.int k a) (.int k b) = some (.bool true) := by simp [abin, abinInt, h]
theorem bin_eql_f (h : a ≠ b) : abin E .eql t (.int k a) (.int k b) = some (.bool false) := by simp [abin, abinInt, h]
theorem bin_neq_t (h : a ≠ b) : abin E .neq t (.int k a) (.int k b) = some (.bool true) := by simp [abin, abinInt, h]
theorem bin_neq_f (h : a = b) : abin E .neq t (.int k a) (.int k b) = some (.bool false) := by simp [abin, abinInt, h]
theorem bin_seql_t (h : s.data.toList = u.data.toList) : abin E .eql t (.string s) (.string u) = some (.bool true) := by simp [abin, abinStr, h]
theorem bin_seql_f (h : s.data.toList ≠ u.data.toList) : abin E .eql t (.string s) (.string u) = some (.bool false) := by
  simp only [abin, abinStr, Option.some.injEq, Value.bool.injEq]
  exact beq_eq_false_iff_ne.2 h
theorem bin_sneq_t (h : s.data.toList ≠ u.data.toList) : abin E .neq t (.string s) (.string u) = some (.bool true) := by
  simp only [abin, abinStr, Option.some.injEq, Value.bool.injEq, Bool.not_eq_true']
  exact beq_eq_false_iff_ne.2 h
theorem bin_sneq_f (h : s.data.toList = u.data.toList) : abin E .neq t (.string s) (.string u) = some (.bool false) := by simp [abin, abinStr, h]
theorem bin_add {c : Int} (h : k.wrap (a + b) = c) : abin E .add t (.int k a) (.int k b) = some (.int k c) := by simp [abin, abinInt, h]
theorem bin_sub {c : Int} (h : k.wrap (a - b) = c) : abin E .sub t (.int k a) (.int k b) = some (.int k c) := by simp [abin, abinInt, h]
theorem bin_mul {c : Int} (h : k.wrap (a * b) = c) : abin E .mul t (.int k a) (.int k b) = some (.int k c) := by simp [abin, abinInt, h]
theorem wrap64 {c : Int} (h0 : -9223372036854775808 ≤ c) (h1 : c ≤ 9223372036854775807) : IntKind.i64.wrap c = c := by
  rw [IntKind.wrap_i64]; omega
theorem bin_incr {m : Nat} (h : m + 1 ≤ 9223372036854775807) : abin E .add t (.int .i64 (m : Int)) (.int .i64 1) = some (.int .i64 ((m + 1 : Nat) : Int)) := bin_add (by rw [wrap64 (by omega) (by omega)]; omega)
theorem bin_decr {m : Nat} (h : m ≤ 9223372036854775807) : abin E .sub t (.int .i64 ((m + 1 : Nat) : Int)) (.int .i64 1) = some (.int .i64 (m : Int)) := bin_sub (by rw [wrap64 (by omega) (by omega)]; omega)
theorem bin_pnil_t {e : TypeId} (hu : E.und t = some (.pointer e)) : abin E .eql t (.pointer none) (.pointer none) = some (.bool true) := by simp [abin, hu, eqAs]
theorem bin_pnil_f {e : TypeId} {p : Addr} (hu : E.und t = some (.pointer e)) : abin E .eql t (.pointer (some p)) (.pointer none) = some (.bool false) := by simp [abin, hu, eqAs]
theorem bin_bool_same {c : Bool} (hu : E.und t = some .bool) : abin E .eql t (.bool c) (.bool c) = some (.bool true) := by simp [abin, hu, eqAs]
theorem bin_bool_samen {c : Bool} (hu : E.und t = some .bool) : abin E .neq t (.bool c) (.bool c) = some (.bool false) := by simp [abin, hu, eqAs]

/-- two equal values of a kind -/
def kdType (k : Kd) (d : TypeDesc) : Bool :=
  match k, d with
  | .int _, .int _ => true
  | .bool, .bool => true
  | .str, .string => true
  | _, _ => false
theorem bin_same {A A' : Nat → Prop} {H H' : AH} {kd : Kd} {x y : Value} {c : CT} {d : TypeDesc} (hu : E.und t = some d) (hk : kdType kd d = true) (hx : CellA A H kd x c) (hy : CellA A' H' kd y c) : abin E .eql t x y = some (.bool true) := by
  cases kd with
  | int k => obtain ⟨n, rfl, rfl, _⟩ := hx.int; obtain ⟨m, rfl, e, _⟩ := hy.int; cases e; exact bin_eql_t rfl
  | bool =>
    obtain ⟨n, rfl, rfl⟩ := hx.bool; obtain ⟨m, rfl, e⟩ := hy.bool; cases e
    cases d <;> simp [kdType] at hk
    exact bin_bool_same hu
  | str => obtain ⟨n, rfl, rfl, _⟩ := hx.str; obtain ⟨m, rfl, e, _⟩ := hy.str; cases e; exact bin_seql_t rfl
  | row b ks => simp [kdType] at hk
theorem bin_samen {A A' : Nat → Prop} {H H' : AH} {kd : Kd} {x y : Value} {c : CT} {d : TypeDesc} (hu : E.und t = some d) (hk : kdType kd d = true) (hx : CellA A H kd x c) (hy : CellA A' H' kd y c) : abin E .neq t x y = some (.bool false) := by
  cases kd with
  | int k => obtain ⟨n, rfl, rfl, _⟩ := hx.int; obtain ⟨m, rfl, e, _⟩ := hy.int; cases e; exact bin_neq_f rfl
  | bool =>
    obtain ⟨n, rfl, rfl⟩ := hx.bool; obtain ⟨m, rfl, e⟩ := hy.bool; cases e
    cases d <;> simp [kdType] at hk
    exact bin_bool_samen hu
  | str => obtain ⟨n, rfl, rfl, _⟩ := hx.str; obtain ⟨m, rfl, e, _⟩ := hy.str; cases e; exact bin_sneq_f rfl
  | row b ks => simp [kdType] at hk

/-- the cells fit the type, so that a value equals itself -/
def partOk {P : Program} (E : Env P) (f : TypeId → List Kd → Bool) (t : TypeId) (ks : List Kd) (off : Nat) : Bool :=
  match E.und t with
  | some dd => (match E.inf t with
    | some i => bif isAggD dd then Nat.ble (off + i.size) ks.length && f t ((ks.drop off).take i.size) else Nat.ble (off + 1) ks.length && f t ((ks.drop off).take 1)
    | none => false)
  | none => false
def selfOk {P : Program} (E : Env P) : Nat → TypeId → List Kd → Bool
  | 0, _, _ => false
  | d + 1, t, ks =>
    match E.und t with
    | some (.struct fs) => E.eqT t && fs.toList.all fun fd => (fd.name == "_") || partOk E (selfOk E d) fd.type ks fd.offset
    | some (.array m e) => (match E.inf e with
      | some i => (List.range m).all fun j => partOk E (selfOk E d) e ks (j * i.size)
      | none => false)
    | some (.int k) => (match ks with | [.int k'] => decide (k = k') | _ => false)
    | some .bool => (match ks with | [.bool] => true | _ => false)
    | some .string => (match ks with | [.str] => true | _ => false)
    | _ => false
end

section
variable {P : Program} {E : Env P} {A : Nat → Prop} {H : AH}
def SelfAt (E : Env P) (A : Nat → Prop) (H : AH) (d : Nat) : Prop := ∀ (t : TypeId) (ks : List Kd) (xs : List Value) (cs : List CT), selfOk E d t ks = true → CellsA A H ks xs cs → ks.all Kd.isFlat = true →
    (∀ dd, E.und t = some dd → isAggD dd = true → aeq E d t (.agg ⟨xs⟩) (.agg ⟨xs⟩) = some true) ∧ (∀ dd x, E.und t = some dd → isAggD dd = false → xs = [x] → aeq E d t x x = some true)
theorem part_self {d : Nat} (ih : SelfAt E A H d) {t : TypeId} {ks : List Kd} {xs : List Value} {cs : List CT} {off : Nat} (hf : partOk E (selfOk E d) t ks off = true) (hx : CellsA A H ks xs cs) (hfl : ks.all Kd.isFlat = true) : ∃ u, apart E t xs off = some u ∧ aeq E d t u u = some true := by
  obtain ⟨hlen, _⟩ := hx.len
  have hsub : ∀ a b, ((ks.drop a).take b).all Kd.isFlat = true := by
    intro a b
    rw [List.all_eq_true] at hfl ⊢
    intro k hk
    exact hfl k (List.mem_of_mem_drop (List.mem_of_mem_take hk))
  unfold partOk at hf
  split at hf
  · rename_i dd hdd
    split at hf
    · rename_i i hi
      cases hag : isAggD dd with
      | true =>
        rw [hag, cond_true, Bool.and_eq_true] at hf
        exact ⟨_, by simp only [apart, hdd, hag, cond_true, hi, hlen, hf.1], (ih t _ _ _ hf.2 (hx.part off i.size) (hsub _ _)).1 dd hdd hag⟩
      | false =>
        rw [hag, cond_false, Bool.and_eq_true] at hf
        have hlt : off < xs.length := by have := Nat.le_of_ble_eq_true hf.1; omega
        have hpart : (xs.drop off).take 1 = [xs[off]] := by
          rw [List.drop_eq_getElem_cons hlt]; rfl
        refine ⟨xs[off], ?_, (ih t _ _ _ hf.2 (hx.part off 1) (hsub _ _)).2 dd _ hdd hag hpart⟩
        simp only [apart, hdd, hag, cond_false]
        exact List.getElem?_eq_getElem hlt
    · cases hf
  · cases hf
theorem aeqElems_true {f : Nat → Option Bool} : ∀ (n i : Nat), (∀ j, i ≤ j → j < i + n → f j = some true) → aeqElems f i n = some true := by
  intro n
  induction n with
  | zero => intro i _; rfl
  | succ n ih =>
    intro i h
    simp only [aeqElems]
    rw [h i (Nat.le_refl _) (by omega)]
    exact ih (i + 1) fun j h1 h2 => h j (by omega) (by omega)
theorem aeq_self : ∀ (d : Nat), SelfAt E A H d := by
  intro d
  induction d with
  | zero => intro t ks xs cs h; simp [selfOk] at h
  | succ d ih =>
    intro t ks xs cs h hx hfl
    simp only [selfOk] at h
    split at h
    · rename_i fs hu
      refine ⟨fun dd hd ha => ?_, fun dd x hd ha _ => ?_⟩
      · rw [hu] at hd; cases hd
        simp only [Bool.and_eq_true, List.all_eq_true] at h
        obtain ⟨hE, hfs⟩ := h
        simp only [aeq, hu, hE, cond_true]
        have key : ∀ l : List Field, (∀ fd ∈ l, fd ∈ fs.toList) → aeqFields E (aeq E d) xs xs l = some true := by
          intro l
          induction l with
          | nil => intro _; rfl
          | cons fd l ihl =>
            intro hin
            have hr := ihl fun g hg => hin g (List.mem_cons_of_mem _ hg)
            simp only [aeqFields]
            cases hn : fd.name == "_" with
            | true => rw [cond_true]; exact hr
            | false =>
              rw [cond_false]
              have hf := hfs fd (hin fd (List.mem_cons_self ..))
              rw [hn, Bool.false_or] at hf
              obtain ⟨u, h1, h2⟩ := part_self ih hf hx hfl
              rw [h1]
              simp only
              rw [h2]
              exact hr
        exact key _ fun _ h => h
      · rw [hu] at hd; cases hd; cases ha
    · rename_i m e hu
      refine ⟨fun dd hd ha => ?_, fun dd x hd ha _ => ?_⟩
      · split at h
        · rename_i ii hi
          simp only [aeq, hu, hi]
          refine aeqElems_true m 0 fun j _ hj => ?_
          rw [List.all_eq_true] at h
          obtain ⟨u, h1, h2⟩ := part_self ih (h j (List.mem_range.2 (by omega))) hx hfl
          rw [h1]
          simp only
          exact h2
        · cases h
      · rw [hu] at hd; cases hd; cases ha
    · rename_i k hu
      refine ⟨fun dd hd ha => ?_, fun dd x hd ha hxs => ?_⟩
      · rw [hu] at hd; cases hd; cases ha
      · subst hxs
        split at h
        · rename_i k' 
          match cs, hx with
          | [c], hx =>
            simp only [CellsA] at hx
            obtain ⟨n, rfl, _⟩ := hx.1.int
            simp [aeq, hu]
        · cases h
    · rename_i hu
      refine ⟨fun dd hd ha => ?_, fun dd x hd ha hxs => ?_⟩
      · rw [hu] at hd; cases hd; cases ha
      · subst hxs
        split at h
        · match cs, hx with
          | [c], hx =>
            simp only [CellsA] at hx
            obtain ⟨n, rfl, _⟩ := hx.1.bool
            simp [aeq, hu]
        · cases h
    · rename_i hu
      refine ⟨fun dd hd ha => ?_, fun dd x hd ha hxs => ?_⟩
      · rw [hu] at hd; cases hd; cases ha
      · subst hxs
        split at h
        · match cs, hx with
          | [c], hx =>
            simp only [CellsA] at hx
            obtain ⟨n, rfl, _⟩ := hx.1.str
            simp [aeq, hu]
        · cases h
    · cases h
theorem bin_aggsame {A' : Nat → Prop} {H' : AH} {t : TypeId} {ks : List Kd} {xs ys : List Value} {cs : List CT} {fs : Array Field} (hu : E.und t = some (.struct fs)) (hE : E.eqT t = true) (hs : selfOk E 9 t ks = true) (hfl : ks.all Kd.isFlat = true) (hx : CellsA A H ks xs cs) (hy : CellsA A' H' ks ys cs) :
    abin E .eql t (.agg ⟨xs⟩) (.agg ⟨ys⟩) = some (.bool true) ∧ abin E .neq t (.agg ⟨xs⟩) (.agg ⟨ys⟩) = some (.bool false) := by
  have e : ys = xs := by rw [(hx.flat hfl).1, (hy.flat hfl).1]
  subst e
  have h1 := (aeq_self 9 t ks _ cs hs hx hfl).1 _ hu rfl
  have h2 := (hx.flat hfl).2.2
  simp only [abin, h2, hE, Bool.and_self, cond_true, h1, eqAs]
  exact ⟨trivial, rfl⟩
end
end Go.AM
