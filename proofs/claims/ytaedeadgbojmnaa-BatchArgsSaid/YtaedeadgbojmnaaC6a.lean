/-
  Walks, laid by program.
-/
import Derived.Test.YtaedeadgbojmnaaC4a
set_option linter.unusedVariables false
set_option linter.unusedSimpArgs false
set_option maxRecDepth 100000
namespace Go.Proofs.Ytaedeadgbojmnaa
open Go Go.AM

theorem paramN_off (k : Nat) (hk : k < 4) : fieldOff (paramN k) = none := by
  match k, hk with
  | 0, _ => decide
  | 1, _ => decide
  | 2, _ => decide
  | 3, _ => decide
/-! what Fill comes to -/
def zeroK : Kd → Value
  | .int k => .int k 0
  | .bool => .bool false
  | .str => .string ⟨⟨[]⟩⟩
  | .row _ _ => .slice none 0 0
def zeroT : Kd → CT
  | .row _ _ => .row []
  | k => .v (zeroK k)
theorem zero_cells {A : Nat → Prop} {H : AH} : ∀ ks : List Kd, (∀ k ∈ ks, ∀ kk, k = .int kk → (Lit.int kk 0).wf = true) → CellsA A H ks (ks.map zeroK) (ks.map zeroT)
  | [], _ => by simp only [List.map_nil, CellsA]
  | k :: ks, h => by
    simp only [List.map_cons, CellsA]
    refine ⟨?_, zero_cells ks fun k' hk' => h k' (List.mem_cons_of_mem _ hk')⟩
    cases k with
    | int kk => simp only [zeroK, zeroT, CellA]; exact ⟨trivial, 0, rfl, h _ (List.mem_cons_self ..) kk rfl⟩
    | bool => simp only [zeroK, zeroT, CellA]; exact ⟨trivial, false, rfl⟩
    | str => simp only [zeroK, zeroT, CellA]; exact ⟨trivial, ⟨⟨[]⟩⟩, rfl, by decide⟩
    | row b ks' => simp only [zeroK, zeroT, CellA]; exact ⟨by simp, by simp, .inl ⟨trivial, trivial⟩⟩
theorem wf0 (kk : IntKind) : (Lit.int kk 0).wf = true := by cases kk <;> decide
def zeroF (i : Nat) : CT := (k48.map zeroT).getD i (.row [])
theorem zero_edit {A : Nat → Prop} {H : AH} : CellsA A H k48 (k48.map zeroK) (ctsOf 84 zeroF) := by
  have e : ctsOf 84 zeroF = k48.map zeroT := by kernel_rfl
  rw [e]; exact zero_cells k48 fun k _ kk _ => wf0 kk
def argV : List CT → Int
  | _ :: .v (.int _ n) :: _ => n
  | _ => 0
def dupA (al : List (List CT)) : Prop := ∃ (i k : Nat) (a b : List CT), k < i ∧ al[i]? = some a ∧ al[k]? = some b ∧ strF a = strF b
def lookA (al : List (List CT)) (p : List UInt8) : Option Int := (al.find? fun a => decide (strF a = p)).map argV
theorem lookA_none {al : List (List CT)} {p : List UInt8} (h : ∀ j a, j < al.length → al[j]? = some a → strF a ≠ p) : lookA al p = none := by
  have : (al.find? fun a => decide (strF a = p)) = none := by
    rw [List.find?_eq_none]
    intro a ha
    obtain ⟨j, hj⟩ := List.getElem?_of_mem ha
    simpa using h j a (lt_of_getElem? hj) hj
  simp only [lookA, this, Option.map_none]
theorem lookA_some {al : List (List CT)} {p : List UInt8} {j : Nat} {a : List CT} (hd : ¬ dupA al) (ha : al[j]? = some a) (hp : strF a = p) : lookA al p = some (argV a) := by
  have : (al.find? fun a => decide (strF a = p)) = some a := by
    cases hf : (al.find? fun a => decide (strF a = p)) with
    | none =>
      rw [List.find?_eq_none] at hf
      have := hf a (List.mem_of_getElem? ha)
      simp [hp] at this
    | some b =>
      have h1 := List.find?_some hf
      have h2 := List.mem_of_find?_eq_some hf
      obtain ⟨i, hi⟩ := List.getElem?_of_mem h2
      have h3 : strF b = p := by simpa using h1
      rcases Nat.lt_trichotomy i j with h | h | h
      · exact absurd ⟨j, i, a, b, h, ha, hi, hp.trans h3.symm⟩ hd
      · subst h; rw [ha] at hi; cases hi; rfl
      · exact absurd ⟨i, j, b, a, h, hi, ha, h3.trans hp.symm⟩ hd
  simp only [lookA, this, Option.map_some]
def fillB (al : List (List CT)) : List (List CT) → (Nat → CT) → Option (Nat → CT)
  | [], c => some c
  | b :: bl, c => match lookA al (strP b) with
    | none => none
    | some v => fillB al bl (setC c (strF b) v)
theorem fillB_step {al bl : List (List CT)} {k : Nat} {b : List CT} {c : Nat → CT} (hk : bl[k]? = some b) : fillB al (bl.drop k) c = match lookA al (strP b) with
    | none => none
    | some v => fillB al (bl.drop (k + 1)) (setC c (strF b) v) := by
  obtain ⟨h, rfl⟩ := List.getElem?_eq_some_iff.1 hk
  rw [List.drop_eq_getElem_cons h, fillB]
theorem off35 {q : List UInt8} (h : fieldOff q = some 35) : False := by
  unfold fieldOff at h
  by_cases e0 : q = [97]
  · rw [if_pos e0] at h; cases h
  rw [if_neg e0] at h
  by_cases e1 : q = [97, 116]
  · rw [if_pos e1] at h; cases h
  rw [if_neg e1] at h
  by_cases e2 : q = [98]
  · rw [if_pos e2] at h; cases h
  rw [if_neg e2] at h
  by_cases e3 : q = [100, 120]
  · rw [if_pos e3] at h; cases h
  rw [if_neg e3] at h
  by_cases e4 : q = [100, 121]
  · rw [if_pos e4] at h; cases h
  rw [if_neg e4] at h
  by_cases e5 : q = [103]
  · rw [if_pos e5] at h; cases h
  rw [if_neg e5] at h
  by_cases e6 : q = [104]
  · rw [if_pos e6] at h; cases h
  rw [if_neg e6] at h
  by_cases e7 : q = [105, 100]
  · rw [if_pos e7] at h; cases h
  rw [if_neg e7] at h
  by_cases e8 : q = [111, 112, 97, 99, 105, 116, 121]
  · rw [if_pos e8] at h; cases h
  rw [if_neg e8] at h
  by_cases e9 : q = [112, 97, 114, 101, 110, 116]
  · rw [if_pos e9] at h; cases h
  rw [if_neg e9] at h
  by_cases e10 : q = [114]
  · rw [if_pos e10] at h; cases h
  rw [if_neg e10] at h
  by_cases e11 : q = [116, 111]
  · rw [if_pos e11] at h; cases h
  rw [if_neg e11] at h
  by_cases e12 : q = [118, 97, 108, 117, 101]
  · rw [if_pos e12] at h; cases h
  rw [if_neg e12] at h
  by_cases e13 : q = [119]
  · rw [if_pos e13] at h; cases h
  rw [if_neg e13] at h
  by_cases e14 : q = [120]
  · rw [if_pos e14] at h; cases h
  rw [if_neg e14] at h
  by_cases e15 : q = [121]
  · rw [if_pos e15] at h; cases h
  rw [if_neg e15] at h
  cases h

theorem setC_len {c : Nat → CT} {q : List UInt8} {v : Int} : (rowOf (setC c q v 35)).length = (rowOf (c 35)).length := by
  unfold setC
  cases h : fieldOff q with
  | some fo =>
    simp only [upC]
    by_cases e : 35 = fo
    · exfalso
      subst e
      exact off35 h
    · rw [if_neg e]
  | none => simp only [upC, if_true, rowOf, List.length_set]
/-- the error and the edit that Fill hands back; c: the action -/
inductive FillS (c : Nat → CT) (al : List (List CT)) : Int → (Nat → CT) → Prop
  | chk (h : errOf (ctsOf 85 c) ≠ 0) : FillS c al (errOf (ctsOf 85 c)) zeroF
  | dup (h : errOf (ctsOf 85 c) = 0) (hd : dupA al) : FillS c al 10 zeroF
  | none (h : errOf (ctsOf 85 c) = 0) (hd : ¬ dupA al) (hf : fillB al (rowOf (c 84)) c = none) : FillS c al 9 zeroF
  | ok (h : errOf (ctsOf 85 c) = 0) (hd : ¬ dupA al) {c' : Nat → CT} (hf : fillB al (rowOf (c 84)) c = some c') : FillS c al 0 c'
theorem FillS.same {c : Nat → CT} {al : List (List CT)} {e e' : Int} {c1 c2 : Nat → CT} (h : FillS c al e c1) (h' : FillS c al e' c2) : e = e' ∧ c1 = c2 := by
  cases h with
  | chk h => cases h' with
    | chk _ => exact ⟨rfl, rfl⟩
    | dup h2 _ => exact absurd h2 h
    | none h2 _ _ => exact absurd h2 h
    | ok h2 _ _ => exact absurd h2 h
  | dup h hd => cases h' with
    | chk h2 => exact absurd h h2
    | dup _ _ => exact ⟨rfl, rfl⟩
    | none _ h2 _ => exact absurd hd h2
    | ok _ h2 _ => exact absurd hd h2
  | none h hd hf => cases h' with
    | chk h2 => exact absurd h h2
    | dup _ h2 => exact absurd h2 hd
    | none _ _ _ => exact ⟨rfl, rfl⟩
    | ok _ _ hf2 => rw [hf] at hf2; cases hf2
  | ok h hd hf => cases h' with
    | chk h2 => exact absurd h h2
    | dup _ h2 => exact absurd h2 hd
    | none _ _ hf2 => rw [hf] at hf2; cases hf2
    | ok _ _ hf2 => rw [hf] at hf2; cases hf2; exact ⟨rfl, rfl⟩
def FillT (c : Nat → CT) (al : List (List CT)) (u : Value) (H' : AH) (A' : Nat → Prop) : Prop := ∃ ys e c', u = .tuple ⟨[.agg ⟨ys⟩, .int .i64 e]⟩ ∧ FillS c al e c' ∧ CellsA A' H' k48 ys (ctsOf 84 c')
def FillR (c : Nat → CT) (al : List (List CT)) (A : Nat → Prop) (S : AH) (u : Value) (H' : AH) : Prop := Kept S.nx S H' ∧ FillT c al u H' fun j => A j ∨ (S.nx ≤ j ∧ j < H'.nx)
theorem fillR_of {S H0 H : AH} {A A1 : Nat → Prop} {L : OL} {ys : List Value} {e : Int} {c c' : Nat → CT} {al : List (List CT)} (hH : HS S H0 A A1 L H) (hs : FillS c al e c') (h : CellsA A1 H0 k48 ys (ctsOf 84 c')) : FillR c al A S (.tuple ⟨[.agg ⟨ys⟩, .int .i64 e]⟩) H :=
  ⟨hH.kept, ys, e, c', rfl, hs, CellsA.gr ⟨fun j hj => (hH.sub j hj).imp id fun h => ⟨h, hH.lt j hj⟩, fun j hj => rfl, rfl⟩ _ _ _ (CellsA.gr hH.gr _ _ _ h)⟩
theorem one_row {A : Nat → Prop} {H : AH} {N : Nat} {ex : Bool} {x : Nat → Value} {c : Nat → CT} (hg : H.tr.get N = some (.cells (cellsOf 85 x) 85 ex)) (hA : A N) (px : Pts A H k51 x c) : CellA A H (.row 872 k51) (.slice (some ⟨2 * N + 1, 0, none⟩) 1 1) (.row [ctsOf 85 c]) := by
  refine row_own hg hA rfl (l := [ctsOf 85 c]) rfl (by rw [cellsOf_length]; exact Nat.le_of_ble_eq_true rfl) (fun i d hd => ?_) (Nat.le_of_ble_eq_true rfl) (Nat.le_of_ble_eq_true rfl) (Nat.le_of_ble_eq_true rfl)
  cases i with
  | zero =>
    simp only [List.getElem?_cons_zero] at hd
    cases hd
    rw [Nat.zero_mul, cellsOf_all]
    exact px.cells rfl
  | succ i => simp at hd
theorem chk_one (a : List CT) : chkErr [a] = errOf a := by
  rw [chkErr, if_neg (by simp)]
  by_cases h : errOf a = 0
  · rw [firstE_none]
    · exact h.symm
    · intro j hj
      obtain rfl : j = 0 := by simp at hj; exact hj
      exact h
  · rw [firstE_found (k := 0) (by simp) h (fun j hj => absurd hj (Nat.not_lt_zero _))]; rfl
theorem arg2 {A : Nat → Prop} {H : AH} {xs : List Value} {c : List CT} (h : CellsA A H [.str, .int .i64] xs c) : ∃ u n, xs = [.string u, .int .i64 n] ∧ c = [.v (.string u), .v (.int .i64 n)] ∧ u.size ≤ maxLen ∧ (Lit.int .i64 n).wf = true := by
  obtain ⟨h1, h2⟩ := h.len
  obtain ⟨x, y, rfl⟩ := len_two h1
  obtain ⟨d, e, rfl⟩ := len_two h2
  simp only [CellsA] at h
  obtain ⟨u, rfl, rfl, hu⟩ := h.1.str
  obtain ⟨p, rfl, rfl, hp⟩ := h.2.1.int
  exact ⟨u, p, rfl, rfl, hu, hp⟩
theorem act_ok {a : List CT} (h : errOf a = 0) : ∀ (k : Nat) (b : List CT), (bindsOf a)[k]? = some b → contB (strs fieldsL) (strF b) = true ∧ ¬ (((paramsOf a).length : Nat) : Int) ≤ pIx (strF b) := by
  intro k b hb
  unfold errOf actErr at h
  split at h
  · cases h
  · have hk : bindErr (bindsOf a) (paramsOf a).length k = 0 := by
      by_cases h0 : bindErr (bindsOf a) (paramsOf a).length k = 0
      · exact h0
      · exfalso
        -- the first that is not nothing
        have key : ∀ n m, (∀ j, j < m → bindErr (bindsOf a) (paramsOf a).length j = 0) → m ≤ k → k - m = n → False := by
          intro n
          induction n with
          | zero =>
            intro m hm hmk hn
            obtain rfl : m = k := by omega
            rw [firstE_found (lt_of_getElem? hb) h0 hm] at h
            exact h0 h
          | succ n ih =>
            intro m hm hmk hn
            by_cases hz : bindErr (bindsOf a) (paramsOf a).length m = 0
            · refine ih (m + 1) (fun j hj => ?_) (by omega) (by omega)
              by_cases e : j = m
              · subst e; exact hz
              · exact hm j (by omega)
            · have := lt_of_getElem? hb
              rw [firstE_found (show m < (bindsOf a).length by omega) hz hm] at h
              exact hz h
        exact key _ 0 (fun j hj => absurd hj (Nat.not_lt_zero _)) (Nat.zero_le _) rfl
    simp only [bindErr, hb] at hk
    split at hk
    · cases hk
    · split at hk
      · cases hk
      · rename_i h2
        split at hk
        · cases hk
        · split at hk
          · cases hk
          · rename_i h4
            exact ⟨by simpa using h2, h4⟩
theorem take_all {cs : List Value} {n : Nat} (h : cs.length = n) : (cs.drop 0).take n = cs := by rw [List.drop_zero, List.take_of_length_le (by omega)]
theorem parts_fn (c : Nat → CT) {bl pl : List (List CT)} (h1 : c 84 = .row bl) (h2 : c 35 = .row pl) : bindsOf (ctsOf 85 c) = bl ∧ paramsOf (ctsOf 85 c) = pl := by
  have e1 : (ctsOf 85 c)[84]? = some (.row bl) := by rw [ctsOf_get (by omega), h1]
  have e2 : (ctsOf 85 c)[35]? = some (.row pl) := by rw [ctsOf_get (by omega), h2]
  simp only [bindsOf, paramsOf, e1, e2]
  exact ⟨trivial, trivial⟩
end Go.Proofs.Ytaedeadgbojmnaa
