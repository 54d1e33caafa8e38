/-
  Libraries of files, in plain words: errors, order, what is added, the latest file, what a link wants.
-/
import Derived.Test.YthnplnlhibalcaaGreatDoorAM25
set_option linter.unusedVariables false
set_option linter.unusedSimpArgs false
namespace Go.Proofs.YthnplnlhibalcaaGreatDoor
open Go Go.AM

/-! ### names, first errors -/
/-- a name as the document says -/
def nameB (l : List UInt8) : Bool := l.all (fun b => decide (33 ≤ b.toNat) && decide (b.toNat ≤ 126)) && (decide (1 ≤ l.length) && decide (l.length ≤ 32))
theorem lt_of_get {α : Type} {l : List α} {k : Nat} {a : α} (h : l[k]? = some a) : k < l.length := by
  rcases Nat.lt_or_ge k l.length with h' | h'
  · exact h'
  · simp [List.getElem?_eq_none h'] at h
theorem nameB_bad {l : List UInt8} {k : Nat} {b : UInt8} (hb : l[k]? = some b) (h : b.toNat < 33 ∨ 126 < b.toNat) : nameB l = false := by
  have hm := List.mem_of_getElem? hb
  cases e : nameB l with
  | false => rfl
  | true =>
    simp only [nameB, Bool.and_eq_true, List.all_eq_true, decide_eq_true_eq] at e
    have := e.1 b hm
    omega
theorem nameB_len {l : List UInt8} (h : ∀ j b, j < l.length → l[j]? = some b → 33 ≤ b.toNat ∧ b.toNat ≤ 126) : nameB l = (decide (1 ≤ l.length) && decide (l.length ≤ 32)) := by
  have : (l.all fun b => decide (33 ≤ b.toNat) && decide (b.toNat ≤ 126)) = true := by
    rw [List.all_eq_true]
    intro b hb
    obtain ⟨j, hj⟩ := List.getElem?_of_mem hb
    have := h j b (lt_of_get hj) hj
    simp [this.1, this.2]
  rw [nameB, this, Bool.true_and]
theorem byte3 (b : UInt8) : b.toNat < 33 ∨ (33 ≤ b.toNat ∧ b.toNat ≤ 126) ∨ 126 < b.toNat := by omega
theorem len3 (n : Nat) : n < 1 ∨ (1 ≤ n ∧ n ≤ 32) ∨ 32 < n := by omega
/-- the first that is not nothing -/
def firstE (f : Nat → Int) (n : Nat) : Int :=
  match (List.range n).find? (fun k => decide (f k ≠ 0)) with
  | some k => f k
  | none => 0
theorem firstE_found {f : Nat → Int} {n k : Nat} (hk : k < n) (h : f k ≠ 0) (hb : ∀ j, j < k → f j = 0) : firstE f n = f k := by
  have : (List.range n).find? (fun k => decide (f k ≠ 0)) = some k := by
    rw [List.find?_range_eq_some]
    exact ⟨by simpa using h, by simpa using hk, fun j hj => by simpa using hb j hj⟩
  simp only [firstE, this]
theorem firstE_none {f : Nat → Int} {n : Nat} (hb : ∀ j, j < n → f j = 0) : firstE f n = 0 := by
  have : (List.range n).find? (fun k => decide (f k ≠ 0)) = none := by
    rw [List.find?_eq_none]
    intro j hj
    simpa using hb j (List.mem_range.1 hj)
  simp only [firstE, this]
theorem firstE_zero {f : Nat → Int} {n : Nat} (h : firstE f n = 0) : ∀ j, j < n → f j = 0 := by
  intro j hj
  unfold firstE at h
  split at h
  · rename_i k hk
    have := List.find?_some hk
    simp [h] at this
  · rename_i hk
    rw [List.find?_eq_none] at hk
    have := hk j (List.mem_range.2 hj)
    simpa using this
theorem take_snoc' {α : Type} {l : List α} {i : Nat} {y : α} (h : l[i]? = some y) : l.take (i + 1) = l.take i ++ [y] := by rw [List.take_add_one, h]; rfl

/-! ### files -/
/-- a file's name, revision and data -/
def nmOf : List CT → Txt
  | d :: _ => d.str
  | [] => []
def rvOf : List CT → Int
  | _ :: .v (.int _ n) :: _ => n
  | _ => 0
def dtOf : List CT → Txt
  | _ :: _ :: d :: _ => d.str
  | _ => []
def fileE (c : List CT) : Int := if nameB (nmOf c) = false then 13 else if rvOf c < 1 ∨ 1073741824 < rvOf c then 2 else if 1048576 < (dtOf c).length then 3 else 0
def Bef (c d : List CT) : Prop := nmOf c < nmOf d ∨ (nmOf c = nmOf d ∧ rvOf c < rvOf d)
def befB (c d : List CT) : Bool := decide (nmOf c < nmOf d) || (decide (nmOf c = nmOf d) && decide (rvOf c < rvOf d))
theorem befB_iff {c d : List CT} : befB c d = true ↔ Bef c d := by simp [befB, Bef]
theorem befB_false {c d : List CT} : befB c d = false ↔ ¬ Bef c d := by rw [← befB_iff]; simp
theorem Bef.trans {a b c : List CT} (h : Bef a b) (k : Bef b c) : Bef a c := by
  rcases h with h | ⟨h1, h2⟩ <;> rcases k with k | ⟨k1, k2⟩
  · exact .inl (txt_trans h k)
  · exact .inl (k1 ▸ h)
  · exact .inl (h1 ▸ k)
  · exact .inr ⟨h1.trans k1, by omega⟩
theorem Bef.irrefl (a : List CT) : ¬ Bef a a := by
  rintro (h | ⟨_, h⟩)
  · exact txt_irrefl _ h
  · omega
theorem Bef.tri (a b : List CT) : Bef a b ∨ Bef b a ∨ (nmOf a = nmOf b ∧ rvOf a = rvOf b) := by
  by_cases h1 : nmOf a < nmOf b
  · exact .inl (.inl h1)
  · by_cases h2 : nmOf a = nmOf b
    · rcases Int.lt_trichotomy (rvOf a) (rvOf b) with h | h | h
      · exact .inl (.inr ⟨h2, h⟩)
      · exact .inr (.inr ⟨h2, h⟩)
      · exact .inr (.inl (.inr ⟨h2.symm, h⟩))
    · exact .inr (.inl (.inl (txt_lt_of h1 h2)))
/-- the error of the k-th file of a library -/
def libErr (l : List (List CT)) (k : Nat) : Int :=
  match l[k]? with
  | none => 0
  | some c => if fileE c ≠ 0 then fileE c else match (if k = 0 then none else l[k - 1]?) with
    | none => 0
    | some b => if befB b c = true then 0 else 24
def libE (l : List (List CT)) : Int := if 256 < l.length then 3 else firstE (libErr l) l.length
theorem libE_big {l : List (List CT)} (h : 256 < l.length) : libE l = 3 := by rw [libE, if_pos h]
theorem libE_at {l : List (List CT)} {k : Nat} {e : Int} (h : l.length ≤ 256) (hk : k < l.length) (hb : ∀ j, j < k → libErr l j = 0) (he : libErr l k = e) (h0 : e ≠ 0) : libE l = e := by
  rw [libE, if_neg (by omega), firstE_found hk (by rw [he]; exact h0) hb, he]
theorem libE_ok {l : List (List CT)} (h : l.length ≤ 256) (hb : ∀ j, j < l.length → libErr l j = 0) : libE l = 0 := by
  rw [libE, if_neg (by omega), firstE_none hb]
theorem libErr_file {l : List (List CT)} {k : Nat} {c : List CT} (hc : l[k]? = some c) (h : fileE c ≠ 0) : libErr l k = fileE c := by
  simp only [libErr, hc, if_pos h]
theorem libErr_zero {l : List (List CT)} {c : List CT} (hc : l[0]? = some c) (h : fileE c = 0) : libErr l 0 = 0 := by
  simp only [libErr, hc, h, ne_eq, not_true_eq_false, if_false, if_true]
theorem libErr_next {l : List (List CT)} {k : Nat} {b c : List CT} (hb : l[k]? = some b) (hc : l[k + 1]? = some c) (h : fileE c = 0) : libErr l (k + 1) = if befB b c = true then 0 else 24 := by
  simp only [libErr, hc, h, ne_eq, not_true_eq_false, if_false, Nat.add_sub_cancel, hb, Nat.add_eq_zero_iff, Nat.one_ne_zero, and_false]
theorem libErr_file0 {l : List (List CT)} {k : Nat} {c : List CT} (hc : l[k]? = some c) (h : libErr l k = 0) : fileE c = 0 := by
  by_cases e : fileE c = 0
  · exact e
  · rw [libErr_file hc e] at h; exact h
theorem pw_of : ∀ {l : List (List CT)}, (∀ k c d, l[k]? = some c → l[k + 1]? = some d → Bef c d) → l.Pairwise Bef
  | [], _ => .nil
  | [x], _ => List.pairwise_singleton ..
  | x :: y :: r, h => by
    have t : (y :: r).Pairwise Bef := pw_of fun k c d a b => h (k + 1) c d a b
    refine List.pairwise_cons.2 ⟨fun z hz => ?_, t⟩
    have hxy := h 0 x y rfl rfl
    rcases List.mem_cons.1 hz with rfl | hz
    · exact hxy
    · exact hxy.trans ((List.pairwise_cons.1 t).1 z hz)
theorem pw_at : ∀ {l : List (List CT)}, l.Pairwise Bef → ∀ k c d, l[k]? = some c → l[k + 1]? = some d → Bef c d
  | [], _, k, c, d, h, _ => by simp at h
  | x :: r, hp, 0, c, d, h, k => by
    simp at h k; subst h
    exact (List.pairwise_cons.1 hp).1 d (List.mem_of_getElem? (i := 0) k)
  | x :: r, hp, k + 1, c, d, h, h' => by
    simp at h h'
    exact pw_at (List.pairwise_cons.1 hp).2 k c d h h'
theorem libE_sorted {l : List (List CT)} (h : libE l = 0) : l.length ≤ 256 ∧ (∀ c ∈ l, fileE c = 0) ∧ l.Pairwise Bef := by
  have h1 : l.length ≤ 256 := by
    rcases Nat.lt_or_ge 256 l.length with h' | h'
    · rw [libE_big h'] at h; cases h
    · exact h'
  rw [libE, if_neg (by omega)] at h
  have hz := firstE_zero h
  have hf : ∀ k c, l[k]? = some c → fileE c = 0 := fun k c hc => libErr_file0 hc (hz k (lt_of_get hc))
  refine ⟨h1, fun c hc => ?_, pw_of fun k c d hc hd => ?_⟩
  · obtain ⟨k, hk⟩ := List.getElem?_of_mem hc
    exact hf k c hk
  · have := hz (k + 1) (lt_of_get hd)
    rw [libErr_next hc hd (hf _ _ hd)] at this
    split at this
    · rename_i e; exact befB_iff.1 e
    · cases this
theorem sorted_libE {l : List (List CT)} (h1 : l.length ≤ 256) (h2 : ∀ c ∈ l, fileE c = 0) (h3 : l.Pairwise Bef) : libE l = 0 := by
  refine libE_ok h1 fun j hj => ?_
  obtain ⟨c, hc⟩ : ∃ c, l[j]? = some c := ⟨_, List.getElem?_eq_getElem hj⟩
  have hf := h2 c (List.mem_of_getElem? hc)
  cases j with
  | zero => exact libErr_zero hc hf
  | succ k =>
    obtain ⟨b, hb⟩ : ∃ b, l[k]? = some b := ⟨_, List.getElem?_eq_getElem (by omega)⟩
    rw [libErr_next hb hc hf, if_pos (befB_iff.2 (pw_at h3 k b c hb hc))]

/-! ### adding a file -/
def dupB (l : List (List CT)) (f : List CT) : Bool := l.any fun c => decide (nmOf c = nmOf f) && decide (rvOf c = rvOf f)
def staB (l : List (List CT)) (f : List CT) : Bool := l.any fun c => decide (nmOf c = nmOf f) && decide (rvOf f < rvOf c)
def addE (l : List (List CT)) (f : List CT) : Int :=
  if libE l ≠ 0 then libE l else if fileE f ≠ 0 then fileE f else if dupB l f = true then 10 else if staB l f = true then 21 else if 256 ≤ l.length then 3 else 0
def addL (l : List (List CT)) (f : List CT) : List (List CT) := l.takeWhile (befB · f) ++ f :: l.dropWhile (befB · f)
def addR (l : List (List CT)) (f : List CT) : List (List CT) := if addE l f = 0 then addL l f else []
theorem addE_zero {l : List (List CT)} {f : List CT} (h : addE l f = 0) : libE l = 0 ∧ fileE f = 0 ∧ dupB l f = false ∧ staB l f = false ∧ l.length < 256 := by
  unfold addE at h
  split at h
  · rename_i e; exact absurd h e
  · rename_i e1
    split at h
    · rename_i e; exact absurd h e
    · rename_i e2
      split at h
      · cases h
      · rename_i e3
        split at h
        · cases h
        · rename_i e4
          split at h
          · cases h
          · rename_i e5
            exact ⟨by simpa using e1, by simpa using e2, by simpa using e3, by simpa using e4, by omega⟩
section
variable {l : List (List CT)} {f : List CT}
theorem addE_lib (h : libE l ≠ 0) : addE l f = libE l := by rw [addE, if_pos h]
theorem addE_file (h1 : libE l = 0) (h : fileE f ≠ 0) : addE l f = fileE f := by rw [addE, if_neg (by simpa using h1), if_pos h]
theorem addE_dup (h1 : libE l = 0) (h2 : fileE f = 0) (h : dupB l f = true) : addE l f = 10 := by rw [addE, if_neg (by simpa using h1), if_neg (by simpa using h2), if_pos h]
theorem addE_sta (h1 : libE l = 0) (h2 : fileE f = 0) (h3 : dupB l f = false) (h : staB l f = true) : addE l f = 21 := by rw [addE, if_neg (by simpa using h1), if_neg (by simpa using h2), if_neg (by simp [h3]), if_pos h]
theorem addE_lim (h1 : libE l = 0) (h2 : fileE f = 0) (h3 : dupB l f = false) (h4 : staB l f = false) (h : 256 ≤ l.length) : addE l f = 3 := by rw [addE, if_neg (by simpa using h1), if_neg (by simpa using h2), if_neg (by simp [h3]), if_neg (by simp [h4]), if_pos h]
theorem addE_ok (h1 : libE l = 0) (h2 : fileE f = 0) (h3 : dupB l f = false) (h4 : staB l f = false) (h : l.length < 256) : addE l f = 0 := by rw [addE, if_neg (by simpa using h1), if_neg (by simpa using h2), if_neg (by simp [h3]), if_neg (by simp [h4]), if_neg (by omega)]
theorem addR_err (h : addE l f ≠ 0) : addR l f = [] := by rw [addR, if_neg h]
theorem addR_ok (h : addE l f = 0) : addR l f = addL l f := by rw [addR, if_pos h]
theorem dupB_found {k : Nat} {c : List CT} (hc : l[k]? = some c) (h1 : nmOf c = nmOf f) (h2 : rvOf c = rvOf f) : dupB l f = true := by
  rw [dupB, List.any_eq_true]; exact ⟨c, List.mem_of_getElem? hc, by simp [h1, h2]⟩
theorem dupB_none (h : ∀ j c, j < l.length → l[j]? = some c → ¬ (nmOf c = nmOf f ∧ rvOf c = rvOf f)) : dupB l f = false := by
  rw [dupB, List.any_eq_false]
  intro c hc
  obtain ⟨j, hj⟩ := List.getElem?_of_mem hc
  have := h j c (lt_of_get hj) hj
  simpa using this
theorem dupB_no (h : dupB l f = false) : ∀ c ∈ l, ¬ (nmOf c = nmOf f ∧ rvOf c = rvOf f) := by
  intro c hc
  rw [dupB, List.any_eq_false] at h
  have := h c hc
  simpa using this
theorem staB_found {k : Nat} {c : List CT} (hc : l[k]? = some c) (h1 : nmOf c = nmOf f) (h2 : rvOf f < rvOf c) : staB l f = true := by
  rw [staB, List.any_eq_true]; exact ⟨c, List.mem_of_getElem? hc, by simp [h1, h2]⟩
theorem staB_none (h : ∀ j c, j < l.length → l[j]? = some c → ¬ (nmOf c = nmOf f ∧ rvOf f < rvOf c)) : staB l f = false := by
  rw [staB, List.any_eq_false]
  intro c hc
  obtain ⟨j, hj⟩ := List.getElem?_of_mem hc
  have := h j c (lt_of_get hj) hj
  simpa using this
theorem staB_no (h : staB l f = false) : ∀ c ∈ l, ¬ (nmOf c = nmOf f ∧ rvOf f < rvOf c) := by
  intro c hc
  rw [staB, List.any_eq_false] at h
  have := h c hc
  simpa using this
end
/-- what stands behind the first that is not before f is not before f -/
theorem drop_not : ∀ {l : List (List CT)} {f : List CT}, l.Pairwise Bef → ∀ c ∈ l.dropWhile (befB · f), ¬ Bef c f
  | [], _, _, c, h => by simp at h
  | x :: r, f, hp, c, h => by
    rw [List.dropWhile_cons] at h
    split at h
    · exact drop_not (List.pairwise_cons.1 hp).2 c h
    · rename_i hx
      have hx' : ¬ Bef x f := befB_false.1 (by simpa using hx)
      rcases List.mem_cons.1 h with rfl | h
      · exact hx'
      · exact fun k => hx' (((List.pairwise_cons.1 hp).1 c h).trans k)
theorem take_bef : ∀ {l : List (List CT)} {f : List CT}, ∀ c ∈ l.takeWhile (befB · f), Bef c f
  | [], _, c, h => by simp at h
  | x :: r, f, c, h => by
    rw [List.takeWhile_cons] at h
    split at h
    · rename_i hx
      rcases List.mem_cons.1 h with rfl | h
      · exact befB_iff.1 hx
      · exact take_bef c h
    · simp at h
/-- the place is found by going on while the files are before -/
theorem addL_place {l : List (List CT)} {f : List CT} {p : Nat} (hp : p ≤ l.length) (h : ∀ j c, j < p → l[j]? = some c → befB c f = true) (hl : p = l.length ∨ ∃ c, l[p]? = some c ∧ befB c f = false) : addL l f = l.take p ++ f :: l.drop p := by
  have key : ∀ (l : List (List CT)) (p : Nat), p ≤ l.length → (∀ j c, j < p → l[j]? = some c → befB c f = true) → (p = l.length ∨ ∃ c, l[p]? = some c ∧ befB c f = false) → l.takeWhile (befB · f) = l.take p ∧ l.dropWhile (befB · f) = l.drop p := by
    intro l
    induction l with
    | nil => intro p hp _ _; simp
    | cons x r ih =>
      intro p hp h hl
      cases p with
      | zero =>
        rcases hl with hl | ⟨c, hc, hb⟩
        · simp at hl
        · simp at hc; subst hc
          simp [List.takeWhile_cons, List.dropWhile_cons, hb]
      | succ p =>
        have hx := h 0 x (by omega) rfl
        have := ih p (by simpa using hp) (fun j c hj hc => h (j + 1) c (by omega) (by simpa using hc)) (by
          rcases hl with hl | ⟨c, hc, hb⟩
          · exact .inl (by simpa using hl)
          · exact .inr ⟨c, by simpa using hc, hb⟩)
        simp [List.takeWhile_cons, List.dropWhile_cons, hx, this.1, this.2]
  obtain ⟨h1, h2⟩ := key l p hp h hl
  rw [addL, h1, h2]
/-- the files before, the file, the files behind -/
theorem addL_filter {l : List (List CT)} {f : List CT} (hs : l.Pairwise Bef) (hd : dupB l f = false) : l.filter (befB · f) ++ f :: l.filter (befB f ·) = addL l f := by
  have key : ∀ (l : List (List CT)), l.Pairwise Bef → (∀ c ∈ l, ¬ (nmOf c = nmOf f ∧ rvOf c = rvOf f)) → l.filter (befB · f) = l.takeWhile (befB · f) ∧ l.filter (befB f ·) = l.dropWhile (befB · f) := by
    intro l
    induction l with
    | nil => intro _ _; simp
    | cons x r ih =>
      intro hs hd
      have hs' := List.pairwise_cons.1 hs
      obtain ⟨i1, i2⟩ := ih hs'.2 (fun c hc => hd c (List.mem_cons_of_mem _ hc))
      rcases Bef.tri x f with h | h | h
      · have h1 : befB x f = true := befB_iff.2 h
        have h2 : befB f x = false := befB_false.2 fun k => Bef.irrefl _ (h.trans k)
        simp [List.filter_cons, List.takeWhile_cons, List.dropWhile_cons, h1, h2, i1, i2]
      · have h2 : befB f x = true := befB_iff.2 h
        have h1 : befB x f = false := befB_false.2 fun k => Bef.irrefl _ (h.trans k)
        have n1 : ∀ c ∈ r, befB f c = true := fun c hc => befB_iff.2 (h.trans (hs'.1 c hc))
        have n2 : ∀ c ∈ r, befB c f = false := fun c hc => befB_false.2 fun k => Bef.irrefl _ ((h.trans (hs'.1 c hc)).trans k)
        have e1 : r.filter (befB · f) = [] := List.filter_eq_nil_iff.2 fun c hc => by simp [n2 c hc]
        have e2 : r.filter (befB f ·) = r := List.filter_eq_self.2 n1
        simp [List.filter_cons, List.takeWhile_cons, List.dropWhile_cons, h1, h2, e1, e2]
      · exact absurd h (hd x (List.mem_cons_self ..))
  obtain ⟨h1, h2⟩ := key l hs (dupB_no hd)
  rw [addL, h1, h2]
theorem addL_parts (l : List (List CT)) (f : List CT) : l.takeWhile (befB · f) ++ l.dropWhile (befB · f) = l := List.takeWhile_append_dropWhile
theorem addL_len (l : List (List CT)) (f : List CT) : (addL l f).length = l.length + 1 := by
  have := congrArg List.length (addL_parts l f)
  simp only [addL, List.length_append, List.length_cons] at this ⊢
  omega
theorem addL_mem {l : List (List CT)} {f c : List CT} : c ∈ addL l f ↔ c = f ∨ c ∈ l := by
  have h := addL_parts l f
  have : c ∈ l ↔ c ∈ l.takeWhile (befB · f) ∨ c ∈ l.dropWhile (befB · f) := by rw [← List.mem_append, h]
  rw [this]
  simp only [addL, List.mem_append, List.mem_cons]
  constructor
  · rintro (h | h | h)
    · exact .inr (.inl h)
    · exact .inl h
    · exact .inr (.inr h)
  · rintro (h | h | h)
    · exact .inr (.inl h)
    · exact .inl h
    · exact .inr (.inr h)
theorem addL_sorted {l : List (List CT)} {f : List CT} (hs : l.Pairwise Bef) (hd : dupB l f = false) : (addL l f).Pairwise Bef := by
  have h := addL_parts l f
  have hs' := hs
  rw [← h, List.pairwise_append] at hs'
  have hb : ∀ c ∈ l.dropWhile (befB · f), Bef f c := fun c hc => by
    have h1 := drop_not hs c hc
    have h2 := dupB_no hd c (by rw [← h]; exact List.mem_append_right _ hc)
    rcases Bef.tri c f with k | k | k
    · exact absurd k h1
    · exact k
    · exact absurd k h2
  rw [addL, List.pairwise_append]
  refine ⟨hs'.1, List.pairwise_cons.2 ⟨hb, hs'.2.1⟩, fun a ha b hb' => ?_⟩
  have h1 := take_bef a ha
  rcases List.mem_cons.1 hb' with rfl | hb'
  · exact h1
  · exact h1.trans (hb b hb')
/-- a library to which a file is added is valid -/
theorem addL_libE {l : List (List CT)} {f : List CT} (h : addE l f = 0) : libE (addL l f) = 0 := by
  obtain ⟨h1, h2, h3, h4, h5⟩ := addE_zero h
  obtain ⟨_, q2, q3⟩ := libE_sorted h1
  refine sorted_libE (by rw [addL_len]; omega) (fun c hc => ?_) (addL_sorted q3 h3)
  rcases addL_mem.1 hc with rfl | hc
  · exact h2
  · exact q2 c hc

/-! ### the latest file -/
def latS (p : List CT → Bool) (b : Option (List CT)) (c : List CT) : Option (List CT) :=
  match b with
  | none => if p c = true then some c else none
  | some d => if p c = true ∧ rvOf d < rvOf c then some c else some d
def lat (p : List CT → Bool) (l : List (List CT)) : Option (List CT) := l.foldl (latS p) none
theorem lat_snoc (p : List CT → Bool) (l : List (List CT)) (c : List CT) : lat p (l ++ [c]) = latS p (lat p l) c := by simp [lat, List.foldl_append]
theorem lat_step {p : List CT → Bool} {l : List (List CT)} {k : Nat} {c : List CT} (h : l[k]? = some c) : lat p (l.take (k + 1)) = latS p (lat p (l.take k)) c := by rw [take_snoc' h, lat_snoc]
theorem lat_mem {p : List CT → Bool} : ∀ {l : List (List CT)} {d : List CT}, lat p l = some d → d ∈ l ∧ p d = true ∧ ∀ c ∈ l, p c = true → rvOf c ≤ rvOf d := by
  have key : ∀ (l : List (List CT)) (b : Option (List CT)) (d : List CT), l.foldl (latS p) b = some d → (b = some d ∨ d ∈ l ∧ p d = true) ∧ (∀ c ∈ l, p c = true → rvOf c ≤ rvOf d) ∧ (∀ e, b = some e → rvOf e ≤ rvOf d) := by
    intro l
    induction l with
    | nil => intro b d h; simp at h; exact ⟨.inl h, by simp, fun e he => by rw [h] at he; cases he; exact Int.le_refl _⟩
    | cons x r ih =>
      intro b d h
      simp only [List.foldl_cons] at h
      obtain ⟨h1, h2, h3⟩ := ih _ _ h
      cases b with
      | none =>
        simp only [latS] at h1 h3
        split at h1
        · rename_i hx
          rw [if_pos hx] at h3
          refine ⟨.inr ?_, fun c hc hp => ?_, fun e he => by cases he⟩
          · rcases h1 with h1 | h1
            · cases h1; exact ⟨List.mem_cons_self .., hx⟩
            · exact ⟨List.mem_cons_of_mem _ h1.1, h1.2⟩
          · rcases List.mem_cons.1 hc with rfl | hc
            · exact h3 _ rfl
            · exact h2 c hc hp
        · rename_i hx
          refine ⟨.inr ?_, fun c hc hp => ?_, fun e he => by cases he⟩
          · rcases h1 with h1 | h1
            · cases h1
            · exact ⟨List.mem_cons_of_mem _ h1.1, h1.2⟩
          · rcases List.mem_cons.1 hc with rfl | hc
            · exact absurd hp hx
            · exact h2 c hc hp
      | some e =>
        simp only [latS] at h1 h3
        split at h1
        · rename_i hx
          rw [if_pos hx] at h3
          have hxd := h3 _ rfl
          refine ⟨.inr ?_, fun c hc hp => ?_, fun e' he => by cases he; omega⟩
          · rcases h1 with h1 | h1
            · cases h1; exact ⟨List.mem_cons_self .., hx.1⟩
            · exact ⟨List.mem_cons_of_mem _ h1.1, h1.2⟩
          · rcases List.mem_cons.1 hc with rfl | hc
            · exact hxd
            · exact h2 c hc hp
        · rename_i hx
          rw [if_neg hx] at h3
          have hed := h3 _ rfl
          refine ⟨?_, fun c hc hp => ?_, fun e' he => by cases he; exact hed⟩
          · rcases h1 with h1 | h1
            · exact .inl h1
            · exact .inr ⟨List.mem_cons_of_mem _ h1.1, h1.2⟩
          · rcases List.mem_cons.1 hc with rfl | hc
            · by_cases hr : rvOf e < rvOf c
              · exact absurd ⟨hp, hr⟩ hx
              · omega
            · exact h2 c hc hp
  intro l d h
  obtain ⟨h1, h2, _⟩ := key l none d h
  rcases h1 with h1 | h1
  · cases h1
  · exact ⟨h1.1, h1.2, h2⟩
theorem lat_none {p : List CT → Bool} {l : List (List CT)} (h : lat p l = none) : ∀ c ∈ l, p c = false := by
  have key : ∀ (l : List (List CT)) (b : Option (List CT)), l.foldl (latS p) b = none → b = none ∧ ∀ c ∈ l, p c = false := by
    intro l
    induction l with
    | nil => intro b h; simp at h; exact ⟨h, by simp⟩
    | cons x r ih =>
      intro b h
      simp only [List.foldl_cons] at h
      obtain ⟨h1, h2⟩ := ih _ h
      cases b with
      | none =>
        simp only [latS] at h1
        split at h1
        · cases h1
        · rename_i hx
          exact ⟨rfl, fun c hc => by rcases List.mem_cons.1 hc with rfl | hc; (· simpa using hx); (· exact h2 c hc)⟩
      | some e =>
        simp only [latS] at h1
        split at h1 <;> cases h1
  exact (key l none h).2
theorem lat_all_false {p : List CT → Bool} {l : List (List CT)} (h : ∀ c ∈ l, p c = false) : lat p l = none := by
  cases e : lat p l with
  | none => rfl
  | some d => have := lat_mem e; rw [h d this.1] at this; cases this.2.1
theorem lat_congr {p q : List CT → Bool} {l : List (List CT)} (h : ∀ c ∈ l, p c = q c) : lat p l = lat q l := by
  have key : ∀ (l : List (List CT)) (b : Option (List CT)), (∀ c ∈ l, p c = q c) → l.foldl (latS p) b = l.foldl (latS q) b := by
    intro l
    induction l with
    | nil => intro b _; rfl
    | cons x r ih =>
      intro b h
      simp only [List.foldl_cons]
      have : latS p b x = latS q b x := by cases b <;> simp only [latS, h x (List.mem_cons_self ..)]
      rw [this, ih _ fun c hc => h c (List.mem_cons_of_mem _ hc)]
  exact key l none h
/-- a suitable file that is later than all before and not earlier than any behind -/
theorem lat_mid {p : List CT → Bool} {a b : List (List CT)} {f : List CT} (hf : p f = true) (ha : ∀ c ∈ a, p c = true → rvOf c < rvOf f) (hb : ∀ c ∈ b, p c = true → rvOf c ≤ rvOf f) : lat p (a ++ f :: b) = some f := by
  have h1 : latS p (lat p a) f = some f := by
    cases e : lat p a with
    | none => simp only [latS, if_pos hf]
    | some d =>
      obtain ⟨q1, q2, _⟩ := lat_mem e
      simp only [latS, if_pos (⟨hf, ha d q1 q2⟩ : p f = true ∧ rvOf d < rvOf f)]
  have h2 : ∀ (b : List (List CT)), (∀ c ∈ b, p c = true → rvOf c ≤ rvOf f) → b.foldl (latS p) (some f) = some f := by
    intro b
    induction b with
    | nil => intro _; rfl
    | cons x r ih =>
      intro hb
      have : latS p (some f) x = some f := by
        simp only [latS]
        rw [if_neg]
        rintro ⟨k1, k2⟩
        have := hb x (List.mem_cons_self ..) k1
        omega
      rw [List.foldl_cons, this]
      exact ih fun c hc => hb c (List.mem_cons_of_mem _ hc)
  unfold lat at h1 ⊢
  rw [List.foldl_append, List.foldl_cons, h1]
  exact h2 b hb
theorem lat_skip {p : List CT → Bool} {a b : List (List CT)} {f : List CT} (hf : p f = false) : lat p (a ++ f :: b) = lat p (a ++ b) := by
  have : ∀ s, latS p s f = s := fun s => by cases s <;> simp [latS, hf]
  simp only [lat, List.foldl_append, List.foldl_cons, this]
def nmP (q : Txt) (c : List CT) : Bool := decide (nmOf c = q)
theorem sta_lat {l : List (List CT)} {f : List CT} : staB l f = match lat (nmP (nmOf f)) l with | none => false | some d => decide (rvOf f < rvOf d) := by
  cases e : lat (nmP (nmOf f)) l with
  | none =>
    have := lat_none e
    exact staB_none fun j c _ hc h => by
      have := this c (List.mem_of_getElem? hc)
      simp [nmP, h.1] at this
  | some d =>
    obtain ⟨h1, h2, h3⟩ := lat_mem e
    by_cases hr : rvOf f < rvOf d
    · simp only [decide_eq_true hr]
      obtain ⟨k, hk⟩ := List.getElem?_of_mem h1
      exact staB_found hk (by simpa [nmP] using h2) hr
    · simp only [decide_eq_false hr]
      refine staB_none fun j c _ hc h => ?_
      have := h3 c (List.mem_of_getElem? hc) (by simp [nmP, h.1])
      omega
theorem add_latest {l : List (List CT)} {f : List CT} (h : addE l f = 0) : lat (nmP (nmOf f)) (addL l f) = some f := by
  obtain ⟨h1, h2, h3, h4, h5⟩ := addE_zero h
  have hle : ∀ c ∈ l, nmP (nmOf f) c = true → rvOf c < rvOf f := fun c hc hp => by
    have q1 := dupB_no h3 c hc
    have q2 := staB_no h4 c hc
    have e : nmOf c = nmOf f := by simpa [nmP] using hp
    have : ¬ rvOf c = rvOf f := fun k => q1 ⟨e, k⟩
    have : ¬ rvOf f < rvOf c := fun k => q2 ⟨e, k⟩
    omega
  have hp := addL_parts l f
  refine lat_mid (by simp [nmP]) (fun c hc => hle c (by rw [← hp]; exact List.mem_append_left _ hc)) fun c hc k => ?_
  have := hle c (by rw [← hp]; exact List.mem_append_right _ hc) k
  omega
theorem add_other {l : List (List CT)} {f : List CT} {q : Txt} (h : q ≠ nmOf f) : lat (nmP q) (addL l f) = lat (nmP q) l := by
  rw [addL, lat_skip (by simp [nmP]; exact fun e => h e.symm), addL_parts]

/-! ### what a link wants -/
def wantP (rule : Int) (q : Txt) (r : Int) (c : List CT) : Bool := decide (nmOf c = q) && (decide (rule = 1) || (decide (rule = 2) && decide (rvOf c / 100 = r / 100)))
def wantS (r : Int) : Option (List CT) → Int × Bool
  | none => (0, false)
  | some d => if rvOf d ≤ r then (0, false) else (rvOf d, true)
def want (rule : Int) (q : Txt) (r : Int) (l : List (List CT)) : Int × Bool := wantS r (lat (wantP rule q r) l)
/-- the greatest revision so far, and whether it is new -/
def wantR (r : Int) : Option (List CT) → Int × Bool
  | none => (r, false)
  | some d => if rvOf d ≤ r then (r, false) else (rvOf d, true)
theorem wantR_fst (r : Int) (o : Option (List CT)) : r ≤ (wantR r o).1 := by
  cases o with
  | none => exact Int.le_refl _
  | some d => simp only [wantR]; split <;> simp <;> omega
theorem wantR_take {r : Int} {p : List CT → Bool} {o : Option (List CT)} {c : List CT} (hp : p c = true) (h : (wantR r o).1 < rvOf c) : wantR r (latS p o c) = (rvOf c, true) := by
  cases o with
  | none =>
    simp only [wantR] at h
    simp only [latS, if_pos hp, wantR]
    rw [if_neg (by omega)]
  | some d =>
    simp only [wantR] at h
    split at h
    · rename_i h1
      have h' : r < rvOf c := h
      simp only [latS]
      rw [if_pos ⟨hp, by omega⟩]
      simp only [wantR]; rw [if_neg (by omega)]
    · have h' : rvOf d < rvOf c := h
      simp only [latS]
      rw [if_pos ⟨hp, h'⟩]
      simp only [wantR]; rw [if_neg (by omega)]
theorem wantR_leave {r : Int} {p : List CT → Bool} {o : Option (List CT)} {c : List CT} (h : p c = false ∨ rvOf c ≤ (wantR r o).1) : wantR r (latS p o c) = wantR r o := by
  cases o with
  | none =>
    simp only [latS]
    split
    · rename_i hp
      rcases h with h | h
      · rw [hp] at h; cases h
      · have h' : rvOf c ≤ r := h
        simp only [wantR]; rw [if_pos h']
    · rfl
  | some d =>
    simp only [latS]
    split
    · rename_i hp
      rcases h with h | h
      · rw [hp.1] at h; cases h
      · simp only [wantR] at h ⊢
        split at h
        · rename_i h1
          have h' : rvOf c ≤ r := h
          rw [if_pos h', if_pos h1]
        · have h' : rvOf c ≤ rvOf d := h
          omega
    · rfl
theorem wantS_of_R {r : Int} (o : Option (List CT)) : wantS r o = if (wantR r o).2 = true then ((wantR r o).1, true) else (0, false) := by
  cases o with
  | none => simp [wantS, wantR]
  | some d =>
    by_cases h : rvOf d ≤ r
    · simp [wantS, wantR, h]
    · simp [wantS, wantR, h]
theorem want_latest (q : Txt) (r : Int) (l : List (List CT)) : lat (wantP 1 q r) l = lat (nmP q) l := lat_congr fun c _ => by simp [wantP, nmP]
theorem want_other {rule : Int} (h1 : rule ≠ 1) (h2 : rule ≠ 2) (q : Txt) (r : Int) (l : List (List CT)) : want rule q r l = (0, false) := by
  rw [want, lat_all_false fun c _ => by simp [wantP, h1, h2]]; rfl
theorem want_yes {rule : Int} {q : Txt} {r n : Int} {l : List (List CT)} (h : want rule q r l = (n, true)) : (∃ c ∈ l, nmOf c = q ∧ rvOf c = n) ∧ r < n ∧ (rule = 1 ∨ rule = 2) ∧ (rule = 2 → n / 100 = r / 100) ∧ want rule q n l = (0, false) := by
  unfold want at h
  cases e : lat (wantP rule q r) l with
  | none => rw [e] at h; simp [wantS] at h
  | some d =>
    rw [e] at h
    simp only [wantS] at h
    split at h
    · simp at h
    · rename_i hr
      simp only [Prod.mk.injEq, and_true] at h
      subst h
      obtain ⟨h1, h2, h3⟩ := lat_mem e
      simp only [wantP, Bool.and_eq_true, Bool.or_eq_true, decide_eq_true_eq] at h2
      obtain ⟨h2a, h2b⟩ := h2
      have hrule : rule = 1 ∨ rule = 2 := by rcases h2b with h | h; (· exact .inl h); (· exact .inr h.1)
      have hm : rule = 2 → rvOf d / 100 = r / 100 := fun k => by
        rcases h2b with h | h
        · omega
        · exact h.2
      refine ⟨⟨d, h1, h2a, rfl⟩, by omega, hrule, hm, ?_⟩
      have : lat (wantP rule q (rvOf d)) l = lat (wantP rule q r) l := lat_congr fun c _ => by
        rcases hrule with k | k
        · simp [wantP, k]
        · simp [wantP, k, hm k]
      rw [want, this, e]
      simp [wantS]
theorem want_no {rule : Int} {q : Txt} {r : Int} {l : List (List CT)} (h : (want rule q r l).2 = false) : (want rule q r l).1 = 0 := by
  unfold want at h ⊢
  cases e : lat (wantP rule q r) l with
  | none => rfl
  | some d =>
    rw [e] at h
    simp only [wantS] at h ⊢
    split
    · rfl
    · rename_i hr; rw [if_neg hr] at h; cases h
end Go.Proofs.YthnplnlhibalcaaGreatDoor
