/-
  The abstract machine, part 24: what an argument that reads holds.
-/
import Derived.Test.YtpfgpjopjadmiaaGreatDoorAM23
import GoSem.ClaimJoined
set_option linter.unusedVariables false
set_option linter.unusedSimpArgs false
noncomputable section
namespace Go.AM
open Go.RowKit

/-- the kinds of a struct's cells -/
def kdsFs (P : Program) (f : TypeId → Option (List Kd)) : List Field → Nat → Option (List Kd)
  | [], _ => some []
  | fd :: fs, off =>
    match f fd.type, kdsFs P f fs (off + P.cellsOf fd.type) with
    | some ks, some r => bif Nat.beq fd.offset off && Nat.beq ks.length (P.cellsOf fd.type) then some (ks ++ r) else none
    | _, _ => none

/-- the kinds of a type's cells -/
def kdsT (P : Program) : Nat → TypeId → Option (List Kd)
  | 0, _ => none
  | n + 1, t =>
    match P.underlying t with
    | some (.int k) => some [.int k]
    | some .bool => some [.bool]
    | some .string => some [.str]
    | some (.slice e) => (match kdsT P n e with
      | some ks => bif Nat.beq ks.length (P.cellsOf e) && Nat.ble 1 (P.bytesOf e) then some [.row (P.bytesOf e) ks] else none
      | none => none)
    | some (.struct fs) => (match kdsFs P (kdsT P n) fs.toList 0 with
      | some ks => bif Nat.beq ks.length (P.cellsOf t) then some ks else none
      | none => none)
    | some (.array m e) => (match kdsT P n e with
      | some ks => bif Nat.beq ks.length (P.cellsOf e) && Nat.beq (m * ks.length) (P.cellsOf t) then some (List.replicate m ks).flatten else none
      | none => none)
    | _ => none

theorem list_choose {α : Type} {Q : Nat → α → Prop} : ∀ n, (∀ i, i < n → ∃ c, Q i c) → ∃ l : List α, l.length = n ∧ ∀ (i : Nat) c, l[i]? = some c → Q i c := by
  intro n
  induction n with
  | zero => intro _; exact ⟨[], rfl, fun i c h => by simp at h⟩
  | succ n ih =>
    intro h
    obtain ⟨l, h1, h2⟩ := ih fun i hi => h i (by omega)
    obtain ⟨c, hc⟩ := h n (by omega)
    refine ⟨l ++ [c], by simp [h1], fun i d hd => ?_⟩
    by_cases hi : i < n
    · rw [List.getElem?_append_left (by omega)] at hd; exact h2 i d hd
    · rw [List.getElem?_append_right (by omega)] at hd
      have h0 : i - l.length = 0 := by have := lt_of_getElem? hd; simp at this; omega
      rw [h0] at hd; simp at hd; subst hd
      rw [show i = n by omega]; exact hc

theorem mapM_at {α β : Type} {f : α → Option β} : ∀ {l : List α} {r : List β}, l.mapM f = some r → r.length = l.length ∧ ∀ (i : Nat) x, l[i]? = some x → ∃ y, r[i]? = some y ∧ f x = some y := by
  intro l
  induction l with
  | nil => intro r h; simp at h; subst h; exact ⟨rfl, fun i x h => by simp at h⟩
  | cons a l ih =>
    intro r h
    simp only [List.mapM_cons, Option.bind_eq_bind, Option.pure_def] at h
    cases ha : f a with
    | none => rw [ha] at h; simp at h
    | some y =>
      cases hl : l.mapM f with
      | none => rw [ha, hl] at h; simp at h
      | some r' =>
        rw [ha, hl] at h; simp at h; subst h
        obtain ⟨h1, h2⟩ := ih hl
        refine ⟨by simp [h1], fun i x hx => ?_⟩
        cases i with
        | zero => simp at hx; subst hx; exact ⟨y, rfl, ha⟩
        | succ i => exact h2 i x (by simpa using hx)

theorem extL_app (a b : List Value) : extL (a ++ b) = extL a ++ extL b := by
  induction a with
  | nil => simp [extL]
  | cons x a ih => simp [extL, ih]

section
variable {T : Type} {enc : TypeId × Value → T} {P : Program} {W : World}

theorem weightsAll_mem {e : TypeId} : ∀ {l : List (DataW T)} {d : DataW T}, d ∈ l → ∀ w ∈ d.weights P e, w ∈ DataW.weightsAll P e l := by
  intro l
  induction l with
  | nil => intro d h; cases h
  | cons a l ih =>
    intro d h w hw
    simp only [DataW.weightsAll, List.mem_append]
    rcases List.mem_cons.1 h with rfl | h
    · exact .inl hw
    · exact .inr (ih h w hw)

/-- what can be read holds its type's kinds -/
def Holds (enc : TypeId × Value → T) (P : Program) (W : World) (f : TypeId → Option (List Kd)) : Prop := ∀ (t : TypeId) (ks : List Kd) (fuel : Nat) (cs : List Value) (x : DataW T × List MemPlace), f t = some ks → DataW.trod enc P W 0 (fun _ => true) true fuel t cs = some x → (∀ w ∈ x.1.weights P t, w ≤ reachBytes) → ∃ c, CellsA (fun _ => False) (start W) ks (extL cs) c

theorem fields_cells {f : TypeId → Option (List Kd)} (IH : Holds enc P W f) {fuel : Nat} {cs : List Value} : ∀ (fs : List Field) (off : Nat) (ks : List Kd) (r : List (DataW T × List MemPlace)), kdsFs P f fs off = some ks →
    (fs.mapM fun f => DataW.trod enc P W 0 (fun _ => true) true fuel f.type ((cs.drop f.offset).take (P.cellsOf f.type))) = some r → (∀ w ∈ DataW.weightsEach P (fs.map (·.type)) (r.map (·.1)), w ≤ reachBytes) →
    ∃ c, CellsA (fun _ => False) (start W) ks (extL ((cs.drop off).take ks.length)) c := by
  intro fs
  induction fs with
  | nil => intro off ks r hk _ _; simp only [kdsFs] at hk; cases hk; exact ⟨[], by simp [extL, CellsA]⟩
  | cons fd fs ih =>
    intro off ks r hk hm hw
    simp only [kdsFs] at hk
    split at hk
    · rename_i k1 k2 e1 e2
      cases hb : (Nat.beq fd.offset off && Nat.beq k1.length (P.cellsOf fd.type)) with
      | false => rw [hb] at hk; cases hk
      | true =>
        rw [hb, cond_true] at hk
        cases hk
        obtain ⟨b1, b2⟩ := Bool.and_eq_true_iff.1 hb
        have b1 := Nat.eq_of_beq_eq_true b1
        have b2 := Nat.eq_of_beq_eq_true b2
        simp only [List.mapM_cons, Option.bind_eq_bind, Option.pure_def] at hm
        cases h1 : DataW.trod enc P W 0 (fun _ => true) true fuel fd.type ((cs.drop fd.offset).take (P.cellsOf fd.type)) with
        | none => rw [h1] at hm; simp at hm
        | some y =>
          cases h2 : (fs.mapM fun f => DataW.trod enc P W 0 (fun _ => true) true fuel f.type ((cs.drop f.offset).take (P.cellsOf f.type))) with
          | none => rw [h1, h2] at hm; simp at hm
          | some r' =>
            rw [h1, h2] at hm
            simp at hm
            subst hm
            simp only [List.map_cons, DataW.weightsEach, List.mem_append] at hw
            obtain ⟨c1, hc1⟩ := IH _ _ _ _ _ e1 h1 fun w h => hw w (.inl h)
            obtain ⟨c2, hc2⟩ := ih _ _ _ e2 h2 fun w h => hw w (.inr h)
            refine ⟨c1 ++ c2, ?_⟩
            rw [b1, ← b2] at hc1
            rw [← b2, ← List.drop_drop] at hc2
            rw [List.length_append, List.take_add, extL_app]
            exact hc1.append hc2
    · cases hk

theorem parts_cells {f : TypeId → Option (List Kd)} (IH : Holds enc P W f) {fuel e : Nat} {cs : List Value} {ks : List Kd} (he : f e = some ks) (hl : ks.length = P.cellsOf e) {m : Nat} {r : List (DataW T × List MemPlace)}
    (hm : ((List.range m).mapM fun i => DataW.trod enc P W 0 (fun _ => true) true fuel e ((cs.drop (i * P.cellsOf e)).take (P.cellsOf e))) = some r) (hw : ∀ w ∈ DataW.weightsAll P e (r.map (·.1)), w ≤ reachBytes) :
    ∀ j, j ≤ m → ∃ c, CellsA (fun _ => False) (start W) (List.replicate j ks).flatten (extL (cs.take (j * ks.length))) c := by
  obtain ⟨q1, q2⟩ := mapM_at hm
  intro j
  induction j with
  | zero => intro _; exact ⟨[], by simp [extL, CellsA]⟩
  | succ j ih =>
    intro hj
    obtain ⟨c1, h1⟩ := ih (by omega)
    obtain ⟨y, y1, y2⟩ := q2 j j (List.getElem?_range (by omega))
    obtain ⟨c2, h2⟩ := IH _ _ _ _ _ he y2 fun w hw' => hw w (weightsAll_mem (List.mem_map.2 ⟨y, List.mem_of_getElem? y1, rfl⟩) w hw')
    refine ⟨c1 ++ c2, ?_⟩
    rw [← hl] at h2
    rw [List.replicate_succ', List.flatten_append, List.flatten_singleton, Nat.add_mul, Nat.one_mul, List.take_add, extL_app]
    exact h1.append h2

theorem trod_cells : ∀ (n : Nat), Holds enc P W (kdsT P n) := by
  intro n
  induction n with
  | zero => intro t ks fuel cs x hk; simp [kdsT] at hk
  | succ n ih =>
    intro t ks fuel cs x hk h hw
    cases fuel with
    | zero => simp [DataW.trod] at h
    | succ fuel =>
      simp only [kdsT] at hk
      split at hk
      · rename_i k hu
        cases hk
        obtain ⟨m, rfl, hm⟩ := Reads.int hu ⟨_, _, h⟩
        exact ⟨[.v (.int k m)], by simp only [extL, ext, CellsA, CellA]; exact ⟨⟨trivial, m, rfl, hm⟩, trivial⟩⟩
      · rename_i hu
        cases hk
        obtain ⟨m, rfl⟩ := Reads.bool hu ⟨_, _, h⟩
        exact ⟨[.v (.bool m)], by simp only [extL, ext, CellsA, CellA]; exact ⟨⟨trivial, m, rfl⟩, trivial⟩⟩
      · rename_i hu
        cases hk
        obtain ⟨m, rfl, hm⟩ := Reads.string hu ⟨_, _, h⟩
        exact ⟨[.v (.string m)], by simp only [extL, ext, CellsA, CellA]; exact ⟨⟨trivial, m, rfl, hm⟩, trivial⟩⟩
      · rename_i e hu
        split at hk
        · rename_i k1 e1
          cases hb : (Nat.beq k1.length (P.cellsOf e) && Nat.ble 1 (P.bytesOf e)) with
          | false => rw [hb] at hk; cases hk
          | true =>
            rw [hb, cond_true] at hk
            cases hk
            obtain ⟨b1, b2⟩ := Bool.and_eq_true_iff.1 hb
            have b1 := Nat.eq_of_beq_eq_true b1
            have b2 := Nat.le_of_ble_eq_true b2
            unfold DataW.trod at h
            rw [hu] at h
            split at h <;> (try (rename_i h1 _; cases h1; done)) <;> (try (rename_i h1; cases h1; done))
            · exact ⟨[.row []], by simp only [extL, ext, CellsA, CellA]; exact ⟨⟨Nat.zero_le _, by simp, .inl ⟨trivial, trivial⟩⟩, trivial⟩⟩
            · rename_i e' a len cap h1
              cases h1
              split at h
              · rename_i hc
                simp only at h
                cases hm : (List.range len).mapM (fun i => (W.cells? 0 (a.add (i * P.cellsOf e)) (P.cellsOf e)).bind (DataW.trod enc P W 0 (fun _ => true) true fuel e)) with
                | none => rw [hm] at h; cases h
                | some r =>
                  rw [hm, Option.bind_some] at h
                  simp only [if_true] at h
                  cases hr : (List.range (cap - len)).mapM (fun j => (W.cells? 0 (a.add ((len + j) * P.cellsOf e)) (P.cellsOf e)).bind (DataW.trod enc P W 0 (fun _ => true) true fuel e)) with
                  | none => rw [hr] at h; cases h
                  | some r' =>
                    rw [hr, Option.map_some] at h
                    cases h
                    simp only [DataW.weights, hu, List.mem_cons, List.mem_append] at hw
                    obtain ⟨q1, q2⟩ := mapM_at hm
                    rw [List.length_range] at q1
                    have hlen : (r.length + r'.length) * P.bytesOf e ≤ 140737488351232 := by have := hw _ (.inl rfl); simpa [reachBytes] using this
                    have hl1 : len * P.bytesOf e ≤ 140737488351232 := Nat.le_trans (Nat.mul_le_mul_right _ (by omega)) hlen
                    have hl0 : len ≤ 140737488351232 := Nat.le_trans (Nat.le_mul_of_pos_right _ b2) hl1
                    obtain ⟨l, l1, l2⟩ : ∃ l : List (List CT), l.length = len ∧ ∀ (i : Nat) c, l[i]? = some c → ∃ xs, aloads (start W) ((extAddr a).add (i * k1.length)) k1.length = some xs ∧ CellsA (fun _ => False) (start W) k1 xs c := by
                      refine list_choose len fun i hi => ?_
                      obtain ⟨y, y1, y2⟩ := q2 i i (List.getElem?_range hi)
                      cases hcl : W.cells? 0 (a.add (i * P.cellsOf e)) (P.cellsOf e) with
                      | none => rw [hcl] at y2; cases y2
                      | some lc =>
                        rw [hcl, Option.bind_some] at y2
                        obtain ⟨p1, p2⟩ := cells?_read hcl
                        obtain ⟨c, hcc⟩ := ih _ _ _ _ _ e1 y2 fun w hw' => hw w (.inr (.inl (weightsAll_mem (List.mem_map.2 ⟨y, List.mem_of_getElem? y1, rfl⟩) w hw')))
                        refine ⟨c, extL lc, ?_, hcc⟩
                        have h9 := aloads_ext (H := start W) p2
                        rw [p1] at h9
                        rw [b1, extAddr_add]
                        exact h9
                    refine ⟨[.row l], ?_⟩
                    simp only [extL, ext, CellsA, CellA]
                    refine ⟨⟨by omega, by rw [l1]; exact hl1, .inr ⟨extAddr a, cap, by rw [l1], by omega, ⟨.inl (by simp [extAddr]), fun h9 => by simp [extAddr] at h9⟩, l2⟩⟩, trivial⟩
              · cases h
            · cases h
        · cases hk
      · rename_i fs hu
        split at hk
        · rename_i k1 e1
          cases hb : Nat.beq k1.length (P.cellsOf t) with
          | false => rw [hb] at hk; cases hk
          | true =>
            rw [hb, cond_true] at hk
            cases hk
            have b1 := Nat.eq_of_beq_eq_true hb
            simp only [DataW.trod, hu] at h
            split at h
            · rename_i hc
              cases hm : fs.toList.mapM (fun f => DataW.trod enc P W 0 (fun _ => true) true fuel f.type ((cs.drop f.offset).take (P.cellsOf f.type))) with
              | none => rw [hm] at h; cases h
              | some r =>
                rw [hm, Option.map_some] at h
                cases h
                simp only [DataW.weights, hu] at hw
                obtain ⟨c, hcc⟩ := fields_cells ih _ _ _ _ e1 hm hw
                rw [List.drop_zero, b1, ← hc, List.take_length] at hcc
                exact ⟨c, hcc⟩
            · cases h
        · cases hk
      · rename_i m e hu
        split at hk
        · rename_i k1 e1
          cases hb : (Nat.beq k1.length (P.cellsOf e) && Nat.beq (m * k1.length) (P.cellsOf t)) with
          | false => rw [hb] at hk; cases hk
          | true =>
            rw [hb, cond_true] at hk
            cases hk
            obtain ⟨b1, b2⟩ := Bool.and_eq_true_iff.1 hb
            have b1 := Nat.eq_of_beq_eq_true b1
            have b2 := Nat.eq_of_beq_eq_true b2
            simp only [DataW.trod, hu] at h
            split at h
            · rename_i hc
              cases hm : (List.range m).mapM (fun i => DataW.trod enc P W 0 (fun _ => true) true fuel e ((cs.drop (i * P.cellsOf e)).take (P.cellsOf e))) with
              | none => rw [hm] at h; cases h
              | some r =>
                rw [hm, Option.map_some] at h
                cases h
                simp only [DataW.weights, hu] at hw
                obtain ⟨c, hcc⟩ := parts_cells ih e1 b1 hm hw m (Nat.le_refl _)
                rw [b2, ← hc, List.take_length] at hcc
                exact ⟨c, hcc⟩
            · cases h
        · cases hk
      · cases hk
end
end Go.AM
