/-
  The abstract machine, part 26: what an argument that reads holds, and how much of it there is.
-/
import Derived.Test.YtaedeadgbojmnaaAM24
set_option linter.unusedVariables false
set_option linter.unusedSimpArgs false
namespace Go.AM
open Go.RowKit

mutual
/-- how many elements a content has, within rows -/
def ctB : CT → Nat
  | .v _ => 0
  | .row l => ctB_rows l
def ctB_rows : List (List CT) → Nat
  | [] => 0
  | c :: r => ctsB c + 1 + ctB_rows r
def ctsB : List CT → Nat
  | [] => 0
  | c :: r => ctB c + ctsB r
end
theorem ctsB_app (a b : List CT) : ctsB (a ++ b) = ctsB a + ctsB b := by
  induction a with
  | nil => simp [ctsB]
  | cons c a ih => simp only [List.cons_append, ctsB, ih]; omega
theorem ctB_rows_app (a b : List (List CT)) : ctB_rows (a ++ b) = ctB_rows a + ctB_rows b := by
  induction a with
  | nil => simp [ctB_rows]
  | cons c a ih => simp only [List.cons_append, ctB_rows, ih]; omega

section
variable {T : Type} {enc : TypeId × Value → T} {P : Program} {W : World} {B : DataW T → Nat} {BA : List (DataW T) → Nat}
/-- what is asked of a bulk -/
structure Bulk (B : DataW T → Nat) (BA : List (DataW T) → Nat) : Prop where
  nil : BA [] = 0
  cons : ∀ d r, BA (d :: r) = B d + BA r
  one : ∀ d, 1 ≤ B d
  slice : ∀ es sp, BA es + BA sp + 1 ≤ B (.slice es sp)
  agg : ∀ ps, BA ps + 1 ≤ B (.agg ps)
theorem Bulk.app (hB : Bulk B BA) (a b : List (DataW T)) : BA (a ++ b) = BA a + BA b := by
  induction a with
  | nil => simp [hB.nil]
  | cons c a ih => rw [List.cons_append, hB.cons, hB.cons, ih]; omega
theorem Bulk.rows (hB : Bulk B BA) : ∀ {l : List (List CT)} {r : List (DataW T × List MemPlace)}, l.length = r.length → (∀ (i : Nat) c y, l[i]? = some c → r[i]? = some y → ctsB c + 1 ≤ B y.1) → ctB_rows l ≤ BA (r.map (·.1))
  | [], [], _, _ => by simp [ctB_rows]
  | [], _ :: _, h, _ => by simp at h
  | _ :: _, [], h, _ => by simp at h
  | c :: l, y :: r, h, k => by
    have h1 := k 0 c y rfl rfl
    have h2 := Bulk.rows hB (l := l) (r := r) (by simpa using h) fun i c y hc hy => k (i + 1) c y (by simpa using hc) (by simpa using hy)
    rw [List.map_cons, hB.cons]
    simp only [ctB_rows]; omega

/-- what can be read holds its type's kinds -/
def HoldsB (B : DataW T → Nat) (enc : TypeId × Value → T) (P : Program) (W : World) (f : TypeId → Option (List Kd)) : Prop := ∀ (t : TypeId) (ks : List Kd) (fuel : Nat) (cs : List Value) (x : DataW T × List MemPlace), f t = some ks → DataW.trod enc P W 0 (fun _ => true) true fuel t cs = some x → (∀ w ∈ x.1.weights P t, w ≤ reachBytes) → ∃ c, CellsA (fun _ => False) (start W) ks (extL cs) c ∧ ctsB c + 1 ≤ B x.1

theorem fields_bulk (hB : Bulk B BA) {f : TypeId → Option (List Kd)} (IH : HoldsB B enc P W f) {fuel : Nat} {cs : List Value} : ∀ (fs : List Field) (off : Nat) (ks : List Kd) (r : List (DataW T × List MemPlace)), kdsFs P f fs off = some ks →
    (fs.mapM fun f => DataW.trod enc P W 0 (fun _ => true) true fuel f.type ((cs.drop f.offset).take (P.cellsOf f.type))) = some r → (∀ w ∈ DataW.weightsEach P (fs.map (·.type)) (r.map (·.1)), w ≤ reachBytes) →
    ∃ c, CellsA (fun _ => False) (start W) ks (extL ((cs.drop off).take ks.length)) c ∧ ctsB c ≤ BA (r.map (·.1)) := by
  intro fs
  induction fs with
  | nil => intro off ks r hk _ _; simp only [kdsFs] at hk; cases hk; exact ⟨[], by simp [extL, CellsA], by simp [ctsB]⟩
  | cons fd fs ih =>
    intro off ks r hk hm hw
    simp only [kdsFs] at hk
    split at hk
    · rename_i k1 k2 e1 e2
      cases hb : (Nat.beq fd.offset off && Nat.beq k1.length (P.cellsOf fd.type)) with
      | false => rw [hb] at hk; cases hk
      | true =>
        rw [hb, cond_true] at hk
        cases hk
        obtain ⟨b1, b2⟩ := Bool.and_eq_true_iff.1 hb
        have b1 := Nat.eq_of_beq_eq_true b1
        have b2 := Nat.eq_of_beq_eq_true b2
        simp only [List.mapM_cons, Option.bind_eq_bind, Option.pure_def] at hm
        cases h1 : DataW.trod enc P W 0 (fun _ => true) true fuel fd.type ((cs.drop fd.offset).take (P.cellsOf fd.type)) with
        | none => rw [h1] at hm; simp at hm
        | some y =>
          cases h2 : (fs.mapM fun f => DataW.trod enc P W 0 (fun _ => true) true fuel f.type ((cs.drop f.offset).take (P.cellsOf f.type))) with
          | none => rw [h1, h2] at hm; simp at hm
          | some r' =>
            rw [h1, h2] at hm
            simp at hm
            subst hm
            simp only [List.map_cons, DataW.weightsEach, List.mem_append] at hw
            obtain ⟨c1, hc1, m1⟩ := IH _ _ _ _ _ e1 h1 fun w h => hw w (.inl h)
            obtain ⟨c2, hc2, m2⟩ := ih _ _ _ e2 h2 fun w h => hw w (.inr h)
            refine ⟨c1 ++ c2, ?_, by rw [ctsB_app, List.map_cons, hB.cons]; omega⟩
            rw [b1, ← b2] at hc1
            rw [← b2, ← List.drop_drop] at hc2
            rw [List.length_append, List.take_add, extL_app]
            exact hc1.append hc2
    · cases hk

theorem parts_bulk (hB : Bulk B BA) {f : TypeId → Option (List Kd)} (IH : HoldsB B enc P W f) {fuel e : Nat} {cs : List Value} {ks : List Kd} (he : f e = some ks) (hl : ks.length = P.cellsOf e) {m : Nat} {r : List (DataW T × List MemPlace)}
    (hm : ((List.range m).mapM fun i => DataW.trod enc P W 0 (fun _ => true) true fuel e ((cs.drop (i * P.cellsOf e)).take (P.cellsOf e))) = some r) (hw : ∀ w ∈ DataW.weightsAll P e (r.map (·.1)), w ≤ reachBytes) :
    ∀ j, j ≤ m → ∃ c, CellsA (fun _ => False) (start W) (List.replicate j ks).flatten (extL (cs.take (j * ks.length))) c ∧ ctsB c ≤ BA ((r.map (·.1)).take j) := by
  obtain ⟨q1, q2⟩ := mapM_at hm
  intro j
  induction j with
  | zero => intro _; exact ⟨[], by simp [extL, CellsA], by simp [ctsB]⟩
  | succ j ih =>
    intro hj
    obtain ⟨c1, h1, m1⟩ := ih (by omega)
    obtain ⟨y, y1, y2⟩ := q2 j j (List.getElem?_range (by omega))
    obtain ⟨c2, h2, m2⟩ := IH _ _ _ _ _ he y2 fun w hw' => hw w (weightsAll_mem (List.mem_map.2 ⟨y, List.mem_of_getElem? y1, rfl⟩) w hw')
    refine ⟨c1 ++ c2, ?_, by rw [ctsB_app, List.take_add_one, List.getElem?_map, y1, hB.app]; simp only [Option.map_some, Option.toList_some, hB.cons, hB.nil]; omega⟩
    rw [← hl] at h2
    rw [List.replicate_succ', List.flatten_append, List.flatten_singleton, Nat.add_mul, Nat.one_mul, List.take_add, extL_app]
    exact h1.append h2

theorem trod_bulk (hB : Bulk B BA) : ∀ (n : Nat), HoldsB B enc P W (kdsT P n) := by
  intro n
  induction n with
  | zero => intro t ks fuel cs x hk; simp [kdsT] at hk
  | succ n ih =>
    intro t ks fuel cs x hk h hw
    cases fuel with
    | zero => simp [DataW.trod] at h
    | succ fuel =>
      simp only [kdsT] at hk
      split at hk
      · rename_i k hu
        cases hk
        obtain ⟨m, rfl, hm⟩ := Reads.int hu ⟨_, _, h⟩
        exact ⟨[.v (.int k m)], by simp only [extL, ext, CellsA, CellA]; exact ⟨⟨trivial, m, rfl, hm⟩, trivial⟩, by have := hB.one x.1; simp [ctsB, ctB]; omega⟩
      · rename_i hu
        cases hk
        obtain ⟨m, rfl⟩ := Reads.bool hu ⟨_, _, h⟩
        exact ⟨[.v (.bool m)], by simp only [extL, ext, CellsA, CellA]; exact ⟨⟨trivial, m, rfl⟩, trivial⟩, by have := hB.one x.1; simp [ctsB, ctB]; omega⟩
      · rename_i hu
        cases hk
        obtain ⟨m, rfl, hm⟩ := Reads.string hu ⟨_, _, h⟩
        exact ⟨[.v (.string m)], by simp only [extL, ext, CellsA, CellA]; exact ⟨⟨trivial, m, rfl, hm⟩, trivial⟩, by have := hB.one x.1; simp [ctsB, ctB]; omega⟩
      · rename_i e hu
        split at hk
        · rename_i k1 e1
          cases hb : (Nat.beq k1.length (P.cellsOf e) && Nat.ble 1 (P.bytesOf e)) with
          | false => rw [hb] at hk; cases hk
          | true =>
            rw [hb, cond_true] at hk
            cases hk
            obtain ⟨b1, b2⟩ := Bool.and_eq_true_iff.1 hb
            have b1 := Nat.eq_of_beq_eq_true b1
            have b2 := Nat.le_of_ble_eq_true b2
            unfold DataW.trod at h
            rw [hu] at h
            split at h <;> (try (rename_i h1 _; cases h1; done)) <;> (try (rename_i h1; cases h1; done))
            · exact ⟨[.row []], by simp only [extL, ext, CellsA, CellA]; exact ⟨⟨Nat.zero_le _, by simp, .inl ⟨trivial, trivial⟩⟩, trivial⟩, by have := hB.one x.1; simp [ctsB, ctB, ctB_rows]; omega⟩
            · rename_i e' a len cap h1
              cases h1
              split at h
              · rename_i hc
                simp only at h
                cases hm : (List.range len).mapM (fun i => (W.cells? 0 (a.add (i * P.cellsOf e)) (P.cellsOf e)).bind (DataW.trod enc P W 0 (fun _ => true) true fuel e)) with
                | none => rw [hm] at h; cases h
                | some r =>
                  rw [hm, Option.bind_some] at h
                  simp only [if_true] at h
                  cases hr : (List.range (cap - len)).mapM (fun j => (W.cells? 0 (a.add ((len + j) * P.cellsOf e)) (P.cellsOf e)).bind (DataW.trod enc P W 0 (fun _ => true) true fuel e)) with
                  | none => rw [hr] at h; cases h
                  | some r' =>
                    rw [hr, Option.map_some] at h
                    cases h
                    simp only [DataW.weights, hu, List.mem_cons, List.mem_append] at hw
                    obtain ⟨q1, q2⟩ := mapM_at hm
                    rw [List.length_range] at q1
                    have hlen : (r.length + r'.length) * P.bytesOf e ≤ 140737488351232 := by have := hw _ (.inl rfl); simpa [reachBytes] using this
                    have hl1 : len * P.bytesOf e ≤ 140737488351232 := Nat.le_trans (Nat.mul_le_mul_right _ (by omega)) hlen
                    have hl0 : len ≤ 140737488351232 := Nat.le_trans (Nat.le_mul_of_pos_right _ b2) hl1
                    obtain ⟨l, l1, l2⟩ : ∃ l : List (List CT), l.length = len ∧ ∀ (i : Nat) c, l[i]? = some c → (∃ xs, aloads (start W) ((extAddr a).add (i * k1.length)) k1.length = some xs ∧ CellsA (fun _ => False) (start W) k1 xs c) ∧ ∀ y, r[i]? = some y → ctsB c + 1 ≤ B y.1 := by
                      refine list_choose len fun i hi => ?_
                      obtain ⟨y, y1, y2⟩ := q2 i i (List.getElem?_range hi)
                      cases hcl : W.cells? 0 (a.add (i * P.cellsOf e)) (P.cellsOf e) with
                      | none => rw [hcl] at y2; cases y2
                      | some lc =>
                        rw [hcl, Option.bind_some] at y2
                        obtain ⟨p1, p2⟩ := cells?_read hcl
                        obtain ⟨c, hcc, mc⟩ := ih _ _ _ _ _ e1 y2 fun w hw' => hw w (.inr (.inl (weightsAll_mem (List.mem_map.2 ⟨y, List.mem_of_getElem? y1, rfl⟩) w hw')))
                        refine ⟨c, ⟨extL lc, ?_, hcc⟩, fun y' hy' => by rw [y1] at hy'; cases hy'; exact mc⟩
                        have h9 := aloads_ext (H := start W) p2
                        rw [p1] at h9
                        rw [b1, extAddr_add]
                        exact h9
                    have msum : ctB_rows l ≤ BA (r.map (·.1)) := hB.rows (by omega) fun i c y hc hy => (l2 i c hc).2 y hy
                    refine ⟨[.row l], ?_, by simp only [ctsB, ctB]; have := hB.slice (r.map (·.1)) (r'.map (·.1)); omega⟩
                    simp only [extL, ext, CellsA, CellA]
                    refine ⟨⟨by omega, by rw [l1]; exact hl1, .inr ⟨extAddr a, cap, by rw [l1], by omega, ⟨.inl (by simp [extAddr]), fun h9 => by simp [extAddr] at h9⟩, fun i c hc => (l2 i c hc).1⟩⟩, trivial⟩
              · cases h
            · cases h
        · cases hk
      · rename_i fs hu
        split at hk
        · rename_i k1 e1
          cases hb : Nat.beq k1.length (P.cellsOf t) with
          | false => rw [hb] at hk; cases hk
          | true =>
            rw [hb, cond_true] at hk
            cases hk
            have b1 := Nat.eq_of_beq_eq_true hb
            simp only [DataW.trod, hu] at h
            split at h
            · rename_i hc
              cases hm : fs.toList.mapM (fun f => DataW.trod enc P W 0 (fun _ => true) true fuel f.type ((cs.drop f.offset).take (P.cellsOf f.type))) with
              | none => rw [hm] at h; cases h
              | some r =>
                rw [hm, Option.map_some] at h
                cases h
                simp only [DataW.weights, hu] at hw
                obtain ⟨c, hcc, mc⟩ := fields_bulk hB ih _ _ _ _ e1 hm hw
                rw [List.drop_zero, b1, ← hc, List.take_length] at hcc
                exact ⟨c, hcc, by have := hB.agg (r.map (·.1)); show ctsB c + 1 ≤ B (.agg (r.map (·.1))); omega⟩
            · cases h
        · cases hk
      · rename_i m e hu
        split at hk
        · rename_i k1 e1
          cases hb : (Nat.beq k1.length (P.cellsOf e) && Nat.beq (m * k1.length) (P.cellsOf t)) with
          | false => rw [hb] at hk; cases hk
          | true =>
            rw [hb, cond_true] at hk
            cases hk
            obtain ⟨b1, b2⟩ := Bool.and_eq_true_iff.1 hb
            have b1 := Nat.eq_of_beq_eq_true b1
            have b2 := Nat.eq_of_beq_eq_true b2
            simp only [DataW.trod, hu] at h
            split at h
            · rename_i hc
              cases hm : (List.range m).mapM (fun i => DataW.trod enc P W 0 (fun _ => true) true fuel e ((cs.drop (i * P.cellsOf e)).take (P.cellsOf e))) with
              | none => rw [hm] at h; cases h
              | some r =>
                rw [hm, Option.map_some] at h
                cases h
                simp only [DataW.weights, hu] at hw
                obtain ⟨c, hcc, mc⟩ := parts_bulk hB ih e1 b1 hm hw m (Nat.le_refl _)
                rw [b2, ← hc, List.take_length] at hcc
                have mc2 : ctsB c ≤ BA (r.map (·.1)) := Nat.le_trans mc (Nat.le_of_eq (by rw [List.take_of_length_le (by have := (mapM_at hm).1; rw [List.length_range] at this; rw [List.length_map]; omega)]))
                exact ⟨c, hcc, by have := hB.agg (r.map (·.1)); show ctsB c + 1 ≤ B (.agg (r.map (·.1))); omega⟩
            · cases h
        · cases hk
      · cases hk
end
end Go.AM
