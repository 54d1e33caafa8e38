/-
  Walks, laid by program.
-/
import Derived.Test.YtaedeadgbojmnaaF1
set_option linter.unusedVariables false
set_option linter.unusedSimpArgs false
set_option maxRecDepth 100000
namespace Go.Proofs.Ytaedeadgbojmnaa
open Go Go.AM

theorem cloneEditD_ok {S : AH} {A : Nat → Prop} (hA : ∀ j, A j → j < S.nx) {x : Nat → Value} {c : Nat → CT} (px : Pts A S k48 x c) : XCall Try.prog 21 [.agg ⟨cellsOf 84 x⟩] S fun u H' => Kept S.nx S H' ∧ EditT c u H' (fun j => A j ∨ (S.nx ≤ j ∧ j < H'.nx)) := by
  obtain ⟨pl, ap, cp, ep, hp, rp⟩ := (px 35 _ rfl).rowD
  refine (cloneEdit_ok hA px ep).mono fun u H' hw h => ?_
  obtain ⟨hk, A1, L1, s1, s2, hL, hpw, y, rfl, py, hpk⟩ := h
  refine ⟨hk, y, rfl, fun i k hi => ?_⟩
  have g : Gr A1 H' (fun j => A j ∨ (S.nx ≤ j ∧ j < H'.nx)) H' := ⟨s1, fun _ _ => rfl, rfl⟩
  by_cases e : i = 35
  · subst e; cases hi
    rw [ep]
    rcases hpk with ⟨h1, rfl, _⟩ | ⟨M, cells, ex, h1, rfl, h3, h4, h5⟩
    · rw [h1]; simp only [CellA]; exact ⟨by simp, by simp, .inl ⟨trivial, trivial⟩⟩
    · obtain ⟨q1, q2, q3, q4⟩ := hL _ (List.mem_singleton.2 rfl)
      rw [h1]; exact row_own q1 (.inr ⟨q2, q3⟩) rfl rfl (by rw [h3]; exact Nat.le_refl _) (fun i c hc => CellsA.gr g _ _ _ (h5 i c hc)) (Nat.le_refl _) rp.len rp.bytes
  · exact CellA.gr g _ _ _ (py i k hi (by cases hq : only 35 i with | false => rfl | true => exact absurd (Nat.eq_of_beq_eq_true hq) e))

/-- the actions that are recorded -/
def recs : List (List CT) → List (List CT) → List (List CT)
  | e :: es, b :: bs => (e ++ b) :: recs es bs
  | _, _ => []
theorem recs_len : ∀ {es bs : List (List CT)}, es.length = bs.length → (recs es bs).length = es.length
  | [], [], _ => rfl
  | _ :: es, _ :: bs, h => by simp only [recs, List.length_cons]; rw [recs_len (by simpa using h)]
  | [], _ :: _, h => by simp at h
  | _ :: _, [], h => by simp at h
theorem recs_get : ∀ {es bs : List (List CT)} {i : Nat} {e b : List CT}, es[i]? = some e → bs[i]? = some b → (recs es bs)[i]? = some (e ++ b)
  | _ :: es, _ :: bs, 0, _, _, h, k => by simp at h k; subst h; subst k; rfl
  | _ :: es, _ :: bs, i + 1, _, _, h, k => by simp only [recs, List.getElem?_cons_succ] at *; exact recs_get h k
  | [], _, _, _, _, h, _ => by simp at h
  | _ :: _, [], _, _, _, _, k => by simp at k
inductive RecS (es bs : List (List CT)) : Int → List (List CT) → Prop
  | len (h : es.length ≠ bs.length) : RecS es bs 15 []
  | chk (h : es.length = bs.length) (he : chkErr (recs es bs) ≠ 0) : RecS es bs (chkErr (recs es bs)) []
  | ok (h : es.length = bs.length) (he : chkErr (recs es bs) = 0) : RecS es bs 0 (recs es bs)
theorem recS_same {es bs : List (List CT)} {e e' : Int} {l l' : List (List CT)} (h : RecS es bs e l) (h' : RecS es bs e' l') : e = e' ∧ l = l' := by
  cases h with
  | len h => cases h' with
    | len _ => exact ⟨rfl, rfl⟩
    | chk k _ => exact absurd k h
    | ok k _ => exact absurd k h
  | chk h he => cases h' with
    | len k => exact absurd h k
    | chk _ _ => exact ⟨rfl, rfl⟩
    | ok _ k => exact absurd k he
  | ok h he => cases h' with
    | len k => exact absurd h k
    | chk _ k => exact absurd he k
    | ok _ _ => exact ⟨rfl, rfl⟩
def RecT (es bs : List (List CT)) (u : Value) (H' : AH) (A' : Nat → Prop) : Prop := ∃ v e l, u = .tuple ⟨[v, .int .i64 e]⟩ ∧ RecS es bs e l ∧ CellA A' H' (.row 848 k51) v (.row l)
def RecR (es bs : List (List CT)) (A : Nat → Prop) (S : AH) (u : Value) (H' : AH) : Prop := Kept S.nx S H' ∧ RecT es bs u H' fun j => A j ∨ (S.nx ≤ j ∧ j < H'.nx)
end Go.Proofs.Ytaedeadgbojmnaa
