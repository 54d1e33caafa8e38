/-
  Walks, laid by program.
-/
import Derived.Test.YtaedeadgbojmnaaC3
set_option linter.unusedVariables false
set_option linter.unusedSimpArgs false
set_option maxRecDepth 100000
namespace Go.Proofs.Ytaedeadgbojmnaa
open Go Go.AM

def upC (c : Nat → CT) (o : Nat) (d : CT) : Nat → CT := fun i => if i = o then d else c i
def rowOf : CT → List (List CT)
  | .row l => l
  | .v _ => []
def numC (v : Int) : CT := .v (.int .i64 v)
/-- an edit's content with a value of a field -/
def setC (c : Nat → CT) (q : List UInt8) (v : Int) : Nat → CT :=
  match fieldOff q with
  | some fo => upC c fo (numC v)
  | none => upC c 35 (.row ((rowOf (c 35)).set (pIx q).toNat [numC v]))
theorem pts_up {A : Nat → Prop} {H : AH} {ks : List Kd} {x : Nat → Value} {c : Nat → CT} (h : Pts A H ks x c) {o : Nat} {k : Kd} {v : Value} {d : CT} (hk : ks[o]? = some k) (hv : CellA A H k v d) : Pts A H ks (upd1 x o v) (upC c o d) := fun i k' hk' => by
  by_cases e : i = o
  · subst e; rw [hk] at hk'; cases hk'
    rw [upd1_same]; simp only [upC, if_true]; exact hv
  · rw [upd1_ne x v e]; simp only [upC, if_neg e]; exact h i k' hk'
theorem num_cell {A : Nat → Prop} {H : AH} {v : Int} (hv : (Lit.int .i64 v).wf = true) : CellA A H (.int .i64) (.int .i64 v) (numC v) := by
  simp only [numC, CellA]; exact ⟨trivial, v, rfl, hv⟩
/-- an edit that was made -/
def EditT (c : Nat → CT) (u : Value) (H' : AH) (A' : Nat → Prop) : Prop := ∃ y, u = .agg ⟨cellsOf 84 y⟩ ∧ Pts A' H' k48 y c
def SetR (c : Nat → CT) (A : Nat → Prop) (S : AH) (u : Value) (H' : AH) : Prop := Kept S.nx S H' ∧ EditT c u H' fun j => A j ∨ (S.nx ≤ j ∧ j < H'.nx)
theorem setR_of {S H0 H : AH} {A A1 : Nat → Prop} {L : OL} {y : Nat → Value} {c : Nat → CT} (hH : HS S H0 A A1 L H) (h : Pts A1 H0 k48 y c) : SetR c A S (.agg ⟨cellsOf 84 y⟩) H :=
  ⟨hH.kept, y, rfl, fun i k hk => CellA.gr ⟨fun j hj => (hH.sub j hj).imp id fun h => ⟨h, hH.lt j hj⟩, fun j hj => rfl, rfl⟩ _ _ _ (CellA.gr hH.gr _ _ _ (h i k hk))⟩
/-- the values of a row of numbers -/
theorem row_vals {A : Nat → Prop} {H : AH} {pl : List (List CT)} {ap : Option Addr} {cp : Nat} (h : RowD A H 8 [.int .i64] pl ap cp) : ∃ pv : Nat → Value, ∀ k x, k < pl.length → (∃ p, ap = some p ∧ aload H (p.add (k * 1)) = some x) → x = pv k := by
  refine ⟨fun k => ((pl.getD k []).getD 0 (.row [])).val, fun k x hk ⟨p, hp, hx⟩ => ?_⟩
  obtain ⟨p', xs, c, e1, e2, e3, e4, e5⟩ := h.at' k hk
  rw [hp] at e1; cases e1
  obtain ⟨x0, rfl, e6⟩ := aloads_one e4
  have : some x = some x0 := hx.symm.trans e6
  cases this
  obtain ⟨n, hn⟩ : ∃ c0, c = [c0] := List.length_eq_one_iff.1 e5.len.2
  subst hn
  simp only [CellsA] at e5
  obtain ⟨m, rfl, rfl, _⟩ := e5.1.int
  simp [List.getD_eq_getElem?_getD, e3, CT.val]
theorem row_int {A : Nat → Prop} {H : AH} {x : Value} {d : List CT} (h : CellsA A H [.int .i64] [x] d) : ∃ n, x = .int .i64 n := by
  obtain ⟨c0, rfl⟩ : ∃ c0, d = [c0] := List.length_eq_one_iff.1 h.len.2
  simp only [CellsA] at h
  obtain ⟨n, rfl, _⟩ := h.1.int
  exact ⟨n, rfl⟩
theorem set_row {A A' : Nat → Prop} {H H' : AH} {pl : List (List CT)} {ap : Option Addr} {cp M kk : Nat} {pv : Nat → Value} {v : Int} {ex : Bool} (hg : H'.tr.get M = some (.cells (cellsOf pl.length (fun i => if i = kk then .int .i64 v else pv i)) 1 ex)) (hA : A' M) (rp : RowD A H 8 [.int .i64] pl ap cp) (hpv : ∀ k x, k < pl.length → (∃ p, ap = some p ∧ aload H (p.add (k * 1)) = some x) → x = pv k) (hv : (Lit.int .i64 v).wf = true)
    (h1 : pl.length ≤ 140737488351232) (h2 : pl.length * 8 ≤ 140737488351232) : CellA A' H' (.row 8 [.int .i64]) (.slice (some ⟨2 * M + 1, 0, none⟩) pl.length pl.length) (.row (pl.set kk [numC v])) := by
  refine row_own hg hA rfl (by rw [List.length_set]) (by rw [List.length_set, cellsOf_length, Nat.mul_one]; exact Nat.le_refl _) (fun i c hc => ?_) (by rw [List.length_set]; exact Nat.le_refl _) (by rw [List.length_set]; exact h1) (by rw [List.length_set]; exact h2)
  have hi : i < pl.length := by have := lt_of_getElem? hc; rwa [List.length_set] at this
  have e : ((cellsOf pl.length (fun i => if i = kk then Value.int .i64 v else pv i)).drop (i * 1)).take 1 = [if i = kk then Value.int .i64 v else pv i] := by
    rw [Nat.mul_one, List.drop_eq_getElem_cons (by rw [cellsOf_length]; exact hi)]
    simp [cellsOf]
  rw [e]
  by_cases hk : i = kk
  · subst hk
    rw [List.getElem?_set_self hi] at hc
    cases hc
    rw [if_pos rfl]
    simp only [CellsA]
    exact ⟨num_cell hv, trivial⟩
  · rw [List.getElem?_set_ne (fun h => hk h.symm)] at hc
    rw [if_neg hk]
    obtain ⟨p', xs, c', e1, e2, e3, e4, e5⟩ := rp.at' i hi
    rw [hc] at e3; cases e3
    obtain ⟨x0, rfl, e6⟩ := aloads_one e4
    rw [← hpv i x0 hi ⟨p', e1, e6⟩]
    exact e5.move rfl A' H'
theorem cellsOf_snoc {k : Nat} {f : Nat → Value} {v : Value} (h : v = f k) : cellsOf k f ++ [v] = cellsOf (k + 1) f := by
  subst h; simp [cellsOf, List.range_succ]

theorem pts_edit {A : Nat → Prop} {H : AH} {x : Nat → Value} {c : Nat → CT} (px : Pts A H k51 x c) : Pts A H k48 (fun i => x (0 + i)) c := fun i k hk => by
  have e : k51 = k48 ++ [.row 32 k79] := by kernel_rfl
  simp only [Nat.zero_add]
  exact px i k (by rw [e, List.getElem?_append_left (lt_of_getElem? hk)]; exact hk)
end Go.Proofs.Ytaedeadgbojmnaa
