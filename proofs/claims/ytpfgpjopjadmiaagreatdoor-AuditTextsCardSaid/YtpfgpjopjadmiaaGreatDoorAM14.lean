/-
  The abstract machine, part 14: what a reading of an argument says of its cells; the post of a law.
-/
import Derived.Test.YtpfgpjopjadmiaaGreatDoorAM13
import Derived.Carry
import GoSem.ClaimChange
set_option linter.unusedVariables false
set_option linter.unusedSimpArgs false
noncomputable section
namespace Go.AM
open Go.RowKit

section
variable {T : Type} {enc : TypeId × Value → T} {P : Program} {W : World} {t : TypeId} {cs : List Value} {fuel : Nat}

/-- the cells cs of type t can be read in W -/
def Reads (enc : TypeId × Value → T) (P : Program) (W : World) (t : TypeId) (cs : List Value) : Prop := ∃ fuel x, DataW.trod enc P W 0 (fun _ => true) true fuel t cs = some x

theorem Reads.int {k : IntKind} (hu : P.underlying t = some (.int k)) (h : Reads enc P W t cs) : ∃ n, cs = [.int k n] ∧ (Lit.int k n).wf = true := by
  obtain ⟨fuel, x, h⟩ := h
  cases fuel with
  | zero => simp [DataW.trod] at h
  | succ fuel =>
    unfold DataW.trod at h
    rw [hu] at h
    split at h <;> (try (rename_i h1 _; cases h1; done)) <;> (try (rename_i h1; cases h1; done))
    · rename_i k1 k2 n h1
      cases h1
      split at h
      · rename_i hc; exact ⟨n, by rw [hc.1], hc.2⟩
      · cases h
    · cases h

theorem Reads.bool (hu : P.underlying t = some .bool) (h : Reads enc P W t cs) : ∃ b, cs = [.bool b] := by
  obtain ⟨fuel, x, h⟩ := h
  cases fuel with
  | zero => simp [DataW.trod] at h
  | succ fuel =>
    unfold DataW.trod at h
    rw [hu] at h
    split at h <;> (try (rename_i h1 _; cases h1; done)) <;> (try (rename_i h1; cases h1; done))
    · rename_i b h1; exact ⟨b, rfl⟩
    · cases h

theorem Reads.string (hu : P.underlying t = some .string) (h : Reads enc P W t cs) : ∃ s, cs = [.string s] ∧ s.size ≤ maxLen := by
  obtain ⟨fuel, x, h⟩ := h
  cases fuel with
  | zero => simp [DataW.trod] at h
  | succ fuel =>
    unfold DataW.trod at h
    rw [hu] at h
    split at h <;> (try (rename_i h1 _; cases h1; done)) <;> (try (rename_i h1; cases h1; done))
    · rename_i s h1
      split at h
      · rename_i hc; exact ⟨s, rfl, hc⟩
      · cases h
    · cases h

theorem cells?_read {a : Addr} {n : Nat} {l : List Value} (h : W.cells? 0 a n = some l) : l.length = n ∧ CRead W a l := by
  unfold World.cells? at h
  rw [if_pos (Nat.zero_le _)] at h
  have key : ∀ (is : List Nat) (l : List Value), (is.mapM fun i => W.cell? (a.add i)) = some l → l.length = is.length ∧ ∀ (j : Nat) i v, is[j]? = some i → l[j]? = some v → W.cell? (a.add i) = some v := by
    intro is
    induction is with
    | nil => intro l h; simp at h; subst h; exact ⟨rfl, fun j i v h => by simp at h⟩
    | cons i is ih =>
      intro l h
      simp only [List.mapM_cons, Option.bind_eq_bind, Option.pure_def] at h
      cases hc : W.cell? (a.add i) with
      | none => rw [hc] at h; simp at h
      | some v =>
        cases hr : (is.mapM fun i => W.cell? (a.add i)) with
        | none => rw [hc, hr] at h; simp at h
        | some r =>
          rw [hc, hr] at h
          simp at h
          subst h
          obtain ⟨h1, h2⟩ := ih r hr
          refine ⟨by simp [h1], fun j i' v' hj hv => ?_⟩
          cases j with
          | zero => simp at hj hv; subst hj; subst hv; exact hc
          | succ j => simp at hj hv; exact h2 j i' v' hj hv
  obtain ⟨h1, h2⟩ := key _ _ h
  refine ⟨by simpa using h1, fun i v hv => h2 i i v ?_ hv⟩
  have hi := lt_of_getElem? hv
  rw [List.length_range] at h1
  rw [List.getElem?_range (by omega)]

theorem mapM_mem {α β : Type} {f : α → Option β} : ∀ {l : List α} {r : List β}, l.mapM f = some r → ∀ x ∈ l, ∃ y, f x = some y := by
  intro l
  induction l with
  | nil => intro r _ x hx; cases hx
  | cons a l ih =>
    intro r h x hx
    simp only [List.mapM_cons, Option.bind_eq_bind, Option.pure_def] at h
    cases ha : f a with
    | none => rw [ha] at h; simp at h
    | some y =>
      cases hl : l.mapM f with
      | none => rw [ha, hl] at h; simp at h
      | some r' =>
        rcases List.mem_cons.1 hx with rfl | hx
        · exact ⟨y, ha⟩
        · exact ih hl x hx

theorem Reads.slice {e : TypeId} (hu : P.underlying t = some (.slice e)) (h : Reads enc P W t cs) :
    cs = [.slice none 0 0] ∨ ∃ a len cap, cs = [.slice (some a) len cap] ∧ len ≤ cap ∧ cap ≤ maxLen ∧ ∀ i, i < len → ∃ l, l.length = P.cellsOf e ∧ CRead W (a.add (i * P.cellsOf e)) l ∧ Reads enc P W e l := by
  obtain ⟨fuel, x, h⟩ := h
  cases fuel with
  | zero => simp [DataW.trod] at h
  | succ fuel =>
    unfold DataW.trod at h
    rw [hu] at h
    split at h <;> (try (rename_i h1 _; cases h1; done)) <;> (try (rename_i h1; cases h1; done))
    · exact .inl rfl
    · rename_i e' a len cap h1
      cases h1
      split at h
      · rename_i hc
        right
        refine ⟨a, len, cap, rfl, hc.2.1, hc.2.2, fun i hi => ?_⟩
        cases hm : (List.range len).mapM (fun i => (W.cells? 0 (a.add (i * P.cellsOf e)) (P.cellsOf e)).bind (DataW.trod enc P W 0 (fun _ => true) true fuel e)) with
        | none => simp only at h; rw [hm] at h; cases h
        | some r =>
          obtain ⟨y, hy⟩ := mapM_mem hm i (List.mem_range.2 hi)
          cases hcl : W.cells? 0 (a.add (i * P.cellsOf e)) (P.cellsOf e) with
          | none => rw [hcl] at hy; cases hy
          | some l =>
            rw [hcl, Option.bind_some] at hy
            obtain ⟨q1, q2⟩ := cells?_read hcl
            exact ⟨l, q1, q2, fuel, y, hy⟩
      · cases h
    · cases h

theorem Reads.struct {fs : Array Field} (hu : P.underlying t = some (.struct fs)) (h : Reads enc P W t cs) : cs.length = P.cellsOf t ∧ ∀ f ∈ fs.toList, Reads enc P W f.type ((cs.drop f.offset).take (P.cellsOf f.type)) := by
  obtain ⟨fuel, x, h⟩ := h
  cases fuel with
  | zero => simp [DataW.trod] at h
  | succ fuel =>
    simp only [DataW.trod, hu] at h
    split at h
    · rename_i hc
      refine ⟨hc, fun f hf => ?_⟩
      cases hm : fs.toList.mapM (fun f => DataW.trod enc P W 0 (fun _ => true) true fuel f.type ((cs.drop f.offset).take (P.cellsOf f.type))) with
      | none => rw [hm] at h; cases h
      | some r =>
        obtain ⟨y, hy⟩ := mapM_mem hm f hf
        exact ⟨fuel, y, hy⟩
    · cases h
end

/-- a law's post: it returned true, and what was there is as it was -/
theorem law_post {T : Type} {enc : TypeId × Value → T} {P : Program} {f : Func} {s : ChangeSpec} {tb : TypeId} (laidOut : laidOutB P = true) (hres : f.resultTypes = #[tb]) (hb : P.underlying tb = some .bool) (hvars : s.vars = [])
    (hread : ∀ t ∈ f.params.toList, P.readableRec t = true ∧ t < P.types.size) (hs : ∀ (ds : List (DataW T)), ds.length = f.params.size → (s.fn T (ds ++ [])).results = [.lit (.bool true)] ∧ (s.fn T (ds ++ [])).args = ds ∧ (s.fn T (ds ++ [])).vars = [])
    {W W' : World} {args : Array Value} {ds gs : List (DataW T)} {before : List MemPlace} (hW : DataW.Whole enc P f.params.toList s.vars false W args.toList ds gs before) (bel : Below W.heap.size W W') :
    s.post enc P f false true false false W args (.bool true) W' := by
  have hW' := hW
  obtain ⟨p, q, hA, hV, rfl, hfz, hnd⟩ := hW
  have hlt : ∀ x ∈ p ++ q, x.block < W.heap.size := fun x hx => hW'.lt x hx
  rw [hvars] at hV
  have hgs : gs = [] ∧ q = [] := by
    cases gs with
    | nil => exact ⟨rfl, hV⟩
    | cons g gs => exact hV.elim
  obtain ⟨rfl, rfl⟩ := hgs
  have hlen : ds.length = f.params.size := by
    have key : ∀ (ts : List TypeId) (vs : List Value) (ds : List (DataW T)) (ps : List MemPlace), DataW.TrodAll enc P W 0 (fun _ => true) true ts vs ds ps → ds.length = ts.length := by
      intro ts
      induction ts with
      | nil =>
        intro vs ds ps h
        cases vs with
        | nil => cases ds with
          | nil => rfl
          | cons _ _ => exact h.elim
        | cons _ _ => cases ds <;> exact h.elim
      | cons t ts ih =>
        intro vs ds ps h
        cases vs with
        | nil => cases ds <;> exact h.elim
        | cons v vs =>
          cases ds with
          | nil => exact h.elim
          | cons d ds =>
            obtain ⟨p1, q1, _, h2, _⟩ := h
            simp [ih vs ds q1 h2]
    rw [key _ _ _ _ hA, Array.length_toList]
  obtain ⟨r1, r2, r3⟩ := hs ds hlen
  have hargs : DataW.TrodAll enc P W' 0 (fun b => decide (b < W.heap.size)) true f.params.toList args.toList ds p := by
    have key : ∀ (ts : List TypeId) (vs : List Value) (ds : List (DataW T)) (ps : List MemPlace), (∀ t ∈ ts, P.readableRec t = true ∧ t < P.types.size) → (∀ x ∈ ps, x.block < W.heap.size) → DataW.TrodAll enc P W 0 (fun _ => true) true ts vs ds ps →
        DataW.TrodAll enc P W' 0 (fun b => decide (b < W.heap.size)) true ts vs ds ps := by
      intro ts
      induction ts with
      | nil =>
        intro vs ds ps _ _ h
        cases vs with
        | nil => cases ds with
          | nil => exact h
          | cons _ _ => exact h.elim
        | cons _ _ => cases ds <;> exact h.elim
      | cons t ts ih =>
        intro vs ds ps hr hl h
        cases vs with
        | nil => cases ds <;> exact h.elim
        | cons v vs =>
          cases ds with
          | nil => exact h.elim
          | cons d ds =>
            obtain ⟨p1, q1, h1, h2, rfl⟩ := h
            exact ⟨p1, q1, Below.trod laidOut (hr t (List.mem_cons_self ..)).1 (hr t (List.mem_cons_self ..)).2 h1 bel (fun x hx => hl x (List.mem_append_left _ hx)), ih vs ds q1 (fun t ht => hr t (List.mem_cons_of_mem _ ht)) (fun x hx => hl x (List.mem_append_right _ hx)) h2, rfl⟩
    exact key _ _ _ _ hread (fun x hx => hlt x (by simpa using hx)) hA
  refine ⟨ds, [], p ++ [], [], p, [], hW', ?_, ?_, ?_, bel.frame _, fun h => by cases h⟩
  · rw [r1, hres]
    refine ⟨[], [], ⟨1, ?_⟩, rfl, rfl⟩
    simp [DataW.trod, hb, Value.resultList, Value.cells]
  · rw [r2]; exact hargs
  · rw [hvars, r3]; rfl
end Go.AM
