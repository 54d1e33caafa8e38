/-
  Proved here: for every list of actions whose reading is of bulk at most 1048576, the law BatchChecks returns true and does not panic (Rows.BatchChecksUptoSaid). The condition: the bulk's bound, as the statement says it.
-/
import Derived.Test.YtaedeadgbojmnaaE1
import Derived.Test.YtaedeadgbojmnaaAM26
import Derived.Test.YtaedeadgbojmnaaG5
import Derived.Deep.CondSized
set_option linter.unusedVariables false
set_option linter.unusedSimpArgs false
set_option maxRecDepth 100000
namespace Go.Proofs.Ytaedeadgbojmnaa
open Go Go.AM Go.ChangeShapes Go.WideShapes Go.ChangeAt Go.RowKit

theorem bulk_one {H : Type} (d : DataW H) : 1 ≤ Rows.uptoBulk d := by
  cases d with
  | lit l => cases l <;> simp [Rows.uptoBulk]
  | nil => simp [Rows.uptoBulk]
  | ptr d => simp [Rows.uptoBulk]
  | slice elems spare => simp [Rows.uptoBulk]
  | agg parts => simp [Rows.uptoBulk]
  | iface t d => simp [Rows.uptoBulk]
  | map entries => simp [Rows.uptoBulk]
  | held h => simp [Rows.uptoBulk]
theorem bulk_is (H : Type) : Bulk (T := H) Rows.uptoBulk Rows.uptoBulkAll :=
  ⟨by simp [Rows.uptoBulkAll], fun d r => by simp [Rows.uptoBulkAll], bulk_one, fun es sp => by simp [Rows.uptoBulk], fun ps => by simp [Rows.uptoBulk]⟩

theorem kds61 : kdsT Try.prog 12 61 = some [.row 872 k51] := by kernel_rfl

/-- a row that came in, and its bulk -/
theorem in_rowB {T : Type} {enc : TypeId × Value → T} {W : World} {v : Value} {d : DataW T} {p : List MemPlace} {t e : TypeId} {b base : Nat} {ks : List Kd} (hu : Try.prog.underlying t = some (.slice e)) (hk : kdsT Try.prog 12 t = some [.row b ks]) (hv : Value.okWide Try.prog W .any base t v) (h : DataW.Trod enc Try.prog W 0 (fun _ => true) true t v d p) (hw : ∀ w ∈ d.weights Try.prog t, w ≤ reachBytes) :
    ∃ l, CellA (fun _ => False) (Go.AM.start W) (.row b ks) (ext v) (.row l) ∧ ctB_rows l ≤ Rows.uptoBulk d := by
  obtain ⟨fuel, h⟩ := h
  obtain ⟨c, hc, hm⟩ := trod_bulk (bulk_is T) 12 _ _ _ _ _ hk h hw
  obtain ⟨a, len, cap, rfl⟩ := okWide_slice hu hv
  cases c with
  | nil => exact hc.elim
  | cons c cs =>
    obtain ⟨l, rfl, _⟩ := hc.1.row
    refine ⟨l, hc.1, ?_⟩
    simp only [ctsB, ctB] at hm
    omega

theorem rows_le : ∀ l : List (List CT), l.length ≤ ctB_rows l
  | [] => Nat.le_refl _
  | c :: r => by have := rows_le r; simp only [ctB_rows, List.length_cons]; omega
theorem ctB_at : ∀ {cs : List CT} {i : Nat} {c : CT}, cs[i]? = some c → ctB c ≤ ctsB cs
  | x :: r, 0, c, h => by simp at h; subst h; simp only [ctsB]; omega
  | x :: r, i + 1, c, h => by have := ctB_at (cs := r) (i := i) (c := c) (by simpa using h); simp only [ctsB]; omega
  | [], _, _, h => by simp at h
theorem binds_le (a : List CT) : (bindsOf a).length ≤ ctsB a := by
  unfold bindsOf
  split
  · rename_i l h
    have h1 := ctB_at h
    simp only [ctB] at h1
    exact Nat.le_trans (rows_le l) h1
  · exact Nat.zero_le _
theorem pnames_le : ∀ l : List (List CT), (pnames l).length ≤ ctB_rows l
  | [] => Nat.le_refl _
  | a :: l => by
    have h1 := pnames_le l
    have h2 := binds_le a
    simp only [pnames, List.flatMap_cons, List.length_append, nmsOf, List.length_map, ctB_rows] at h1 ⊢
    omega

theorem checks_post {T : Type} {enc : TypeId × Value → T} {W W' : World} {args : Array Value} {ds gs : List (DataW T)} {before : List MemPlace} (hW : DataW.Whole enc Try.prog Try.f5.params.toList Rows.batchChecksSpec.vars false W args.toList ds gs before) (bel : Below W.heap.size W W') :
    Rows.batchChecksSpec.post enc Try.prog Try.f5 false true false false W args (.bool true) W' :=
  law_post (tb := 4) laidOut (by kernel_rfl) Try.underlying4 rfl (by
    intro t ht
    rw [Try.params5] at ht
    simp only [List.mem_cons, List.not_mem_nil, or_false] at ht
    subst ht
    exact ⟨by kernel_rfl, of_decide_eq_true (by kernel_rfl)⟩) (by
    intro ds hd
    have h2 : ds.length = 1 := hd.trans (by kernel_rfl)
    match ds, h2 with
    | [a], _ => exact ⟨rfl, rfl, rfl⟩) hW bel

theorem checks_lifted (os : Os) (started : os.Started) (H : Type) (enc : TypeId × Value → H) (F : Stop.Interp) :
    ReturnsInHanded {} Try.checked os 5 .any ((Rows.OpenSpec.upto Rows.batchChecksSpec).pre6 enc Try.prog Try.f5 Rows.batchChecksUptoRow.domain false) (((Rows.OpenSpec.upto Rows.batchChecksSpec).at F).post enc Try.prog Try.f5 false true false false) := by
  refine returnsInHanded_of_cond_sized (C := Try.checked) (s := Rows.OpenSpec.upto Rows.batchChecksSpec) (k := Rows.uptoSmall) rfl own started (by kernel_rfl) Try.func5
    (OpenSpec.witness (enc := enc) (C := Try.checked) (s := Rows.OpenSpec.upto Rows.batchChecksSpec) (k := Rows.uptoSmall) rfl false ⟨#[], #[.slice none 0 0], []⟩ 12 (by kernel_rfl) (by kernel_rfl) (by kernel_rfl)
      (x := ([.nil], [], [])) (by kernel_rfl) rfl (by kernel_rfl)) ?_
  intro W base args ds gs before hval0 hW _ hk hz _
  have hval : ∀ (j : Nat) t v, Try.f5.params[j]? = some t → args[j]? = some v → Value.okWide Try.prog W .any base t v := hval0
  have hz' : (DataW.weightsEach Try.prog (Try.f5.params.toList ++ Rows.batchChecksSpec.plain.varTypes Try.prog) (ds ++ gs)).all (· ≤ reachBytes) = true := hz
  have hW' := hW
  obtain ⟨p, q, hA0, hV, rfl, hfz, hnd⟩ := hW
  have hA : DataW.TrodAll enc Try.prog W 0 (fun _ => true) true Try.f5.params.toList args.toList ds p := hA0
  rw [Try.params5] at hA hval hz'
  obtain ⟨v0, vs0, d0, ds0, p0, q0, hargs, rfl, rfl, h0, r0⟩ := trodAll_cons hA
  obtain ⟨rfl, rfl, rfl⟩ := trodAll_nil r0
  obtain rfl : args = #[v0] := by cases args; simp_all
  have z0 : ∀ w ∈ d0.weights Try.prog 61, w ≤ reachBytes := by
    simp only [List.cons_append, List.nil_append, DataW.weightsEach, List.all_append, Bool.and_eq_true, List.all_eq_true, decide_eq_true_eq] at hz'
    exact hz'.1
  obtain ⟨l, hl, hm⟩ := in_rowB Try.underlying61 kds61 (hval 0 61 v0 rfl rfl) h0 z0
  have hb : Rows.uptoBulkAll (d0 :: ([] ++ gs)) ≤ 1048576 := of_decide_eq_true hk
  have hN : (pnames l).length ≤ 8796093000000 := by
    have h1 := pnames_le l
    simp only [Rows.uptoBulkAll] at hb
    omega
  have hx := batchChecks_ok (S := Go.AM.start W) (A := fun _ => False) (fun _ h => h.elim) hl hN
  refine (x_top (args := [v0]) hx rfl).mono fun e W' ⟨he, bel⟩ => ?_
  subst he
  exact ⟨_, rfl, checks_post hW' bel⟩

theorem batchChecks_holds : Rows.BatchChecksUptoSaid :=
  OpenClaim.holds_of_cond 5 Try.f5 rfl rfl rfl rfl rfl rfl rfl ⟨rfl, rfl, rfl, rfl, rfl⟩ rfl rfl rfl rfl rfl (by kernel_rfl) Try.func5 (by kernel_rfl)
    (of_decide_eq_true (by kernel_rfl)) (by unfold Func.isWrapper; first | (rw [if_pos (by decide +kernel)]; kernel_rfl) | (rw [if_neg (by decide +kernel)]; exact ⟨rfl, rfl⟩))
    (fun os started H enc _ F => checks_lifted os started H enc F)
end Go.Proofs.Ytaedeadgbojmnaa
