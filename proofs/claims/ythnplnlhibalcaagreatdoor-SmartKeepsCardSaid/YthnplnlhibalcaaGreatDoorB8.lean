/-
  Walks, laid by program.
-/
import Derived.Test.YthnplnlhibalcaaGreatDoorB7
set_option linter.unusedVariables false
set_option linter.unusedSimpArgs false
set_option maxRecDepth 100000
namespace Go.Proofs.YthnplnlhibalcaaGreatDoor
open Go Go.AM

/-- the cells of files -/
def cellsF (o : List (List CT)) : List Value := o.flatMap fun c => c.map CT.val
theorem cellsF_snoc (o : List (List CT)) (c : List CT) : cellsF (o ++ [c]) = cellsF o ++ c.map CT.val := by simp [cellsF, List.flatMap_append]
theorem cellsF_len : ∀ {o : List (List CT)}, (∀ c ∈ o, FileLike c) → (cellsF o).length = o.length * 3
  | [], _ => rfl
  | c :: o, h => by
    obtain ⟨u, n, p, rfl, _⟩ := h c (List.mem_cons_self ..)
    have := cellsF_len (o := o) fun d hd => h d (List.mem_cons_of_mem _ hd)
    simp only [cellsF, List.flatMap_cons, List.length_append, List.length_map, List.length_cons, List.length_nil] at this ⊢
    omega
theorem cellsF_at : ∀ {o : List (List CT)}, (∀ c ∈ o, FileLike c) → ∀ {i : Nat} {c : List CT}, o[i]? = some c → ((cellsF o).drop (i * 3)).take 3 = c.map CT.val
  | [], _, i, c, h => by simp at h
  | d :: o, hF, i, c, h => by
    obtain ⟨u, n, p, rfl, _⟩ := hF d (List.mem_cons_self ..)
    cases i with
    | zero => simp at h; subst h; simp [cellsF]
    | succ i =>
      have := cellsF_at (o := o) (fun d hd => hF d (List.mem_cons_of_mem _ hd)) (i := i) (c := c) (by simpa using h)
      rw [← this]
      simp only [cellsF, List.flatMap_cons, List.map_cons, List.map_nil]
      rw [show (i + 1) * 3 = 3 + i * 3 by omega, ← List.drop_drop]
      rfl
theorem own_files {A : Nat → Prop} {H : AH} {M : Nat} {o : List (List CT)} {ex : Bool} (hg : H.tr.get M = some (.cells (cellsF o) 3 ex)) (hA : A M) (hF : ∀ c ∈ o, FileLike c) (hb : o.length ≤ 1000) : CellA A H (.row 40 k24) (.slice (some ⟨2 * M + 1, 0, none⟩) o.length o.length) (.row o) := by
  refine row_own hg hA rfl rfl (by rw [cellsF_len hF]; exact Nat.le_refl _) (fun i c hc => ?_) (Nat.le_refl _) (by omega) (by omega)
  rw [cellsF_at hF hc]
  obtain ⟨u, n, p, rfl, h1, h2, h3⟩ := hF c (List.mem_of_getElem? hc)
  exact file3_mk h1 h2 h3
def nvF (M : Nat) : List (List CT) → Value
  | [] => .slice none 0 0
  | c :: o => .slice (some ⟨2 * M + 1, 0, none⟩) (c :: o).length (c :: o).length
def nlF (M : Nat) : List (List CT) → OL
  | [] => []
  | c :: o => [(M, .cells (cellsF (c :: o)) 3 false)]
theorem filt_yes {l : List (List CT)} {k : Nat} {c : List CT} {p : List CT → Bool} (h : l[k]? = some c) (hp : p c = true) : (l.take (k + 1)).filter p = (l.take k).filter p ++ [c] := by rw [take_snoc' h, List.filter_append]; simp [hp]
theorem filt_no {l : List (List CT)} {k : Nat} {c : List CT} {p : List CT → Bool} (h : l[k]? = some c) (hp : p c = false) : (l.take (k + 1)).filter p = (l.take k).filter p := by rw [take_snoc' h, List.filter_append]; simp [hp]
theorem filt_files {l : List (List CT)} {k : Nat} {p : List CT → Bool} (h : ∀ c ∈ l, FileLike c) : ∀ c ∈ (l.take k).filter p, FileLike c := fun c hc => h c (List.mem_of_mem_take (List.mem_filter.mp hc).1)
theorem filt_len (l : List (List CT)) (k : Nat) (p : List CT → Bool) : ((l.take k).filter p).length ≤ l.length := by
  have h1 := List.length_filter_le p (l.take k)
  rw [List.length_take] at h1; omega
theorem snoc_len (o : List (List CT)) (c : List CT) : o.length + 1 = (o ++ [c]).length := by simp
theorem snoc_files {o : List (List CT)} {c : List CT} (h : ∀ d ∈ o, FileLike d) (hc : FileLike c) : ∀ d ∈ o ++ [c], FileLike d := fun d hd => by
  rcases List.mem_append.1 hd with h' | h'
  · exact h d h'
  · rw [List.mem_singleton.1 h']; exact hc
set_option maxHeartbeats 4000000 in
theorem radd_ok {S : AH} {A : Nat → Prop} (hA : ∀ j, A j → j < S.nx) {x : Value} {l : List (List CT)} (hx : CellA A S (.row 40 k24) x (.row l)) {u p : ByteArray} {n : Int} (hu : u.size ≤ maxLen) (hn : (Lit.int .i64 n).wf = true) (hp : p.size ≤ maxLen) : XCall Tryz.prog 8 [x, .agg ⟨[.string u, .int .i64 n, .string p]⟩] S (AddRR l [.v (.string u), .v (.int .i64 n), .v (.string p)] A S) := by
  obtain ⟨l2, ax, cx, e2, rfl, rx⟩ := hx.rowD
  cases e2
  have hb := rx.len
  have hfl := row_files rx
  refine x_enter (E := E) (n := 116) (rs := [.tmp 4, .tmp 5]) (l := [(1, _), (0, _)]) (fn_own Tryz.func8 rfl rfl rfl) hA rfl ?_
  refine sx_seq ?_
  refine sx_region (E := E) ?_
  refine so_boxA rfl rfl (fun h => nomatch h) rfl ?_
  intro N3
  refine so_assign rfl rfl rfl ?_
  refine so_assign rfl rfl rfl ?_
  refine so_then ?_
  refine sx_seq ?_
  refine sx_region (E := E) ?_
  refine so_move rfl rfl rfl ?_
  refine so_call rfl rfl (fun h => nomatch h) rfl has10 (by repeat (first | exact Opvs.nil | apply Opvs.cons rfl)) (fun H hH => rcheck_ok hH.lt (CellA.gr hH.gr _ _ _ hx)) ?_
  refine so_assign rfl rfl rfl ?_
  refine so_then ?_
  refine sx_seq ?_
  refine sx_seq ?_
  by_cases he : libE l = 0
  · skip
    refine sx_region (E := E) ?_
    refine so_move rfl rfl rfl ?_
    refine so_bin rfl rfl rfl rfl (by first | exact bin_neq_f (by first | rfl | assumption | omega) | exact bin_neq_t (by first | rfl | assumption | omega)) ?_
    refine so_then ?_
    refine sx_false rfl ?_
    refine sx_skip ?_
    refine sk_then ?_
    refine sx_seq ?_
    refine sx_region (E := E) ?_
    refine so_load rfl rfl rfl (by first | exact ld_ownA Tryz.underlying24 rfl inf24 rfl (by repeat (first | exact List.Mem.head _ | apply List.Mem.tail)) (by first | exact cellsOf_le rfl | exact Nat.le_of_ble_eq_true rfl | decide | omega) (by first | exact cellsOf_all | exact take_all rfl | exact cellsOf_part rfl | rfl) | exact ld_dataA Tryz.underlying24 rfl inf24 rfl (by first | assumption | exact InA.add (by assumption) | exact InA.add (InA.add (by assumption))) (by assumption)) ?_
    refine so_call rfl rfl (fun h => nomatch h) rfl has21 (by repeat (first | exact Opvs.nil | apply Opvs.cons rfl)) (fun H hH => single_ok hu hn hp) ?_
    refine so_assign rfl rfl rfl ?_
    refine so_then ?_
    refine sx_seq ?_
    refine sx_seq ?_
    by_cases hfe : fileE [.v (.string u), .v (.int .i64 n), .v (.string p)] = 0
    · skip
      refine sx_region (E := E) ?_
      refine so_move rfl rfl rfl ?_
      refine so_bin rfl rfl rfl rfl (by first | exact bin_neq_f (by first | rfl | assumption | omega) | exact bin_neq_t (by first | rfl | assumption | omega)) ?_
      refine so_then ?_
      refine sx_false rfl ?_
      refine sx_skip ?_
      refine sk_then ?_
      refine sx_seq ?_
      refine sx_seq ?_
      refine sx_region (E := E) ?_
      refine so_move rfl rfl rfl ?_
      refine so_lenL rfl rfl rfl rfl rfl rfl Tryz.underlying22 ?_
      refine so_move rfl rfl rfl ?_
      refine so_then ?_
      refine sx_block ?_
      refine sx_loop (σ := Nat) (fun k => l.length - k) (fun k => [(0, .slice ax l.length cx), (3, .pointer (some ⟨2 * N3 + 1, 0, none⟩)), (23, .int .i64 ((l.length : Nat) : Int)), (24, .int .i64 ((k : Nat) : Int))]) (fun _ => S) (fun _ => A) (fun _ => [(N3, .cells [.string u, .int .i64 n, .string p] (boxsz E 24) true)]) (fun k => k ≤ l.length ∧ (∀ j d, j < k → l[j]? = some d → ¬ (nmOf d = nmOf [.v (.string u), .v (.int .i64 n), .v (.string p)] ∧ rvOf d = rvOf [.v (.string u), .v (.int .i64 n), .v (.string p)]))) (0) (⟨Nat.zero_le _, fun j d h => absurd h (Nat.not_lt_zero _)⟩) (by repeat (first | exact .nil | refine .cons rfl ?_)) rfl rfl (by repeat (first | exact List.nil_sublist _ | apply List.Sublist.cons_cons | apply List.Sublist.cons)) ?_
      intro s hJ t1
      obtain ⟨hJ, hg⟩ := hJ
      refine sx_seq ?_
      rcases Nat.lt_or_ge s l.length with hk | hk
      · skip
        obtain ⟨qx2, us2, d2, eqx2, ix2, hc2, lx2, kx2⟩ := rx.at' s hk
        cases eqx2
        obtain ⟨u2, n2, p2, rfl, rfl, hu2, hn2, hp2⟩ := file3 kx2
        have lx20 : aload S ((qx2.add (s * 3)).add 0) = some (.string u2) := aloads_at lx2 (j := 0) (by decide)
        have lx21 : aload S ((qx2.add (s * 3)).add 1) = some (.int .i64 n2) := aloads_at lx2 (j := 1) (by decide)
        refine sx_region (E := E) ?_
        refine so_bin rfl rfl rfl rfl (by first | exact bin_lss_t (by omega) | exact bin_lss_f (by omega)) ?_
        refine so_then ?_
        refine sx_seq ?_
        refine sx_true rfl ?_
        refine sx_skip ?_
        refine sk_then ?_
        refine sx_seq ?_
        refine sx_block ?_
        refine sx_seq ?_
        refine sx_region (E := E) ?_
        refine so_move rfl rfl rfl ?_
        refine so_assign rfl rfl rfl ?_
        refine so_then ?_
        refine sx_seq ?_
        rcases eq3 u2.data.toList u.data.toList (n2 = n) with heq | ⟨heq, hh⟩ | ⟨heq, hh⟩
        · skip
          have hno : ¬ (nmOf [.v (.string u2), .v (.int .i64 n2), .v (.string p2)] = nmOf [.v (.string u), .v (.int .i64 n), .v (.string p)] ∧ rvOf [.v (.string u2), .v (.int .i64 n2), .v (.string p2)] = rvOf [.v (.string u), .v (.int .i64 n), .v (.string p)]) := fun h => heq h.1
          refine sx_draw (E := E) mixed [] _ (List.Sublist.refl _) (by kernel_rfl) (by kernel_rfl) (by decide) ?_
          refine so_move rfl rfl rfl ?_
          refine so_move rfl rfl rfl ?_
          first | refine so_indexO rfl rfl rfl rfl Tryz.underlying22 inf24 rfl (by omega) rfl ?_ | refine so_index rfl rfl rfl rfl Tryz.underlying22 inf24 rfl (by omega) ?_
          first | refine so_fieldO rfl rfl rfl Tryz.underlying24 rfl inf9 rfl rfl ?_ | refine so_fieldC rfl rfl rfl Tryz.underlying24 rfl inf9 rfl rfl ?_
          refine so_load rfl rfl rfl (by first | exact ld_own Tryz.underlying9 rfl (by repeat (first | exact List.Mem.head _ | apply List.Mem.tail)) (by first | exact cellsOf_get rfl | rfl) | exact ld_data Tryz.underlying9 rfl (by first | assumption | exact InA.add (by assumption) | exact InA.add (InA.add (by assumption))) (by assumption)) ?_
          refine so_fieldO (o' := 0) rfl rfl rfl Tryz.underlying24 rfl inf9 rfl rfl ?_
          refine so_load rfl rfl rfl (by first | exact ld_own Tryz.underlying9 rfl (by repeat (first | exact List.Mem.head _ | apply List.Mem.tail)) (by first | exact cellsOf_get rfl | rfl) | exact ld_data Tryz.underlying9 rfl (by first | assumption | exact InA.add (by assumption) | exact InA.add (InA.add (by assumption))) (by assumption)) ?_
          refine so_bin rfl rfl rfl rfl (by first | exact bin_seql_t (by first | rfl | assumption | decide) | exact bin_seql_f (by first | rfl | assumption | decide)) ?_
          refine so_move rfl rfl rfl ?_
          first | refine so_move rfl rfl rfl ?_ | refine so_skip rfl rfl rfl ?_
          first | refine so_move rfl rfl rfl ?_ | refine so_skip rfl rfl rfl ?_
          first | refine so_indexO rfl rfl rfl rfl Tryz.underlying22 inf24 rfl (by omega) rfl ?_ | refine so_index rfl rfl rfl rfl Tryz.underlying22 inf24 rfl (by omega) ?_ | refine so_skip rfl rfl rfl ?_
          first | refine so_fieldO rfl rfl rfl Tryz.underlying24 rfl inf3 rfl rfl ?_ | refine so_fieldC rfl rfl rfl Tryz.underlying24 rfl inf3 rfl rfl ?_ | refine so_skip rfl rfl rfl ?_
          first | refine so_load rfl rfl rfl (by first | exact ld_own Tryz.underlying3 rfl (by repeat (first | exact List.Mem.head _ | apply List.Mem.tail)) (by first | exact cellsOf_get rfl | rfl) | exact ld_data Tryz.underlying3 rfl (by first | assumption | exact InA.add (by assumption) | exact InA.add (InA.add (by assumption))) (by assumption)) ?_ | refine so_skip rfl rfl rfl ?_
          first | refine so_fieldO (o' := 1) rfl rfl rfl Tryz.underlying24 rfl inf3 rfl rfl ?_ | refine so_skip rfl rfl rfl ?_
          first | refine so_load rfl rfl rfl (by first | exact ld_own Tryz.underlying3 rfl (by repeat (first | exact List.Mem.head _ | apply List.Mem.tail)) (by first | exact cellsOf_get rfl | rfl) | exact ld_data Tryz.underlying3 rfl (by first | assumption | exact InA.add (by assumption) | exact InA.add (InA.add (by assumption))) (by assumption)) ?_ | refine so_skip rfl rfl rfl ?_
          first | refine so_bin rfl rfl rfl rfl (by first | exact bin_eql_t (by first | rfl | assumption | omega) | exact bin_eql_f (by first | rfl | assumption | omega)) ?_ | refine so_skip rfl rfl rfl ?_
          first | refine so_pick_t rfl rfl rfl rfl ?_ | refine so_pick_f rfl rfl rfl rfl ?_
          refine so_then ?_
          refine sx_false rfl ?_
          refine sx_skip ?_
          refine sk_block ?_
          refine sk_then ?_
          refine sx_region (E := E) ?_
          refine so_bin rfl rfl rfl rfl (by first | exact bin_incr (by omega) | exact bin_add (wrap64 (by omega) (by omega)) | exact bin_add rfl) ?_
          refine so_move rfl rfl rfl ?_
          refine so_nil ?_
          refine sk_round (s + 1) (show l.length - (s + 1) < l.length - s by omega) ⟨by omega, fun j d3 hj hd3 => ?_⟩ (by repeat (first | exact .nil | refine .cons rfl ?_)) rfl rfl (by repeat (first | exact List.nil_sublist _ | apply List.Sublist.cons_cons | apply List.Sublist.cons))
          by_cases e : j = s
          · subst e; rw [hc2] at hd3; cases hd3; exact hno
          · exact hg j d3 (by omega) hd3
        · skip
          refine sx_draw (E := E) mixed [] _ (List.Sublist.refl _) (by kernel_rfl) (by kernel_rfl) (by decide) ?_
          refine so_move rfl rfl rfl ?_
          refine so_move rfl rfl rfl ?_
          first | refine so_indexO rfl rfl rfl rfl Tryz.underlying22 inf24 rfl (by omega) rfl ?_ | refine so_index rfl rfl rfl rfl Tryz.underlying22 inf24 rfl (by omega) ?_
          first | refine so_fieldO rfl rfl rfl Tryz.underlying24 rfl inf9 rfl rfl ?_ | refine so_fieldC rfl rfl rfl Tryz.underlying24 rfl inf9 rfl rfl ?_
          refine so_load rfl rfl rfl (by first | exact ld_own Tryz.underlying9 rfl (by repeat (first | exact List.Mem.head _ | apply List.Mem.tail)) (by first | exact cellsOf_get rfl | rfl) | exact ld_data Tryz.underlying9 rfl (by first | assumption | exact InA.add (by assumption) | exact InA.add (InA.add (by assumption))) (by assumption)) ?_
          refine so_fieldO (o' := 0) rfl rfl rfl Tryz.underlying24 rfl inf9 rfl rfl ?_
          refine so_load rfl rfl rfl (by first | exact ld_own Tryz.underlying9 rfl (by repeat (first | exact List.Mem.head _ | apply List.Mem.tail)) (by first | exact cellsOf_get rfl | rfl) | exact ld_data Tryz.underlying9 rfl (by first | assumption | exact InA.add (by assumption) | exact InA.add (InA.add (by assumption))) (by assumption)) ?_
          refine so_bin rfl rfl rfl rfl (by first | exact bin_seql_t (by first | rfl | assumption | decide) | exact bin_seql_f (by first | rfl | assumption | decide)) ?_
          refine so_move rfl rfl rfl ?_
          first | refine so_move rfl rfl rfl ?_ | refine so_skip rfl rfl rfl ?_
          first | refine so_move rfl rfl rfl ?_ | refine so_skip rfl rfl rfl ?_
          first | refine so_indexO rfl rfl rfl rfl Tryz.underlying22 inf24 rfl (by omega) rfl ?_ | refine so_index rfl rfl rfl rfl Tryz.underlying22 inf24 rfl (by omega) ?_ | refine so_skip rfl rfl rfl ?_
          first | refine so_fieldO rfl rfl rfl Tryz.underlying24 rfl inf3 rfl rfl ?_ | refine so_fieldC rfl rfl rfl Tryz.underlying24 rfl inf3 rfl rfl ?_ | refine so_skip rfl rfl rfl ?_
          first | refine so_load rfl rfl rfl (by first | exact ld_own Tryz.underlying3 rfl (by repeat (first | exact List.Mem.head _ | apply List.Mem.tail)) (by first | exact cellsOf_get rfl | rfl) | exact ld_data Tryz.underlying3 rfl (by first | assumption | exact InA.add (by assumption) | exact InA.add (InA.add (by assumption))) (by assumption)) ?_ | refine so_skip rfl rfl rfl ?_
          first | refine so_fieldO (o' := 1) rfl rfl rfl Tryz.underlying24 rfl inf3 rfl rfl ?_ | refine so_skip rfl rfl rfl ?_
          first | refine so_load rfl rfl rfl (by first | exact ld_own Tryz.underlying3 rfl (by repeat (first | exact List.Mem.head _ | apply List.Mem.tail)) (by first | exact cellsOf_get rfl | rfl) | exact ld_data Tryz.underlying3 rfl (by first | assumption | exact InA.add (by assumption) | exact InA.add (InA.add (by assumption))) (by assumption)) ?_ | refine so_skip rfl rfl rfl ?_
          first | refine so_bin rfl rfl rfl rfl (by first | exact bin_eql_t (by first | rfl | assumption | omega) | exact bin_eql_f (by first | rfl | assumption | omega)) ?_ | refine so_skip rfl rfl rfl ?_
          first | refine so_pick_t rfl rfl rfl rfl ?_ | refine so_pick_f rfl rfl rfl rfl ?_
          refine so_then ?_
          refine sx_true rfl ?_
          refine sx_seq ?_
          refine sx_region (E := E) ?_
          refine so_assign rfl rfl rfl ?_
          refine so_assign rfl rfl rfl ?_
          refine so_then ?_
          refine sx_ret ?_
          refine sk_block_ret ?_
          refine sk_then_ret ?_
          refine sk_loop_ret ?_
          refine sk_block_ret ?_
          refine sk_then_ret ?_
          refine sk_return2 (.tmp rfl (.tmp rfl .nil)) ?_
          exact fun H hH => addErr hH (addE_dup he hfe (dupB_found hc2 heq hh)) (by decide)
        · skip
          have hno : ¬ (nmOf [.v (.string u2), .v (.int .i64 n2), .v (.string p2)] = nmOf [.v (.string u), .v (.int .i64 n), .v (.string p)] ∧ rvOf [.v (.string u2), .v (.int .i64 n2), .v (.string p2)] = rvOf [.v (.string u), .v (.int .i64 n), .v (.string p)]) := fun h => hh h.2
          refine sx_draw (E := E) mixed [] _ (List.Sublist.refl _) (by kernel_rfl) (by kernel_rfl) (by decide) ?_
          refine so_move rfl rfl rfl ?_
          refine so_move rfl rfl rfl ?_
          first | refine so_indexO rfl rfl rfl rfl Tryz.underlying22 inf24 rfl (by omega) rfl ?_ | refine so_index rfl rfl rfl rfl Tryz.underlying22 inf24 rfl (by omega) ?_
          first | refine so_fieldO rfl rfl rfl Tryz.underlying24 rfl inf9 rfl rfl ?_ | refine so_fieldC rfl rfl rfl Tryz.underlying24 rfl inf9 rfl rfl ?_
          refine so_load rfl rfl rfl (by first | exact ld_own Tryz.underlying9 rfl (by repeat (first | exact List.Mem.head _ | apply List.Mem.tail)) (by first | exact cellsOf_get rfl | rfl) | exact ld_data Tryz.underlying9 rfl (by first | assumption | exact InA.add (by assumption) | exact InA.add (InA.add (by assumption))) (by assumption)) ?_
          refine so_fieldO (o' := 0) rfl rfl rfl Tryz.underlying24 rfl inf9 rfl rfl ?_
          refine so_load rfl rfl rfl (by first | exact ld_own Tryz.underlying9 rfl (by repeat (first | exact List.Mem.head _ | apply List.Mem.tail)) (by first | exact cellsOf_get rfl | rfl) | exact ld_data Tryz.underlying9 rfl (by first | assumption | exact InA.add (by assumption) | exact InA.add (InA.add (by assumption))) (by assumption)) ?_
          refine so_bin rfl rfl rfl rfl (by first | exact bin_seql_t (by first | rfl | assumption | decide) | exact bin_seql_f (by first | rfl | assumption | decide)) ?_
          refine so_move rfl rfl rfl ?_
          first | refine so_move rfl rfl rfl ?_ | refine so_skip rfl rfl rfl ?_
          first | refine so_move rfl rfl rfl ?_ | refine so_skip rfl rfl rfl ?_
          first | refine so_indexO rfl rfl rfl rfl Tryz.underlying22 inf24 rfl (by omega) rfl ?_ | refine so_index rfl rfl rfl rfl Tryz.underlying22 inf24 rfl (by omega) ?_ | refine so_skip rfl rfl rfl ?_
          first | refine so_fieldO rfl rfl rfl Tryz.underlying24 rfl inf3 rfl rfl ?_ | refine so_fieldC rfl rfl rfl Tryz.underlying24 rfl inf3 rfl rfl ?_ | refine so_skip rfl rfl rfl ?_
          first | refine so_load rfl rfl rfl (by first | exact ld_own Tryz.underlying3 rfl (by repeat (first | exact List.Mem.head _ | apply List.Mem.tail)) (by first | exact cellsOf_get rfl | rfl) | exact ld_data Tryz.underlying3 rfl (by first | assumption | exact InA.add (by assumption) | exact InA.add (InA.add (by assumption))) (by assumption)) ?_ | refine so_skip rfl rfl rfl ?_
          first | refine so_fieldO (o' := 1) rfl rfl rfl Tryz.underlying24 rfl inf3 rfl rfl ?_ | refine so_skip rfl rfl rfl ?_
          first | refine so_load rfl rfl rfl (by first | exact ld_own Tryz.underlying3 rfl (by repeat (first | exact List.Mem.head _ | apply List.Mem.tail)) (by first | exact cellsOf_get rfl | rfl) | exact ld_data Tryz.underlying3 rfl (by first | assumption | exact InA.add (by assumption) | exact InA.add (InA.add (by assumption))) (by assumption)) ?_ | refine so_skip rfl rfl rfl ?_
          first | refine so_bin rfl rfl rfl rfl (by first | exact bin_eql_t (by first | rfl | assumption | omega) | exact bin_eql_f (by first | rfl | assumption | omega)) ?_ | refine so_skip rfl rfl rfl ?_
          first | refine so_pick_t rfl rfl rfl rfl ?_ | refine so_pick_f rfl rfl rfl rfl ?_
          refine so_then ?_
          refine sx_false rfl ?_
          refine sx_skip ?_
          refine sk_block ?_
          refine sk_then ?_
          refine sx_region (E := E) ?_
          refine so_bin rfl rfl rfl rfl (by first | exact bin_incr (by omega) | exact bin_add (wrap64 (by omega) (by omega)) | exact bin_add rfl) ?_
          refine so_move rfl rfl rfl ?_
          refine so_nil ?_
          refine sk_round (s + 1) (show l.length - (s + 1) < l.length - s by omega) ⟨by omega, fun j d3 hj hd3 => ?_⟩ (by repeat (first | exact .nil | refine .cons rfl ?_)) rfl rfl (by repeat (first | exact List.nil_sublist _ | apply List.Sublist.cons_cons | apply List.Sublist.cons))
          by_cases e : j = s
          · subst e; rw [hc2] at hd3; cases hd3; exact hno
          · exact hg j d3 (by omega) hd3
      · skip
        have hdp := dupB_none (f := [.v (.string u), .v (.int .i64 n), .v (.string p)]) fun j c h1 h2 => hg j c (by omega) h2
        refine sx_region (E := E) ?_
        refine so_bin rfl rfl rfl rfl (by first | exact bin_lss_t (by omega) | exact bin_lss_f (by omega)) ?_
        refine so_then ?_
        refine sx_seq ?_
        refine sx_false rfl ?_
        refine sx_exit ?_
        refine sk_then_exit ?_
        refine sk_loop_exit ?_
        refine sk_block_exit ?_
        refine sk_then ?_
        refine sx_seq ?_
        refine sx_seq ?_
        refine sx_region (E := E) ?_
        refine so_move rfl rfl rfl ?_
        refine so_lenL rfl rfl rfl rfl rfl rfl Tryz.underlying22 ?_
        refine so_move rfl rfl rfl ?_
        refine so_then ?_
        refine sx_block ?_
        refine sx_loop (σ := Nat) (fun k => l.length - k) (fun k => [(0, .slice ax l.length cx), (3, .pointer (some ⟨2 * N3 + 1, 0, none⟩)), (47, .int .i64 ((l.length : Nat) : Int)), (48, .int .i64 ((k : Nat) : Int))]) (fun _ => S) (fun _ => A) (fun _ => [(N3, .cells [.string u, .int .i64 n, .string p] (boxsz E 24) true)]) (fun k => k ≤ l.length ∧ (∀ j d, j < k → l[j]? = some d → ¬ (nmOf d = nmOf [.v (.string u), .v (.int .i64 n), .v (.string p)] ∧ rvOf [.v (.string u), .v (.int .i64 n), .v (.string p)] < rvOf d))) (0) (⟨Nat.zero_le _, fun j d h => absurd h (Nat.not_lt_zero _)⟩) (by repeat (first | exact .nil | refine .cons rfl ?_)) rfl rfl (by repeat (first | exact List.nil_sublist _ | apply List.Sublist.cons_cons | apply List.Sublist.cons)) ?_
        intro s hJ t2
        obtain ⟨hJ, hg⟩ := hJ
        refine sx_seq ?_
        rcases Nat.lt_or_ge s l.length with hk | hk
        · skip
          obtain ⟨qx2, us2, d2, eqx2, ix2, hc2, lx2, kx2⟩ := rx.at' s hk
          cases eqx2
          obtain ⟨u2, n2, p2, rfl, rfl, hu2, hn2, hp2⟩ := file3 kx2
          have lx20 : aload S ((qx2.add (s * 3)).add 0) = some (.string u2) := aloads_at lx2 (j := 0) (by decide)
          have lx21 : aload S ((qx2.add (s * 3)).add 1) = some (.int .i64 n2) := aloads_at lx2 (j := 1) (by decide)
          refine sx_region (E := E) ?_
          refine so_bin rfl rfl rfl rfl (by first | exact bin_lss_t (by omega) | exact bin_lss_f (by omega)) ?_
          refine so_then ?_
          refine sx_seq ?_
          refine sx_true rfl ?_
          refine sx_skip ?_
          refine sk_then ?_
          refine sx_seq ?_
          refine sx_block ?_
          refine sx_seq ?_
          refine sx_region (E := E) ?_
          refine so_move rfl rfl rfl ?_
          refine so_assign rfl rfl rfl ?_
          refine so_then ?_
          refine sx_seq ?_
          rcases eq3 u2.data.toList u.data.toList (n < n2) with heq | ⟨heq, hh⟩ | ⟨heq, hh⟩
          · skip
            have hno : ¬ (nmOf [.v (.string u2), .v (.int .i64 n2), .v (.string p2)] = nmOf [.v (.string u), .v (.int .i64 n), .v (.string p)] ∧ rvOf [.v (.string u), .v (.int .i64 n), .v (.string p)] < rvOf [.v (.string u2), .v (.int .i64 n2), .v (.string p2)]) := fun h => heq h.1
            refine sx_draw (E := E) mixed [] _ (List.Sublist.refl _) (by kernel_rfl) (by kernel_rfl) (by decide) ?_
            refine so_move rfl rfl rfl ?_
            refine so_move rfl rfl rfl ?_
            first | refine so_indexO rfl rfl rfl rfl Tryz.underlying22 inf24 rfl (by omega) rfl ?_ | refine so_index rfl rfl rfl rfl Tryz.underlying22 inf24 rfl (by omega) ?_
            first | refine so_fieldO rfl rfl rfl Tryz.underlying24 rfl inf9 rfl rfl ?_ | refine so_fieldC rfl rfl rfl Tryz.underlying24 rfl inf9 rfl rfl ?_
            refine so_load rfl rfl rfl (by first | exact ld_own Tryz.underlying9 rfl (by repeat (first | exact List.Mem.head _ | apply List.Mem.tail)) (by first | exact cellsOf_get rfl | rfl) | exact ld_data Tryz.underlying9 rfl (by first | assumption | exact InA.add (by assumption) | exact InA.add (InA.add (by assumption))) (by assumption)) ?_
            refine so_fieldO (o' := 0) rfl rfl rfl Tryz.underlying24 rfl inf9 rfl rfl ?_
            refine so_load rfl rfl rfl (by first | exact ld_own Tryz.underlying9 rfl (by repeat (first | exact List.Mem.head _ | apply List.Mem.tail)) (by first | exact cellsOf_get rfl | rfl) | exact ld_data Tryz.underlying9 rfl (by first | assumption | exact InA.add (by assumption) | exact InA.add (InA.add (by assumption))) (by assumption)) ?_
            refine so_bin rfl rfl rfl rfl (by first | exact bin_seql_t (by first | rfl | assumption | decide) | exact bin_seql_f (by first | rfl | assumption | decide)) ?_
            refine so_move rfl rfl rfl ?_
            first | refine so_move rfl rfl rfl ?_ | refine so_skip rfl rfl rfl ?_
            first | refine so_move rfl rfl rfl ?_ | refine so_skip rfl rfl rfl ?_
            first | refine so_indexO rfl rfl rfl rfl Tryz.underlying22 inf24 rfl (by omega) rfl ?_ | refine so_index rfl rfl rfl rfl Tryz.underlying22 inf24 rfl (by omega) ?_ | refine so_skip rfl rfl rfl ?_
            first | refine so_fieldO rfl rfl rfl Tryz.underlying24 rfl inf3 rfl rfl ?_ | refine so_fieldC rfl rfl rfl Tryz.underlying24 rfl inf3 rfl rfl ?_ | refine so_skip rfl rfl rfl ?_
            first | refine so_load rfl rfl rfl (by first | exact ld_own Tryz.underlying3 rfl (by repeat (first | exact List.Mem.head _ | apply List.Mem.tail)) (by first | exact cellsOf_get rfl | rfl) | exact ld_data Tryz.underlying3 rfl (by first | assumption | exact InA.add (by assumption) | exact InA.add (InA.add (by assumption))) (by assumption)) ?_ | refine so_skip rfl rfl rfl ?_
            first | refine so_fieldO (o' := 1) rfl rfl rfl Tryz.underlying24 rfl inf3 rfl rfl ?_ | refine so_skip rfl rfl rfl ?_
            first | refine so_load rfl rfl rfl (by first | exact ld_own Tryz.underlying3 rfl (by repeat (first | exact List.Mem.head _ | apply List.Mem.tail)) (by first | exact cellsOf_get rfl | rfl) | exact ld_data Tryz.underlying3 rfl (by first | assumption | exact InA.add (by assumption) | exact InA.add (InA.add (by assumption))) (by assumption)) ?_ | refine so_skip rfl rfl rfl ?_
            first | refine so_bin rfl rfl rfl rfl (by first | exact bin_gtr_t (by omega) | exact bin_gtr_f (by omega)) ?_ | refine so_skip rfl rfl rfl ?_
            first | refine so_pick_t rfl rfl rfl rfl ?_ | refine so_pick_f rfl rfl rfl rfl ?_
            refine so_then ?_
            refine sx_false rfl ?_
            refine sx_skip ?_
            refine sk_block ?_
            refine sk_then ?_
            refine sx_region (E := E) ?_
            refine so_bin rfl rfl rfl rfl (by first | exact bin_incr (by omega) | exact bin_add (wrap64 (by omega) (by omega)) | exact bin_add rfl) ?_
            refine so_move rfl rfl rfl ?_
            refine so_nil ?_
            refine sk_round (s + 1) (show l.length - (s + 1) < l.length - s by omega) ⟨by omega, fun j d3 hj hd3 => ?_⟩ (by repeat (first | exact .nil | refine .cons rfl ?_)) rfl rfl (by repeat (first | exact List.nil_sublist _ | apply List.Sublist.cons_cons | apply List.Sublist.cons))
            by_cases e : j = s
            · subst e; rw [hc2] at hd3; cases hd3; exact hno
            · exact hg j d3 (by omega) hd3
          · skip
            refine sx_draw (E := E) mixed [] _ (List.Sublist.refl _) (by kernel_rfl) (by kernel_rfl) (by decide) ?_
            refine so_move rfl rfl rfl ?_
            refine so_move rfl rfl rfl ?_
            first | refine so_indexO rfl rfl rfl rfl Tryz.underlying22 inf24 rfl (by omega) rfl ?_ | refine so_index rfl rfl rfl rfl Tryz.underlying22 inf24 rfl (by omega) ?_
            first | refine so_fieldO rfl rfl rfl Tryz.underlying24 rfl inf9 rfl rfl ?_ | refine so_fieldC rfl rfl rfl Tryz.underlying24 rfl inf9 rfl rfl ?_
            refine so_load rfl rfl rfl (by first | exact ld_own Tryz.underlying9 rfl (by repeat (first | exact List.Mem.head _ | apply List.Mem.tail)) (by first | exact cellsOf_get rfl | rfl) | exact ld_data Tryz.underlying9 rfl (by first | assumption | exact InA.add (by assumption) | exact InA.add (InA.add (by assumption))) (by assumption)) ?_
            refine so_fieldO (o' := 0) rfl rfl rfl Tryz.underlying24 rfl inf9 rfl rfl ?_
            refine so_load rfl rfl rfl (by first | exact ld_own Tryz.underlying9 rfl (by repeat (first | exact List.Mem.head _ | apply List.Mem.tail)) (by first | exact cellsOf_get rfl | rfl) | exact ld_data Tryz.underlying9 rfl (by first | assumption | exact InA.add (by assumption) | exact InA.add (InA.add (by assumption))) (by assumption)) ?_
            refine so_bin rfl rfl rfl rfl (by first | exact bin_seql_t (by first | rfl | assumption | decide) | exact bin_seql_f (by first | rfl | assumption | decide)) ?_
            refine so_move rfl rfl rfl ?_
            first | refine so_move rfl rfl rfl ?_ | refine so_skip rfl rfl rfl ?_
            first | refine so_move rfl rfl rfl ?_ | refine so_skip rfl rfl rfl ?_
            first | refine so_indexO rfl rfl rfl rfl Tryz.underlying22 inf24 rfl (by omega) rfl ?_ | refine so_index rfl rfl rfl rfl Tryz.underlying22 inf24 rfl (by omega) ?_ | refine so_skip rfl rfl rfl ?_
            first | refine so_fieldO rfl rfl rfl Tryz.underlying24 rfl inf3 rfl rfl ?_ | refine so_fieldC rfl rfl rfl Tryz.underlying24 rfl inf3 rfl rfl ?_ | refine so_skip rfl rfl rfl ?_
            first | refine so_load rfl rfl rfl (by first | exact ld_own Tryz.underlying3 rfl (by repeat (first | exact List.Mem.head _ | apply List.Mem.tail)) (by first | exact cellsOf_get rfl | rfl) | exact ld_data Tryz.underlying3 rfl (by first | assumption | exact InA.add (by assumption) | exact InA.add (InA.add (by assumption))) (by assumption)) ?_ | refine so_skip rfl rfl rfl ?_
            first | refine so_fieldO (o' := 1) rfl rfl rfl Tryz.underlying24 rfl inf3 rfl rfl ?_ | refine so_skip rfl rfl rfl ?_
            first | refine so_load rfl rfl rfl (by first | exact ld_own Tryz.underlying3 rfl (by repeat (first | exact List.Mem.head _ | apply List.Mem.tail)) (by first | exact cellsOf_get rfl | rfl) | exact ld_data Tryz.underlying3 rfl (by first | assumption | exact InA.add (by assumption) | exact InA.add (InA.add (by assumption))) (by assumption)) ?_ | refine so_skip rfl rfl rfl ?_
            first | refine so_bin rfl rfl rfl rfl (by first | exact bin_gtr_t (by omega) | exact bin_gtr_f (by omega)) ?_ | refine so_skip rfl rfl rfl ?_
            first | refine so_pick_t rfl rfl rfl rfl ?_ | refine so_pick_f rfl rfl rfl rfl ?_
            refine so_then ?_
            refine sx_true rfl ?_
            refine sx_seq ?_
            refine sx_region (E := E) ?_
            refine so_assign rfl rfl rfl ?_
            refine so_assign rfl rfl rfl ?_
            refine so_then ?_
            refine sx_ret ?_
            refine sk_block_ret ?_
            refine sk_then_ret ?_
            refine sk_loop_ret ?_
            refine sk_block_ret ?_
            refine sk_then_ret ?_
            refine sk_return2 (.tmp rfl (.tmp rfl .nil)) ?_
            exact fun H hH => addErr hH (addE_sta he hfe hdp (staB_found hc2 heq hh)) (by decide)
          · skip
            have hno : ¬ (nmOf [.v (.string u2), .v (.int .i64 n2), .v (.string p2)] = nmOf [.v (.string u), .v (.int .i64 n), .v (.string p)] ∧ rvOf [.v (.string u), .v (.int .i64 n), .v (.string p)] < rvOf [.v (.string u2), .v (.int .i64 n2), .v (.string p2)]) := fun h => hh h.2
            refine sx_draw (E := E) mixed [] _ (List.Sublist.refl _) (by kernel_rfl) (by kernel_rfl) (by decide) ?_
            refine so_move rfl rfl rfl ?_
            refine so_move rfl rfl rfl ?_
            first | refine so_indexO rfl rfl rfl rfl Tryz.underlying22 inf24 rfl (by omega) rfl ?_ | refine so_index rfl rfl rfl rfl Tryz.underlying22 inf24 rfl (by omega) ?_
            first | refine so_fieldO rfl rfl rfl Tryz.underlying24 rfl inf9 rfl rfl ?_ | refine so_fieldC rfl rfl rfl Tryz.underlying24 rfl inf9 rfl rfl ?_
            refine so_load rfl rfl rfl (by first | exact ld_own Tryz.underlying9 rfl (by repeat (first | exact List.Mem.head _ | apply List.Mem.tail)) (by first | exact cellsOf_get rfl | rfl) | exact ld_data Tryz.underlying9 rfl (by first | assumption | exact InA.add (by assumption) | exact InA.add (InA.add (by assumption))) (by assumption)) ?_
            refine so_fieldO (o' := 0) rfl rfl rfl Tryz.underlying24 rfl inf9 rfl rfl ?_
            refine so_load rfl rfl rfl (by first | exact ld_own Tryz.underlying9 rfl (by repeat (first | exact List.Mem.head _ | apply List.Mem.tail)) (by first | exact cellsOf_get rfl | rfl) | exact ld_data Tryz.underlying9 rfl (by first | assumption | exact InA.add (by assumption) | exact InA.add (InA.add (by assumption))) (by assumption)) ?_
            refine so_bin rfl rfl rfl rfl (by first | exact bin_seql_t (by first | rfl | assumption | decide) | exact bin_seql_f (by first | rfl | assumption | decide)) ?_
            refine so_move rfl rfl rfl ?_
            first | refine so_move rfl rfl rfl ?_ | refine so_skip rfl rfl rfl ?_
            first | refine so_move rfl rfl rfl ?_ | refine so_skip rfl rfl rfl ?_
            first | refine so_indexO rfl rfl rfl rfl Tryz.underlying22 inf24 rfl (by omega) rfl ?_ | refine so_index rfl rfl rfl rfl Tryz.underlying22 inf24 rfl (by omega) ?_ | refine so_skip rfl rfl rfl ?_
            first | refine so_fieldO rfl rfl rfl Tryz.underlying24 rfl inf3 rfl rfl ?_ | refine so_fieldC rfl rfl rfl Tryz.underlying24 rfl inf3 rfl rfl ?_ | refine so_skip rfl rfl rfl ?_
            first | refine so_load rfl rfl rfl (by first | exact ld_own Tryz.underlying3 rfl (by repeat (first | exact List.Mem.head _ | apply List.Mem.tail)) (by first | exact cellsOf_get rfl | rfl) | exact ld_data Tryz.underlying3 rfl (by first | assumption | exact InA.add (by assumption) | exact InA.add (InA.add (by assumption))) (by assumption)) ?_ | refine so_skip rfl rfl rfl ?_
            first | refine so_fieldO (o' := 1) rfl rfl rfl Tryz.underlying24 rfl inf3 rfl rfl ?_ | refine so_skip rfl rfl rfl ?_
            first | refine so_load rfl rfl rfl (by first | exact ld_own Tryz.underlying3 rfl (by repeat (first | exact List.Mem.head _ | apply List.Mem.tail)) (by first | exact cellsOf_get rfl | rfl) | exact ld_data Tryz.underlying3 rfl (by first | assumption | exact InA.add (by assumption) | exact InA.add (InA.add (by assumption))) (by assumption)) ?_ | refine so_skip rfl rfl rfl ?_
            first | refine so_bin rfl rfl rfl rfl (by first | exact bin_gtr_t (by omega) | exact bin_gtr_f (by omega)) ?_ | refine so_skip rfl rfl rfl ?_
            first | refine so_pick_t rfl rfl rfl rfl ?_ | refine so_pick_f rfl rfl rfl rfl ?_
            refine so_then ?_
            refine sx_false rfl ?_
            refine sx_skip ?_
            refine sk_block ?_
            refine sk_then ?_
            refine sx_region (E := E) ?_
            refine so_bin rfl rfl rfl rfl (by first | exact bin_incr (by omega) | exact bin_add (wrap64 (by omega) (by omega)) | exact bin_add rfl) ?_
            refine so_move rfl rfl rfl ?_
            refine so_nil ?_
            refine sk_round (s + 1) (show l.length - (s + 1) < l.length - s by omega) ⟨by omega, fun j d3 hj hd3 => ?_⟩ (by repeat (first | exact .nil | refine .cons rfl ?_)) rfl rfl (by repeat (first | exact List.nil_sublist _ | apply List.Sublist.cons_cons | apply List.Sublist.cons))
            by_cases e : j = s
            · subst e; rw [hc2] at hd3; cases hd3; exact hno
            · exact hg j d3 (by omega) hd3
        · skip
          have hsb := staB_none (f := [.v (.string u), .v (.int .i64 n), .v (.string p)]) fun j c h1 h2 => hg j c (by omega) h2
          refine sx_region (E := E) ?_
          refine so_bin rfl rfl rfl rfl (by first | exact bin_lss_t (by omega) | exact bin_lss_f (by omega)) ?_
          refine so_then ?_
          refine sx_seq ?_
          refine sx_false rfl ?_
          refine sx_exit ?_
          refine sk_then_exit ?_
          refine sk_loop_exit ?_
          refine sk_block_exit ?_
          refine sk_then ?_
          refine sx_seq ?_
          refine sx_seq ?_
          by_cases h256 : l.length = 256
          · skip
            refine sx_region (E := E) ?_
            refine so_move rfl rfl rfl ?_
            refine so_lenL rfl rfl rfl rfl rfl rfl Tryz.underlying22 ?_
            refine so_bin rfl rfl rfl rfl (by first | exact bin_eql_t (by first | rfl | assumption | omega) | exact bin_eql_f (by first | rfl | assumption | omega)) ?_
            refine so_then ?_
            refine sx_true rfl ?_
            refine sx_seq ?_
            refine sx_region (E := E) ?_
            refine so_assign rfl rfl rfl ?_
            refine so_assign rfl rfl rfl ?_
            refine so_then ?_
            refine sx_ret ?_
            refine sk_then_ret ?_
            refine sk_return2 (.tmp rfl (.tmp rfl .nil)) ?_
            exact fun H hH => addErr hH (addE_lim he hfe hdp hsb (by omega)) (by decide)
          · skip
            obtain ⟨h256a, _, hsorted⟩ := libE_sorted he
            have h256b : l.length < 256 := by omega
            refine sx_region (E := E) ?_
            refine so_move rfl rfl rfl ?_
            refine so_lenL rfl rfl rfl rfl rfl rfl Tryz.underlying22 ?_
            refine so_bin rfl rfl rfl rfl (by first | exact bin_eql_t (by first | rfl | assumption | omega) | exact bin_eql_f (by first | rfl | assumption | omega)) ?_
            refine so_then ?_
            refine sx_false rfl ?_
            refine sx_skip ?_
            refine sk_then ?_
            refine sx_seq ?_
            refine sx_region (E := E) ?_
            refine so_assign rfl rfl rfl ?_
            refine so_then ?_
            refine sx_seq ?_
            refine sx_seq ?_
            refine sx_region (E := E) ?_
            refine so_move rfl rfl rfl ?_
            refine so_lenL rfl rfl rfl rfl rfl rfl Tryz.underlying22 ?_
            refine so_move rfl rfl rfl ?_
            refine so_then ?_
            refine sx_block ?_
            refine sx_loop (σ := Nat × Nat × List (List CT)) (fun z => l.length - z.1) (fun z => [(0, .slice ax l.length cx), (3, .pointer (some ⟨2 * N3 + 1, 0, none⟩)), (9, nvF z.2.1 z.2.2), (74, .int .i64 ((l.length : Nat) : Int)), (75, .int .i64 ((z.1 : Nat) : Int))]) (fun _ => S) (fun _ => A) (fun z => nlF z.2.1 z.2.2 ++ [(N3, .cells [.string u, .int .i64 n, .string p] (boxsz E 24) true)]) (fun z => z.1 ≤ l.length ∧ z.2.2 = (l.take z.1).filter (befB · [.v (.string u), .v (.int .i64 n), .v (.string p)])) ((0, 0, [])) (⟨Nat.zero_le _, rfl⟩) (by repeat (first | exact .nil | refine .cons rfl ?_)) rfl rfl (by repeat (first | exact List.nil_sublist _ | apply List.Sublist.cons_cons | apply List.Sublist.cons)) ?_
            intro z3 hJ2 t3
            obtain ⟨k, M, o⟩ := z3
            obtain ⟨hJ, ho⟩ := hJ2
            dsimp only at hJ ho ⊢
            refine sx_seq ?_
            rcases Nat.lt_or_ge k l.length with hk | hk
            · skip
              obtain ⟨qx2, us2, d2, eqx2, ix2, hc2, lx2, kx2⟩ := rx.at' k hk
              cases eqx2
              obtain ⟨u2, n2, p2, rfl, rfl, hu2, hn2, hp2⟩ := file3 kx2
              have hoF : ∀ c ∈ o, FileLike c := by rw [ho]; exact filt_files hfl
              have hol : o.length ≤ l.length := by rw [ho]; exact filt_len _ _ _
              refine sx_region (E := E) ?_
              refine so_bin rfl rfl rfl rfl (by first | exact bin_lss_t (by omega) | exact bin_lss_f (by omega)) ?_
              refine so_then ?_
              refine sx_seq ?_
              refine sx_true rfl ?_
              refine sx_skip ?_
              refine sk_then ?_
              refine sx_seq ?_
              refine sx_block ?_
              refine sx_seq ?_
              refine sx_region (E := E) ?_
              refine so_move rfl rfl rfl ?_
              refine so_assign rfl rfl rfl ?_
              refine so_then ?_
              refine sx_seq ?_
              cases hbf : befB [.v (.string u2), .v (.int .i64 n2), .v (.string p2)] [.v (.string u), .v (.int .i64 n), .v (.string p)]
              · skip
                refine sx_draw (E := E) mixed [5] _ (List.Sublist.refl _) (by kernel_rfl) (by kernel_rfl) (by decide) ?_
                refine so_move rfl rfl rfl ?_
                refine so_move rfl rfl rfl ?_
                first | refine so_indexO rfl rfl rfl rfl Tryz.underlying22 inf24 rfl (by omega) rfl ?_ | refine so_index rfl rfl rfl rfl Tryz.underlying22 inf24 rfl (by omega) ?_
                refine so_load rfl rfl rfl (by first | exact ld_ownA Tryz.underlying24 rfl inf24 rfl (by repeat (first | exact List.Mem.head _ | apply List.Mem.tail)) (by first | exact cellsOf_le rfl | exact Nat.le_of_ble_eq_true rfl | decide | omega) (by first | exact cellsOf_all | exact take_all rfl | exact cellsOf_part rfl | rfl) | exact ld_dataA Tryz.underlying24 rfl inf24 rfl (by first | assumption | exact InA.add (by assumption) | exact InA.add (InA.add (by assumption))) (by assumption)) ?_
                refine so_load rfl rfl rfl (by first | exact ld_ownA Tryz.underlying24 rfl inf24 rfl (List.mem_append_right _ (List.Mem.head _)) (by first | exact cellsOf_le rfl | exact Nat.le_of_ble_eq_true rfl | decide) (by first | exact cellsOf_all | exact take_all rfl | rfl) | exact ld_ownA Tryz.underlying24 rfl inf24 rfl (by repeat (first | exact List.Mem.head _ | apply List.Mem.tail)) (by first | exact cellsOf_le rfl | exact Nat.le_of_ble_eq_true rfl | decide | omega) (by first | exact cellsOf_all | exact take_all rfl | exact cellsOf_part rfl | rfl) | exact ld_dataA Tryz.underlying24 rfl inf24 rfl (by first | assumption | exact InA.add (by assumption) | exact InA.add (InA.add (by assumption))) (by assumption)) ?_
                refine so_call rfl rfl (fun _ => (by repeat (first | exact List.Mem.head _ | apply List.Mem.tail))) rfl has22 (by repeat (first | exact Opvs.nil | apply Opvs.cons rfl)) (fun H hH => (rbefore_ok u2 p2 u p n2 n).b hbf) ?_
                refine so_then ?_
                refine sx_false rfl ?_
                refine sx_skip ?_
                refine sk_block ?_
                refine sk_then ?_
                refine sx_region (E := E) ?_
                refine so_bin rfl rfl rfl rfl (by first | exact bin_incr (by omega) | exact bin_add (wrap64 (by omega) (by omega)) | exact bin_add rfl) ?_
                refine so_move rfl rfl rfl ?_
                refine so_nil ?_
                exact sk_round (k + 1, M, o) (show l.length - (k + 1) < l.length - k by omega) ⟨show k + 1 ≤ l.length by omega, by (rw [filt_no (p := (befB · [.v (.string u), .v (.int .i64 n), .v (.string p)])) hc2 hbf, ← ho]) <;> rfl⟩ (by repeat (first | exact .nil | refine .cons rfl ?_)) rfl rfl (by first | exact List.Sublist.refl _ | exact (by repeat (first | exact List.nil_sublist _ | apply List.Sublist.cons_cons | apply List.Sublist.cons)))
              · skip
                refine sx_draw (E := E) mixed [5] _ (List.Sublist.refl _) (by kernel_rfl) (by kernel_rfl) (by decide) ?_
                refine so_move rfl rfl rfl ?_
                refine so_move rfl rfl rfl ?_
                first | refine so_indexO rfl rfl rfl rfl Tryz.underlying22 inf24 rfl (by omega) rfl ?_ | refine so_index rfl rfl rfl rfl Tryz.underlying22 inf24 rfl (by omega) ?_
                refine so_load rfl rfl rfl (by first | exact ld_ownA Tryz.underlying24 rfl inf24 rfl (by repeat (first | exact List.Mem.head _ | apply List.Mem.tail)) (by first | exact cellsOf_le rfl | exact Nat.le_of_ble_eq_true rfl | decide | omega) (by first | exact cellsOf_all | exact take_all rfl | exact cellsOf_part rfl | rfl) | exact ld_dataA Tryz.underlying24 rfl inf24 rfl (by first | assumption | exact InA.add (by assumption) | exact InA.add (InA.add (by assumption))) (by assumption)) ?_
                refine so_load rfl rfl rfl (by first | exact ld_ownA Tryz.underlying24 rfl inf24 rfl (List.mem_append_right _ (List.Mem.head _)) (by first | exact cellsOf_le rfl | exact Nat.le_of_ble_eq_true rfl | decide) (by first | exact cellsOf_all | exact take_all rfl | rfl) | exact ld_ownA Tryz.underlying24 rfl inf24 rfl (by repeat (first | exact List.Mem.head _ | apply List.Mem.tail)) (by first | exact cellsOf_le rfl | exact Nat.le_of_ble_eq_true rfl | decide | omega) (by first | exact cellsOf_all | exact take_all rfl | exact cellsOf_part rfl | rfl) | exact ld_dataA Tryz.underlying24 rfl inf24 rfl (by first | assumption | exact InA.add (by assumption) | exact InA.add (InA.add (by assumption))) (by assumption)) ?_
                refine so_call rfl rfl (fun _ => (by repeat (first | exact List.Mem.head _ | apply List.Mem.tail))) rfl has22 (by repeat (first | exact Opvs.nil | apply Opvs.cons rfl)) (fun H hH => (rbefore_ok u2 p2 u p n2 n).b hbf) ?_
                refine so_then ?_
                refine sx_true rfl ?_
                refine sx_region (E := E) ?_
                refine so_move rfl rfl rfl ?_
                refine so_move rfl rfl rfl ?_
                refine so_move rfl rfl rfl ?_
                first | refine so_indexO rfl rfl rfl rfl Tryz.underlying22 inf24 rfl (by omega) rfl ?_ | refine so_index rfl rfl rfl rfl Tryz.underlying22 inf24 rfl (by omega) ?_
                refine so_load rfl rfl rfl (by first | exact ld_ownA Tryz.underlying24 rfl inf24 rfl (by repeat (first | exact List.Mem.head _ | apply List.Mem.tail)) (by first | exact cellsOf_le rfl | exact Nat.le_of_ble_eq_true rfl | decide | omega) (by first | exact cellsOf_all | exact take_all rfl | exact cellsOf_part rfl | rfl) | exact ld_dataA Tryz.underlying24 rfl inf24 rfl (by first | assumption | exact InA.add (by assumption) | exact InA.add (InA.add (by assumption))) (by assumption)) ?_
                refine so_buildSlice (out := [.string u2, .int .i64 n2, .string p2]) (s := 3) rfl rfl (fun h => nomatch h) (by repeat (first | exact Opps.nil | apply Opps.cons rfl)) Tryz.underlying22 inf24 rfl rfl (by kernel_rfl) rfl rfl ?_
                intro N89
                rcases o with _ | ⟨o1, os⟩
                · skip
                  refine so_appNew (m := 1) (bt := 40) (sz := 3) (old := []) (cs' := cellsF [[.v (.string u2), .v (.int .i64 n2), .v (.string p2)]]) (k := 1) rfl rfl (fun h => nomatch h) rfl rfl rfl rfl rfl Tryz.underlying22 Tryz.underlying22 rfl inf24 rfl rfl (by decide) rfl (by decide) (first_own (List.Mem.head _) rfl) (.inl ⟨rfl, rfl, rfl⟩) (roomB_of (by decide)) (by decide) rfl rfl ?_
                  intro M2
                  refine so_assign rfl rfl rfl ?_
                  refine so_nil ?_
                  refine sk_block ?_
                  refine sk_then ?_
                  refine sx_region (E := E) ?_
                  refine so_bin rfl rfl rfl rfl (by first | exact bin_incr (by omega) | exact bin_add (wrap64 (by omega) (by omega)) | exact bin_add rfl) ?_
                  refine so_move rfl rfl rfl ?_
                  refine so_nil ?_
                  exact sk_round (k + 1, M2, [[.v (.string u2), .v (.int .i64 n2), .v (.string p2)]]) (show l.length - (k + 1) < l.length - k by omega) ⟨show k + 1 ≤ l.length by omega, by (rw [filt_yes (p := (befB · [.v (.string u), .v (.int .i64 n), .v (.string p)])) hc2 hbf, ← ho]) <;> rfl⟩ (by repeat (first | exact .nil | refine .cons rfl ?_)) rfl rfl (by first | exact List.Sublist.refl _ | exact (by repeat (first | exact List.nil_sublist _ | apply List.Sublist.cons_cons | apply List.Sublist.cons)))
                · skip
                  refine so_appAny (m := 1) (bt := 40) (sz := 3) (old := cellsF (o1 :: os)) (N := M) (ex := false) (cs' := cellsF ((o1 :: os) ++ [[.v (.string u2), .v (.int .i64 n2), .v (.string p2)]])) (k := List.length (α := List CT) ((o1 :: os) ++ [[.v (.string u2), .v (.int .i64 n2), .v (.string p2)]])) rfl rfl (fun h => nomatch h) rfl rfl rfl rfl rfl Tryz.underlying22 Tryz.underlying22 rfl inf24 rfl rfl (by decide) rfl (by decide) (first_own (List.Mem.head _) rfl) (.succ .zero) (cellsF_len hoF) rfl (roomB_of (by omega)) (by omega) (cellsF_snoc (o1 :: os) [.v (.string u2), .v (.int .i64 n2), .v (.string p2)]).symm (fun h => nomatch h) (snoc_len _ _) ?_
                  intro M2
                  refine so_assign rfl rfl rfl ?_
                  refine so_nil ?_
                  refine sk_block ?_
                  refine sk_then ?_
                  refine sx_region (E := E) ?_
                  refine so_bin rfl rfl rfl rfl (by first | exact bin_incr (by omega) | exact bin_add (wrap64 (by omega) (by omega)) | exact bin_add rfl) ?_
                  refine so_move rfl rfl rfl ?_
                  refine so_nil ?_
                  exact sk_round (k + 1, M2, (o1 :: os) ++ [[.v (.string u2), .v (.int .i64 n2), .v (.string p2)]]) (show l.length - (k + 1) < l.length - k by omega) ⟨show k + 1 ≤ l.length by omega, by (rw [filt_yes (p := (befB · [.v (.string u), .v (.int .i64 n), .v (.string p)])) hc2 hbf, ← ho]) <;> rfl⟩ (by repeat (first | exact .nil | refine .cons rfl ?_)) rfl rfl (by first | exact List.Sublist.refl _ | exact (by repeat (first | exact List.nil_sublist _ | apply List.Sublist.cons_cons | apply List.Sublist.cons)))
            · skip
              rw [List.take_of_length_le (by omega)] at ho
              have hoF : ∀ c ∈ o, FileLike c := by rw [ho]; exact fun c hc => hfl c (List.mem_filter.mp hc).1
              have hol : o.length ≤ l.length := by rw [ho]; exact List.length_filter_le _ _
              refine sx_region (E := E) ?_
              refine so_bin rfl rfl rfl rfl (by first | exact bin_lss_t (by omega) | exact bin_lss_f (by omega)) ?_
              refine so_then ?_
              refine sx_seq ?_
              refine sx_false rfl ?_
              refine sx_exit ?_
              refine sk_then_exit ?_
              refine sk_loop_exit ?_
              refine sk_block_exit ?_
              refine sk_then ?_
              refine sx_seq ?_
              refine sx_region (E := E) ?_
              refine so_move rfl rfl rfl ?_
              refine so_load rfl rfl rfl (by first | exact ld_ownA Tryz.underlying24 rfl inf24 rfl (List.mem_append_right _ (List.Mem.head _)) (by first | exact cellsOf_le rfl | exact Nat.le_of_ble_eq_true rfl | decide) (by first | exact cellsOf_all | exact take_all rfl | rfl) | exact ld_ownA Tryz.underlying24 rfl inf24 rfl (by repeat (first | exact List.Mem.head _ | apply List.Mem.tail)) (by first | exact cellsOf_le rfl | exact Nat.le_of_ble_eq_true rfl | decide | omega) (by first | exact cellsOf_all | exact take_all rfl | exact cellsOf_part rfl | rfl) | exact ld_dataA Tryz.underlying24 rfl inf24 rfl (by first | assumption | exact InA.add (by assumption) | exact InA.add (InA.add (by assumption))) (by assumption)) ?_
              refine so_buildSlice (out := [.string u, .int .i64 n, .string p]) (s := 3) rfl rfl (fun h => nomatch h) (by repeat (first | exact Opps.nil | apply Opps.cons rfl)) Tryz.underlying22 inf24 rfl rfl (by kernel_rfl) rfl rfl ?_
              intro N94
              rcases o with _ | ⟨o1, os⟩
              · skip
                refine so_appNew (m := 1) (bt := 40) (sz := 3) (old := []) (cs' := cellsF [[.v (.string u), .v (.int .i64 n), .v (.string p)]]) (k := 1) rfl rfl (fun h => nomatch h) rfl rfl rfl rfl rfl Tryz.underlying22 Tryz.underlying22 rfl inf24 rfl rfl (by decide) rfl (by decide) (first_own (List.Mem.head _) rfl) (.inl ⟨rfl, rfl, rfl⟩) (roomB_of (by decide)) (by decide) rfl rfl ?_
                intro M3
                refine so_assign rfl rfl rfl ?_
                refine so_then ?_
                refine sx_seq ?_
                refine sx_seq ?_
                refine sx_region (E := E) ?_
                refine so_move rfl rfl rfl ?_
                refine so_lenL rfl rfl rfl rfl rfl rfl Tryz.underlying22 ?_
                refine so_move rfl rfl rfl ?_
                refine so_then ?_
                refine sx_block ?_
                refine sx_loop (σ := Nat × Nat × List (List CT)) (fun z => l.length - z.1) (fun z => [(0, .slice ax l.length cx), (3, .pointer (some ⟨2 * N3 + 1, 0, none⟩)), (9, .slice (some ⟨2 * z.2.1 + 1, 0, none⟩) z.2.2.length z.2.2.length), (97, .int .i64 ((l.length : Nat) : Int)), (98, .int .i64 ((z.1 : Nat) : Int))]) (fun _ => S) (fun _ => A) (fun z => [(z.2.1, .cells (cellsF z.2.2) 3 false), (N3, .cells [.string u, .int .i64 n, .string p] (boxsz E 24) true)]) (fun z => z.1 ≤ l.length ∧ z.2.2 = (l.filter (befB · [.v (.string u), .v (.int .i64 n), .v (.string p)]) ++ [[.v (.string u), .v (.int .i64 n), .v (.string p)]]) ++ (l.take z.1).filter (befB [.v (.string u), .v (.int .i64 n), .v (.string p)] ·)) ((0, M3, [[.v (.string u), .v (.int .i64 n), .v (.string p)]])) (⟨Nat.zero_le _, by rw [← ho]; simp⟩) (by repeat (first | exact .nil | refine .cons rfl ?_)) rfl rfl (by repeat (first | exact List.nil_sublist _ | apply List.Sublist.cons_cons | apply List.Sublist.cons)) ?_
                intro z4 hJ2 t4
                obtain ⟨k, M4, o4⟩ := z4
                obtain ⟨hJ4, ho4⟩ := hJ2
                dsimp only at hJ4 ho4 ⊢
                have hoF : ∀ c ∈ o4, FileLike c := by
                  rw [ho4]; intro c hc
                  rcases List.mem_append.1 hc with h | h
                  · exact snoc_files (fun d hd => hfl d (List.mem_filter.mp hd).1) ⟨u, n, p, rfl, hu, hn, hp⟩ c h
                  · exact filt_files hfl c h
                have hol4 : o4.length ≤ l.length + 1 + l.length := by
                  rw [ho4, List.length_append, List.length_append]
                  have q1 := List.length_filter_le (befB · [.v (.string u), .v (.int .i64 n), .v (.string p)]) l
                  have q2 := filt_len l k (befB [.v (.string u), .v (.int .i64 n), .v (.string p)] ·)
                  simp only [List.length_singleton]; omega
                refine sx_seq ?_
                rcases Nat.lt_or_ge k l.length with hk | hk
                · skip
                  obtain ⟨qx2, us2, d2, eqx2, ix2, hc2, lx2, kx2⟩ := rx.at' k hk
                  cases eqx2
                  obtain ⟨u2, n2, p2, rfl, rfl, hu2, hn2, hp2⟩ := file3 kx2
                  refine sx_region (E := E) ?_
                  refine so_bin rfl rfl rfl rfl (by first | exact bin_lss_t (by omega) | exact bin_lss_f (by omega)) ?_
                  refine so_then ?_
                  refine sx_seq ?_
                  refine sx_true rfl ?_
                  refine sx_skip ?_
                  refine sk_then ?_
                  refine sx_seq ?_
                  refine sx_block ?_
                  refine sx_seq ?_
                  refine sx_region (E := E) ?_
                  refine so_move rfl rfl rfl ?_
                  refine so_assign rfl rfl rfl ?_
                  refine so_then ?_
                  refine sx_seq ?_
                  cases hbf : befB [.v (.string u), .v (.int .i64 n), .v (.string p)] [.v (.string u2), .v (.int .i64 n2), .v (.string p2)]
                  · skip
                    refine sx_draw (E := E) mixed [5] _ (List.Sublist.refl _) (by kernel_rfl) (by kernel_rfl) (by decide) ?_
                    refine so_load rfl rfl rfl (by first | exact ld_ownA Tryz.underlying24 rfl inf24 rfl (by repeat (first | exact List.Mem.head _ | apply List.Mem.tail)) (by first | exact cellsOf_le rfl | exact Nat.le_of_ble_eq_true rfl | decide | omega) (by first | exact cellsOf_all | exact take_all rfl | exact cellsOf_part rfl | rfl) | exact ld_dataA Tryz.underlying24 rfl inf24 rfl (by first | assumption | exact InA.add (by assumption) | exact InA.add (InA.add (by assumption))) (by assumption)) ?_
                    refine so_move rfl rfl rfl ?_
                    refine so_move rfl rfl rfl ?_
                    first | refine so_indexO rfl rfl rfl rfl Tryz.underlying22 inf24 rfl (by omega) rfl ?_ | refine so_index rfl rfl rfl rfl Tryz.underlying22 inf24 rfl (by omega) ?_
                    refine so_load rfl rfl rfl (by first | exact ld_ownA Tryz.underlying24 rfl inf24 rfl (by repeat (first | exact List.Mem.head _ | apply List.Mem.tail)) (by first | exact cellsOf_le rfl | exact Nat.le_of_ble_eq_true rfl | decide | omega) (by first | exact cellsOf_all | exact take_all rfl | exact cellsOf_part rfl | rfl) | exact ld_dataA Tryz.underlying24 rfl inf24 rfl (by first | assumption | exact InA.add (by assumption) | exact InA.add (InA.add (by assumption))) (by assumption)) ?_
                    refine so_call rfl rfl (fun _ => (by repeat (first | exact List.Mem.head _ | apply List.Mem.tail))) rfl has22 (by repeat (first | exact Opvs.nil | apply Opvs.cons rfl)) (fun H hH => (rbefore_ok u p u2 p2 n n2).b hbf) ?_
                    refine so_then ?_
                    refine sx_false rfl ?_
                    refine sx_skip ?_
                    refine sk_block ?_
                    refine sk_then ?_
                    refine sx_region (E := E) ?_
                    refine so_bin rfl rfl rfl rfl (by first | exact bin_incr (by omega) | exact bin_add (wrap64 (by omega) (by omega)) | exact bin_add rfl) ?_
                    refine so_move rfl rfl rfl ?_
                    refine so_nil ?_
                    exact sk_round (k + 1, M4, o4) (show l.length - (k + 1) < l.length - k by omega) ⟨show k + 1 ≤ l.length by omega, by (rw [ho4, filt_no (p := (befB [.v (.string u), .v (.int .i64 n), .v (.string p)] ·)) hc2 hbf]) <;> rfl⟩ (by repeat (first | exact .nil | refine .cons rfl ?_)) rfl rfl (by first | exact List.Sublist.refl _ | exact (by repeat (first | exact List.nil_sublist _ | apply List.Sublist.cons_cons | apply List.Sublist.cons)))
                  · skip
                    refine sx_draw (E := E) mixed [5] _ (List.Sublist.refl _) (by kernel_rfl) (by kernel_rfl) (by decide) ?_
                    refine so_load rfl rfl rfl (by first | exact ld_ownA Tryz.underlying24 rfl inf24 rfl (by repeat (first | exact List.Mem.head _ | apply List.Mem.tail)) (by first | exact cellsOf_le rfl | exact Nat.le_of_ble_eq_true rfl | decide | omega) (by first | exact cellsOf_all | exact take_all rfl | exact cellsOf_part rfl | rfl) | exact ld_dataA Tryz.underlying24 rfl inf24 rfl (by first | assumption | exact InA.add (by assumption) | exact InA.add (InA.add (by assumption))) (by assumption)) ?_
                    refine so_move rfl rfl rfl ?_
                    refine so_move rfl rfl rfl ?_
                    first | refine so_indexO rfl rfl rfl rfl Tryz.underlying22 inf24 rfl (by omega) rfl ?_ | refine so_index rfl rfl rfl rfl Tryz.underlying22 inf24 rfl (by omega) ?_
                    refine so_load rfl rfl rfl (by first | exact ld_ownA Tryz.underlying24 rfl inf24 rfl (by repeat (first | exact List.Mem.head _ | apply List.Mem.tail)) (by first | exact cellsOf_le rfl | exact Nat.le_of_ble_eq_true rfl | decide | omega) (by first | exact cellsOf_all | exact take_all rfl | exact cellsOf_part rfl | rfl) | exact ld_dataA Tryz.underlying24 rfl inf24 rfl (by first | assumption | exact InA.add (by assumption) | exact InA.add (InA.add (by assumption))) (by assumption)) ?_
                    refine so_call rfl rfl (fun _ => (by repeat (first | exact List.Mem.head _ | apply List.Mem.tail))) rfl has22 (by repeat (first | exact Opvs.nil | apply Opvs.cons rfl)) (fun H hH => (rbefore_ok u p u2 p2 n n2).b hbf) ?_
                    refine so_then ?_
                    refine sx_true rfl ?_
                    refine sx_region (E := E) ?_
                    refine so_move rfl rfl rfl ?_
                    refine so_move rfl rfl rfl ?_
                    refine so_move rfl rfl rfl ?_
                    first | refine so_indexO rfl rfl rfl rfl Tryz.underlying22 inf24 rfl (by omega) rfl ?_ | refine so_index rfl rfl rfl rfl Tryz.underlying22 inf24 rfl (by omega) ?_
                    refine so_load rfl rfl rfl (by first | exact ld_ownA Tryz.underlying24 rfl inf24 rfl (by repeat (first | exact List.Mem.head _ | apply List.Mem.tail)) (by first | exact cellsOf_le rfl | exact Nat.le_of_ble_eq_true rfl | decide | omega) (by first | exact cellsOf_all | exact take_all rfl | exact cellsOf_part rfl | rfl) | exact ld_dataA Tryz.underlying24 rfl inf24 rfl (by first | assumption | exact InA.add (by assumption) | exact InA.add (InA.add (by assumption))) (by assumption)) ?_
                    refine so_buildSlice (out := [.string u2, .int .i64 n2, .string p2]) (s := 3) rfl rfl (fun h => nomatch h) (by repeat (first | exact Opps.nil | apply Opps.cons rfl)) Tryz.underlying22 inf24 rfl rfl (by kernel_rfl) rfl rfl ?_
                    intro N112
                    refine so_appAny (m := 1) (bt := 40) (sz := 3) (old := cellsF (o4)) (N := M4) (ex := false) (cs' := cellsF ((o4) ++ [[.v (.string u2), .v (.int .i64 n2), .v (.string p2)]])) (k := List.length (α := List CT) ((o4) ++ [[.v (.string u2), .v (.int .i64 n2), .v (.string p2)]])) rfl rfl (fun h => nomatch h) rfl rfl rfl rfl rfl Tryz.underlying22 Tryz.underlying22 rfl inf24 rfl rfl (by decide) rfl (by decide) (first_own (List.Mem.head _) rfl) (.succ .zero) (cellsF_len hoF) rfl (roomB_of (by omega)) (by omega) (cellsF_snoc (o4) [.v (.string u2), .v (.int .i64 n2), .v (.string p2)]).symm (fun h => nomatch h) (snoc_len _ _) ?_
                    intro M5
                    refine so_assign rfl rfl rfl ?_
                    refine so_nil ?_
                    refine sk_block ?_
                    refine sk_then ?_
                    refine sx_region (E := E) ?_
                    refine so_bin rfl rfl rfl rfl (by first | exact bin_incr (by omega) | exact bin_add (wrap64 (by omega) (by omega)) | exact bin_add rfl) ?_
                    refine so_move rfl rfl rfl ?_
                    refine so_nil ?_
                    exact sk_round (k + 1, M5, o4 ++ [[.v (.string u2), .v (.int .i64 n2), .v (.string p2)]]) (show l.length - (k + 1) < l.length - k by omega) ⟨show k + 1 ≤ l.length by omega, by (rw [filt_yes (p := (befB [.v (.string u), .v (.int .i64 n), .v (.string p)] ·)) hc2 hbf, ← List.append_assoc, ← ho4]) <;> rfl⟩ (by repeat (first | exact .nil | refine .cons rfl ?_)) rfl rfl (by first | exact List.Sublist.refl _ | exact (by repeat (first | exact List.nil_sublist _ | apply List.Sublist.cons_cons | apply List.Sublist.cons)))
                · skip
                  rw [List.take_of_length_le (by omega)] at ho4
                  refine sx_region (E := E) ?_
                  refine so_bin rfl rfl rfl rfl (by first | exact bin_lss_t (by omega) | exact bin_lss_f (by omega)) ?_
                  refine so_then ?_
                  refine sx_seq ?_
                  refine sx_false rfl ?_
                  refine sx_exit ?_
                  refine sk_then_exit ?_
                  refine sk_loop_exit ?_
                  refine sk_block_exit ?_
                  refine sk_then ?_
                  refine sx_seq ?_
                  refine sx_freeze .zero ?_
                  intro Hf Af gf hAf hgf
                  refine sx_region (E := E) ?_
                  refine so_move rfl rfl rfl ?_
                  refine so_assign rfl rfl rfl ?_
                  refine so_assign rfl rfl rfl ?_
                  refine so_then ?_
                  refine sx_ret ?_
                  refine sk_return2 (.tmp rfl (.tmp rfl .nil)) ?_
                  exact fun H hH => addR_of hH (addE_ok he hfe hdp hsb h256b) (by rw [addR_ok (addE_ok he hfe hdp hsb h256b), ← addL_filter hsorted hdp, List.append_cons, ← ho4]; exact own_files hgf hAf hoF (by omega))
              · skip
                refine so_appAny (m := 1) (bt := 40) (sz := 3) (old := cellsF (o1 :: os)) (N := M) (ex := false) (cs' := cellsF ((o1 :: os) ++ [[.v (.string u), .v (.int .i64 n), .v (.string p)]])) (k := List.length (α := List CT) ((o1 :: os) ++ [[.v (.string u), .v (.int .i64 n), .v (.string p)]])) rfl rfl (fun h => nomatch h) rfl rfl rfl rfl rfl Tryz.underlying22 Tryz.underlying22 rfl inf24 rfl rfl (by decide) rfl (by decide) (first_own (List.Mem.head _) rfl) (.succ .zero) (cellsF_len hoF) rfl (roomB_of (by omega)) (by omega) (cellsF_snoc (o1 :: os) [.v (.string u), .v (.int .i64 n), .v (.string p)]).symm (fun h => nomatch h) (snoc_len _ _) ?_
                intro M3
                refine so_assign rfl rfl rfl ?_
                refine so_then ?_
                refine sx_seq ?_
                refine sx_seq ?_
                refine sx_region (E := E) ?_
                refine so_move rfl rfl rfl ?_
                refine so_lenL rfl rfl rfl rfl rfl rfl Tryz.underlying22 ?_
                refine so_move rfl rfl rfl ?_
                refine so_then ?_
                refine sx_block ?_
                refine sx_loop (σ := Nat × Nat × List (List CT)) (fun z => l.length - z.1) (fun z => [(0, .slice ax l.length cx), (3, .pointer (some ⟨2 * N3 + 1, 0, none⟩)), (9, .slice (some ⟨2 * z.2.1 + 1, 0, none⟩) z.2.2.length z.2.2.length), (97, .int .i64 ((l.length : Nat) : Int)), (98, .int .i64 ((z.1 : Nat) : Int))]) (fun _ => S) (fun _ => A) (fun z => [(z.2.1, .cells (cellsF z.2.2) 3 false), (N3, .cells [.string u, .int .i64 n, .string p] (boxsz E 24) true)]) (fun z => z.1 ≤ l.length ∧ z.2.2 = (l.filter (befB · [.v (.string u), .v (.int .i64 n), .v (.string p)]) ++ [[.v (.string u), .v (.int .i64 n), .v (.string p)]]) ++ (l.take z.1).filter (befB [.v (.string u), .v (.int .i64 n), .v (.string p)] ·)) ((0, M3, (o1 :: os) ++ [[.v (.string u), .v (.int .i64 n), .v (.string p)]])) (⟨Nat.zero_le _, by rw [← ho]; simp⟩) (by repeat (first | exact .nil | refine .cons rfl ?_)) rfl rfl (by repeat (first | exact List.nil_sublist _ | apply List.Sublist.cons_cons | apply List.Sublist.cons)) ?_
                intro z4 hJ2 t4
                obtain ⟨k, M4, o4⟩ := z4
                obtain ⟨hJ4, ho4⟩ := hJ2
                dsimp only at hJ4 ho4 ⊢
                have hoF : ∀ c ∈ o4, FileLike c := by
                  rw [ho4]; intro c hc
                  rcases List.mem_append.1 hc with h | h
                  · exact snoc_files (fun d hd => hfl d (List.mem_filter.mp hd).1) ⟨u, n, p, rfl, hu, hn, hp⟩ c h
                  · exact filt_files hfl c h
                have hol4 : o4.length ≤ l.length + 1 + l.length := by
                  rw [ho4, List.length_append, List.length_append]
                  have q1 := List.length_filter_le (befB · [.v (.string u), .v (.int .i64 n), .v (.string p)]) l
                  have q2 := filt_len l k (befB [.v (.string u), .v (.int .i64 n), .v (.string p)] ·)
                  simp only [List.length_singleton]; omega
                refine sx_seq ?_
                rcases Nat.lt_or_ge k l.length with hk | hk
                · skip
                  obtain ⟨qx2, us2, d2, eqx2, ix2, hc2, lx2, kx2⟩ := rx.at' k hk
                  cases eqx2
                  obtain ⟨u2, n2, p2, rfl, rfl, hu2, hn2, hp2⟩ := file3 kx2
                  refine sx_region (E := E) ?_
                  refine so_bin rfl rfl rfl rfl (by first | exact bin_lss_t (by omega) | exact bin_lss_f (by omega)) ?_
                  refine so_then ?_
                  refine sx_seq ?_
                  refine sx_true rfl ?_
                  refine sx_skip ?_
                  refine sk_then ?_
                  refine sx_seq ?_
                  refine sx_block ?_
                  refine sx_seq ?_
                  refine sx_region (E := E) ?_
                  refine so_move rfl rfl rfl ?_
                  refine so_assign rfl rfl rfl ?_
                  refine so_then ?_
                  refine sx_seq ?_
                  cases hbf : befB [.v (.string u), .v (.int .i64 n), .v (.string p)] [.v (.string u2), .v (.int .i64 n2), .v (.string p2)]
                  · skip
                    refine sx_draw (E := E) mixed [5] _ (List.Sublist.refl _) (by kernel_rfl) (by kernel_rfl) (by decide) ?_
                    refine so_load rfl rfl rfl (by first | exact ld_ownA Tryz.underlying24 rfl inf24 rfl (by repeat (first | exact List.Mem.head _ | apply List.Mem.tail)) (by first | exact cellsOf_le rfl | exact Nat.le_of_ble_eq_true rfl | decide | omega) (by first | exact cellsOf_all | exact take_all rfl | exact cellsOf_part rfl | rfl) | exact ld_dataA Tryz.underlying24 rfl inf24 rfl (by first | assumption | exact InA.add (by assumption) | exact InA.add (InA.add (by assumption))) (by assumption)) ?_
                    refine so_move rfl rfl rfl ?_
                    refine so_move rfl rfl rfl ?_
                    first | refine so_indexO rfl rfl rfl rfl Tryz.underlying22 inf24 rfl (by omega) rfl ?_ | refine so_index rfl rfl rfl rfl Tryz.underlying22 inf24 rfl (by omega) ?_
                    refine so_load rfl rfl rfl (by first | exact ld_ownA Tryz.underlying24 rfl inf24 rfl (by repeat (first | exact List.Mem.head _ | apply List.Mem.tail)) (by first | exact cellsOf_le rfl | exact Nat.le_of_ble_eq_true rfl | decide | omega) (by first | exact cellsOf_all | exact take_all rfl | exact cellsOf_part rfl | rfl) | exact ld_dataA Tryz.underlying24 rfl inf24 rfl (by first | assumption | exact InA.add (by assumption) | exact InA.add (InA.add (by assumption))) (by assumption)) ?_
                    refine so_call rfl rfl (fun _ => (by repeat (first | exact List.Mem.head _ | apply List.Mem.tail))) rfl has22 (by repeat (first | exact Opvs.nil | apply Opvs.cons rfl)) (fun H hH => (rbefore_ok u p u2 p2 n n2).b hbf) ?_
                    refine so_then ?_
                    refine sx_false rfl ?_
                    refine sx_skip ?_
                    refine sk_block ?_
                    refine sk_then ?_
                    refine sx_region (E := E) ?_
                    refine so_bin rfl rfl rfl rfl (by first | exact bin_incr (by omega) | exact bin_add (wrap64 (by omega) (by omega)) | exact bin_add rfl) ?_
                    refine so_move rfl rfl rfl ?_
                    refine so_nil ?_
                    exact sk_round (k + 1, M4, o4) (show l.length - (k + 1) < l.length - k by omega) ⟨show k + 1 ≤ l.length by omega, by (rw [ho4, filt_no (p := (befB [.v (.string u), .v (.int .i64 n), .v (.string p)] ·)) hc2 hbf]) <;> rfl⟩ (by repeat (first | exact .nil | refine .cons rfl ?_)) rfl rfl (by first | exact List.Sublist.refl _ | exact (by repeat (first | exact List.nil_sublist _ | apply List.Sublist.cons_cons | apply List.Sublist.cons)))
                  · skip
                    refine sx_draw (E := E) mixed [5] _ (List.Sublist.refl _) (by kernel_rfl) (by kernel_rfl) (by decide) ?_
                    refine so_load rfl rfl rfl (by first | exact ld_ownA Tryz.underlying24 rfl inf24 rfl (by repeat (first | exact List.Mem.head _ | apply List.Mem.tail)) (by first | exact cellsOf_le rfl | exact Nat.le_of_ble_eq_true rfl | decide | omega) (by first | exact cellsOf_all | exact take_all rfl | exact cellsOf_part rfl | rfl) | exact ld_dataA Tryz.underlying24 rfl inf24 rfl (by first | assumption | exact InA.add (by assumption) | exact InA.add (InA.add (by assumption))) (by assumption)) ?_
                    refine so_move rfl rfl rfl ?_
                    refine so_move rfl rfl rfl ?_
                    first | refine so_indexO rfl rfl rfl rfl Tryz.underlying22 inf24 rfl (by omega) rfl ?_ | refine so_index rfl rfl rfl rfl Tryz.underlying22 inf24 rfl (by omega) ?_
                    refine so_load rfl rfl rfl (by first | exact ld_ownA Tryz.underlying24 rfl inf24 rfl (by repeat (first | exact List.Mem.head _ | apply List.Mem.tail)) (by first | exact cellsOf_le rfl | exact Nat.le_of_ble_eq_true rfl | decide | omega) (by first | exact cellsOf_all | exact take_all rfl | exact cellsOf_part rfl | rfl) | exact ld_dataA Tryz.underlying24 rfl inf24 rfl (by first | assumption | exact InA.add (by assumption) | exact InA.add (InA.add (by assumption))) (by assumption)) ?_
                    refine so_call rfl rfl (fun _ => (by repeat (first | exact List.Mem.head _ | apply List.Mem.tail))) rfl has22 (by repeat (first | exact Opvs.nil | apply Opvs.cons rfl)) (fun H hH => (rbefore_ok u p u2 p2 n n2).b hbf) ?_
                    refine so_then ?_
                    refine sx_true rfl ?_
                    refine sx_region (E := E) ?_
                    refine so_move rfl rfl rfl ?_
                    refine so_move rfl rfl rfl ?_
                    refine so_move rfl rfl rfl ?_
                    first | refine so_indexO rfl rfl rfl rfl Tryz.underlying22 inf24 rfl (by omega) rfl ?_ | refine so_index rfl rfl rfl rfl Tryz.underlying22 inf24 rfl (by omega) ?_
                    refine so_load rfl rfl rfl (by first | exact ld_ownA Tryz.underlying24 rfl inf24 rfl (by repeat (first | exact List.Mem.head _ | apply List.Mem.tail)) (by first | exact cellsOf_le rfl | exact Nat.le_of_ble_eq_true rfl | decide | omega) (by first | exact cellsOf_all | exact take_all rfl | exact cellsOf_part rfl | rfl) | exact ld_dataA Tryz.underlying24 rfl inf24 rfl (by first | assumption | exact InA.add (by assumption) | exact InA.add (InA.add (by assumption))) (by assumption)) ?_
                    refine so_buildSlice (out := [.string u2, .int .i64 n2, .string p2]) (s := 3) rfl rfl (fun h => nomatch h) (by repeat (first | exact Opps.nil | apply Opps.cons rfl)) Tryz.underlying22 inf24 rfl rfl (by kernel_rfl) rfl rfl ?_
                    intro N112
                    refine so_appAny (m := 1) (bt := 40) (sz := 3) (old := cellsF (o4)) (N := M4) (ex := false) (cs' := cellsF ((o4) ++ [[.v (.string u2), .v (.int .i64 n2), .v (.string p2)]])) (k := List.length (α := List CT) ((o4) ++ [[.v (.string u2), .v (.int .i64 n2), .v (.string p2)]])) rfl rfl (fun h => nomatch h) rfl rfl rfl rfl rfl Tryz.underlying22 Tryz.underlying22 rfl inf24 rfl rfl (by decide) rfl (by decide) (first_own (List.Mem.head _) rfl) (.succ .zero) (cellsF_len hoF) rfl (roomB_of (by omega)) (by omega) (cellsF_snoc (o4) [.v (.string u2), .v (.int .i64 n2), .v (.string p2)]).symm (fun h => nomatch h) (snoc_len _ _) ?_
                    intro M5
                    refine so_assign rfl rfl rfl ?_
                    refine so_nil ?_
                    refine sk_block ?_
                    refine sk_then ?_
                    refine sx_region (E := E) ?_
                    refine so_bin rfl rfl rfl rfl (by first | exact bin_incr (by omega) | exact bin_add (wrap64 (by omega) (by omega)) | exact bin_add rfl) ?_
                    refine so_move rfl rfl rfl ?_
                    refine so_nil ?_
                    exact sk_round (k + 1, M5, o4 ++ [[.v (.string u2), .v (.int .i64 n2), .v (.string p2)]]) (show l.length - (k + 1) < l.length - k by omega) ⟨show k + 1 ≤ l.length by omega, by (rw [filt_yes (p := (befB [.v (.string u), .v (.int .i64 n), .v (.string p)] ·)) hc2 hbf, ← List.append_assoc, ← ho4]) <;> rfl⟩ (by repeat (first | exact .nil | refine .cons rfl ?_)) rfl rfl (by first | exact List.Sublist.refl _ | exact (by repeat (first | exact List.nil_sublist _ | apply List.Sublist.cons_cons | apply List.Sublist.cons)))
                · skip
                  rw [List.take_of_length_le (by omega)] at ho4
                  refine sx_region (E := E) ?_
                  refine so_bin rfl rfl rfl rfl (by first | exact bin_lss_t (by omega) | exact bin_lss_f (by omega)) ?_
                  refine so_then ?_
                  refine sx_seq ?_
                  refine sx_false rfl ?_
                  refine sx_exit ?_
                  refine sk_then_exit ?_
                  refine sk_loop_exit ?_
                  refine sk_block_exit ?_
                  refine sk_then ?_
                  refine sx_seq ?_
                  refine sx_freeze .zero ?_
                  intro Hf Af gf hAf hgf
                  refine sx_region (E := E) ?_
                  refine so_move rfl rfl rfl ?_
                  refine so_assign rfl rfl rfl ?_
                  refine so_assign rfl rfl rfl ?_
                  refine so_then ?_
                  refine sx_ret ?_
                  refine sk_return2 (.tmp rfl (.tmp rfl .nil)) ?_
                  exact fun H hH => addR_of hH (addE_ok he hfe hdp hsb h256b) (by rw [addR_ok (addE_ok he hfe hdp hsb h256b), ← addL_filter hsorted hdp, List.append_cons, ← ho4]; exact own_files hgf hAf hoF (by omega))
    · skip
      refine sx_region (E := E) ?_
      refine so_move rfl rfl rfl ?_
      refine so_bin rfl rfl rfl rfl (by first | exact bin_neq_f (by first | rfl | assumption | omega) | exact bin_neq_t (by first | rfl | assumption | omega)) ?_
      refine so_then ?_
      refine sx_true rfl ?_
      refine sx_seq ?_
      refine sx_region (E := E) ?_
      refine so_move rfl rfl rfl ?_
      refine so_assign rfl rfl rfl ?_
      refine so_assign rfl rfl rfl ?_
      refine so_then ?_
      refine sx_ret ?_
      refine sk_then_ret ?_
      refine sk_return2 (.tmp rfl (.tmp rfl .nil)) ?_
      exact fun H hH => addErr hH (addE_file he hfe) hfe
  · skip
    refine sx_region (E := E) ?_
    refine so_move rfl rfl rfl ?_
    refine so_bin rfl rfl rfl rfl (by first | exact bin_neq_f (by first | rfl | assumption | omega) | exact bin_neq_t (by first | rfl | assumption | omega)) ?_
    refine so_then ?_
    refine sx_true rfl ?_
    refine sx_seq ?_
    refine sx_region (E := E) ?_
    refine so_move rfl rfl rfl ?_
    refine so_assign rfl rfl rfl ?_
    refine so_assign rfl rfl rfl ?_
    refine so_then ?_
    refine sx_ret ?_
    refine sk_then_ret ?_
    refine sk_return2 (.tmp rfl (.tmp rfl .nil)) ?_
    exact fun H hH => addErr hH (addE_lib he) he

end Go.Proofs.YthnplnlhibalcaaGreatDoor
