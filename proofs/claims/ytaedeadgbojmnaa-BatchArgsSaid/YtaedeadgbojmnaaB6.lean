/-
  Walks, laid by program.
-/
import Derived.Test.YtaedeadgbojmnaaB5
set_option linter.unusedVariables false
set_option linter.unusedSimpArgs false
set_option maxRecDepth 100000
namespace Go.Proofs.Ytaedeadgbojmnaa
open Go Go.AM

def fieldsL : List (List UInt8) := [[97], [97, 116], [98], [100, 120], [100, 121], [103], [104], [105, 100], [111, 112, 97, 99, 105, 116, 121], [112, 97, 114, 97, 109, 48], [112, 97, 114, 97, 109, 49], [112, 97, 114, 97, 109, 50], [112, 97, 114, 97, 109, 51], [112, 97, 114, 101, 110, 116], [114], [116, 111], [118, 97, 108, 117, 101], [119], [120], [121]]
/-- the first text of an element -/
def strF : List CT → List UInt8
  | d :: _ => d.str
  | [] => []
def idxI (l : List (List CT)) (q : List UInt8) : Int :=
  match l.findIdx? (fun c => decide (strF c = q)) with
  | some i => (i : Int)
  | none => -1
def contB (l : List (List CT)) (q : List UInt8) : Bool := l.any fun c => decide (strF c = q)
theorem idxI_found {l : List (List CT)} {q : List UInt8} {k : Nat} {c : List CT} (hc : l[k]? = some c) (h : strF c = q) (hb : ∀ j c, j < k → l[j]? = some c → strF c ≠ q) : idxI l q = k := by
  have : l.findIdx? (fun c => decide (strF c = q)) = some k := by
    rw [List.findIdx?_eq_some_iff_getElem]
    obtain ⟨hk, rfl⟩ := List.getElem?_eq_some_iff.1 hc
    exact ⟨hk, by simp [h], fun j hj => by simpa using hb j _ hj (List.getElem?_eq_getElem (by omega))⟩
  simp only [idxI, this]
theorem idxI_none {l : List (List CT)} {q : List UInt8} (hb : ∀ j c, j < l.length → l[j]? = some c → strF c ≠ q) : idxI l q = -1 := by
  have : l.findIdx? (fun c => decide (strF c = q)) = none := by
    rw [List.findIdx?_eq_none_iff]
    intro c hc
    obtain ⟨j, hj⟩ := List.getElem?_of_mem hc
    simpa using hb j c (lt_of_getElem? hj) hj
  simp only [idxI, this]
theorem contB_found {l : List (List CT)} {q : List UInt8} {k : Nat} {c : List CT} (hc : l[k]? = some c) (h : strF c = q) : contB l q = true := by
  rw [contB, List.any_eq_true]
  exact ⟨c, List.mem_of_getElem? hc, by simp [h]⟩
theorem contB_none {l : List (List CT)} {q : List UInt8} (hb : ∀ j c, j < l.length → l[j]? = some c → strF c ≠ q) : contB l q = false := by
  rw [contB, List.any_eq_false]
  intro c hc
  obtain ⟨j, hj⟩ := List.getElem?_of_mem hc
  simpa using hb j c (lt_of_getElem? hj) hj
theorem idx_cont (l : List (List CT)) (q : List UInt8) : (0 ≤ idxI l q ∧ contB l q = true) ∨ (idxI l q < 0 ∧ contB l q = false) := by
  unfold idxI contB
  split
  · rename_i i h
    left
    rw [List.findIdx?_eq_some_iff_getElem] at h
    obtain ⟨h1, h2, _⟩ := h
    exact ⟨by omega, List.any_eq_true.2 ⟨_, List.getElem_mem h1, h2⟩⟩
  · rename_i h
    right
    rw [List.findIdx?_eq_none_iff] at h
    exact ⟨by omega, List.any_eq_false.2 fun x hx => by simpa using h x hx⟩
theorem strs_at {A : Nat → Prop} {H : AH} {l : List (List UInt8)} (hl : ∀ s ∈ l, s.length ≤ 1000) (i : Nat) (c : List CT) (h : (strs l)[i]? = some c) : CellsA A H [.str] (((l.map fun s => Value.string ⟨⟨s⟩⟩).drop (i * 1)).take 1) c := by
  unfold strs at h
  rw [List.getElem?_map] at h
  cases hs : l[i]? with
  | none => rw [hs] at h; cases h
  | some s =>
    rw [hs, Option.map_some] at h
    cases h
    obtain ⟨hi, rfl⟩ := List.getElem?_eq_some_iff.1 hs
    rw [Nat.mul_one, List.drop_eq_getElem_cons (by simpa using hi)]
    simp only [List.take_succ_cons, List.take_zero, List.getElem_map, CellsA, CellA]
    refine ⟨⟨trivial, _, rfl, ?_⟩, trivial⟩
    have := hl _ (List.getElem_mem hi)
    show l[i].length ≤ maxLen
    unfold maxLen; omega
theorem fieldsL_small : ∀ s ∈ fieldsL, s.length ≤ 1000 := by decide
theorem str1 {A : Nat → Prop} {H : AH} {xs : List Value} {c : List CT} (h : CellsA A H [.str] xs c) : ∃ u, xs = [.string u] ∧ c = [.v (.string u)] ∧ u.size ≤ maxLen := by
  obtain ⟨h1, h2⟩ := h.len
  obtain ⟨x, rfl⟩ := List.length_eq_one_iff.1 h1
  obtain ⟨d, rfl⟩ := List.length_eq_one_iff.1 h2
  · simp only [CellsA] at h
    obtain ⟨u, rfl, rfl, hu⟩ := h.1.str
    exact ⟨u, rfl, rfl, hu⟩
theorem len_two {α : Type} : ∀ {l : List α}, l.length = 2 → ∃ x y, l = [x, y]
  | [x, y], _ => ⟨x, y, rfl⟩
  | [], h => by simp at h
  | [_], h => by simp at h
  | _ :: _ :: _ :: _, h => by simp at h
theorem str2 {A : Nat → Prop} {H : AH} {xs : List Value} {c : List CT} (h : CellsA A H [.str, .str] xs c) : ∃ u p, xs = [.string u, .string p] ∧ c = [.v (.string u), .v (.string p)] ∧ u.size ≤ maxLen ∧ p.size ≤ maxLen := by
  obtain ⟨h1, h2⟩ := h.len
  obtain ⟨x, y, rfl⟩ := len_two h1
  obtain ⟨d, e, rfl⟩ := len_two h2
  · simp only [CellsA] at h
    obtain ⟨u, rfl, rfl, hu⟩ := h.1.str
    obtain ⟨p, rfl, rfl, hp⟩ := h.2.1.str
    exact ⟨u, p, rfl, rfl, hu, hp⟩
def paramN (k : Nat) : List UInt8 := [112, 97, 114, 97, 109] ++ (([48, 49, 50, 51] : List UInt8).take (k + 1)).drop k
def pIx (q : List UInt8) : Int := if q = paramN 0 then 0 else if q = paramN 1 then 1 else if q = paramN 2 then 2 else if q = paramN 3 then 3 else -1
theorem pIx_found {q : List UInt8} {k : Nat} (hk : k < 4) (h : q = paramN k) : pIx q = k := by
  subst h
  match k, hk with
  | 0, _ => decide
  | 1, _ => decide
  | 2, _ => decide
  | 3, _ => decide
theorem pIx_none {q : List UInt8} (h : ∀ j, j < 4 → q ≠ paramN j) : pIx q = -1 := by
  unfold pIx
  rw [if_neg (h 0 (by omega)), if_neg (h 1 (by omega)), if_neg (h 2 (by omega)), if_neg (h 3 (by omega))]
theorem fields_ok {S : AH} (A : Nat → Prop) : XCall Try.prog 15 [] S fun u H' => Kept S.nx S H' ∧ CellA (fun j => A j ∨ (S.nx ≤ j ∧ j < H'.nx)) H' (.row 16 [.str]) u (.row (strs fieldsL)) := by
  refine x_enter (E := E) (n := 2) (rs := [.tmp 0]) (l := []) (fn_own Try.func15 rfl rfl rfl) (A0 := fun _ => False) (fun j h => h.elim) rfl ?_
  refine sx_seq ?_
  refine sx_region (E := E) ?_
  refine so_assign rfl rfl rfl ?_
  refine so_then ?_
  refine sx_seq ?_
  refine sx_region (E := E) ?_
  refine so_buildSlice (out := fieldsL.map fun s => .string ⟨⟨s⟩⟩) rfl rfl (fun h => nomatch h) (by repeat (first | exact Opps.nil | apply Opps.cons rfl)) Try.underlying67 inf9 rfl rfl (by kernel_rfl) rfl rfl ?_
  intro N1
  refine so_assign rfl rfl rfl ?_
  refine so_then ?_
  refine sx_ret ?_
  refine sk_return1 (.tmp rfl .nil) ?_
  intro H hH
  obtain ⟨h1, h2, h3, h4⟩ := hH.own _ (List.Mem.head _)
  exact ⟨hH.kept, row_own h1 (.inr ⟨h2, h3⟩) rfl (l := strs fieldsL) rfl (by decide) (strs_at fieldsL_small) (by decide) (by decide) (by decide)⟩

theorem rfields_ok {S : AH} (A : Nat → Prop) : XCall Try.prog 16 [] S fun u H' => Kept S.nx S H' ∧ CellA (fun j => A j ∨ (S.nx ≤ j ∧ j < H'.nx)) H' (.row 16 [.str]) u (.row (strs fieldsL)) := by
  refine x_enter (E := E) (n := 2) (rs := [.tmp 0]) (l := []) (fn_own Try.func16 rfl rfl rfl) (A0 := fun _ => False) (fun j h => h.elim) rfl ?_
  refine sx_seq ?_
  refine sx_region (E := E) ?_
  refine so_assign rfl rfl rfl ?_
  refine so_then ?_
  refine sx_seq ?_
  refine sx_region (E := E) ?_
  refine so_buildSlice (out := fieldsL.map fun s => .string ⟨⟨s⟩⟩) rfl rfl (fun h => nomatch h) (by repeat (first | exact Opps.nil | apply Opps.cons rfl)) Try.underlying67 inf9 rfl rfl (by kernel_rfl) rfl rfl ?_
  intro N1
  refine so_assign rfl rfl rfl ?_
  refine so_then ?_
  refine sx_ret ?_
  refine sk_return1 (.tmp rfl .nil) ?_
  intro H hH
  obtain ⟨h1, h2, h3, h4⟩ := hH.own _ (List.Mem.head _)
  exact ⟨hH.kept, row_own h1 (.inr ⟨h2, h3⟩) rfl (l := strs fieldsL) rfl (by decide) (strs_at fieldsL_small) (by decide) (by decide) (by decide)⟩

theorem index_ok {S : AH} {A : Nat → Prop} (hA : ∀ j, A j → j < S.nx) {x : Value} {l : List (List CT)} (q : ByteArray) (hx : CellA A S (.row 16 [.str]) x (.row l)) : XCall Try.prog 58 [x, .string q] S fun v H' => v = .int .i64 (idxI l q.data.toList) ∧ Kept S.nx S H' := by
  obtain ⟨l2, ax, cx, e2, rfl, rx⟩ := hx.rowD
  cases e2
  have hb := rx.len
  refine x_enter (E := E) (n := 19) (rs := [.tmp 4]) (l := [(1, _), (0, _)]) (fn_own Try.func58 rfl rfl rfl) hA rfl ?_
  refine sx_seq ?_
  refine sx_region (E := E) ?_
  refine so_assign rfl rfl rfl ?_
  refine so_then ?_
  refine sx_seq ?_
  refine sx_seq ?_
  refine sx_region (E := E) ?_
  refine so_move rfl rfl rfl ?_
  refine so_lenL rfl rfl rfl rfl rfl rfl Try.underlying67 ?_
  refine so_move rfl rfl rfl ?_
  refine so_then ?_
  refine sx_block ?_
  refine sx_loop (σ := Nat) (fun k => l.length - k) (fun k => [(0, .slice ax l.length cx), (1, .string q), (7, .int .i64 ((l.length : Nat) : Int)), (8, .int .i64 ((k : Nat) : Int))]) (fun _ => S) (fun _ => A) (fun _ => []) (fun k => k ≤ l.length ∧ (∀ j c, j < k → l[j]? = some c → strF c ≠ q.data.toList)) (0) (⟨Nat.zero_le _, fun j b h => absurd h (Nat.not_lt_zero _)⟩) (by repeat (first | exact .nil | refine .cons rfl ?_)) rfl rfl (by repeat (first | exact List.nil_sublist _ | apply List.Sublist.cons_cons | apply List.Sublist.cons)) ?_
  intro s hJ t1
  obtain ⟨hJ, hg⟩ := hJ
  refine sx_seq ?_
  rcases Nat.lt_or_ge s l.length with hk | hk
  · skip
    obtain ⟨px, xs, c, rfl, ix, hc, lx, kx⟩ := rx.at' s hk
    obtain ⟨u, rfl, rfl, hu⟩ := str1 kx
    obtain ⟨x0, e0, lx⟩ := aloads_one lx
    cases e0
    refine sx_region (E := E) ?_
    refine so_bin rfl rfl rfl rfl (by first | exact bin_lss_t (by omega) | exact bin_lss_f (by omega)) ?_
    refine so_then ?_
    refine sx_seq ?_
    refine sx_true rfl ?_
    refine sx_skip ?_
    refine sk_then ?_
    refine sx_seq ?_
    refine sx_block ?_
    refine sx_seq ?_
    refine sx_region (E := E) ?_
    refine so_move rfl rfl rfl ?_
    refine so_assign rfl rfl rfl ?_
    refine so_then ?_
    refine sx_seq ?_
    by_cases heq : strF [.v (.string u)] = q.data.toList
    · skip
      have heq2 : q.data.toList = u.data.toList := heq.symm
      refine sx_region (E := E) ?_
      refine so_move rfl rfl rfl ?_
      refine so_move rfl rfl rfl ?_
      refine so_move rfl rfl rfl ?_
      first | refine so_indexO rfl rfl rfl rfl Try.underlying67 inf9 rfl (by omega) rfl ?_ | refine so_index rfl rfl rfl rfl Try.underlying67 inf9 rfl (by omega) ?_
      refine so_load rfl rfl rfl (by first | exact ld_own Try.underlying9 rfl (by repeat (first | exact List.Mem.head _ | apply List.Mem.tail)) (by first | exact cellsOf_get rfl | rfl) | exact ld_data Try.underlying9 rfl (by first | assumption | exact InA.add (by assumption) | exact InA.add (InA.add (by assumption))) (by assumption)) ?_
      refine so_bin rfl rfl rfl rfl (by first | exact bin_seql_t (by first | rfl | assumption | decide) | exact bin_seql_f (by first | rfl | assumption | decide)) ?_
      refine so_then ?_
      refine sx_true rfl ?_
      refine sx_seq ?_
      refine sx_region (E := E) ?_
      refine so_move rfl rfl rfl ?_
      refine so_assign rfl rfl rfl ?_
      refine so_then ?_
      refine sx_ret ?_
      refine sk_block_ret ?_
      refine sk_then_ret ?_
      refine sk_loop_ret ?_
      refine sk_block_ret ?_
      refine sk_then_ret ?_
      refine sk_return1 (.tmp rfl .nil) ?_
      exact fun H hH => ⟨by rw [idxI_found hc heq hg], hH.kept⟩
    · skip
      have heq2 : q.data.toList ≠ u.data.toList := fun e => heq e.symm
      refine sx_region (E := E) ?_
      refine so_move rfl rfl rfl ?_
      refine so_move rfl rfl rfl ?_
      refine so_move rfl rfl rfl ?_
      first | refine so_indexO rfl rfl rfl rfl Try.underlying67 inf9 rfl (by omega) rfl ?_ | refine so_index rfl rfl rfl rfl Try.underlying67 inf9 rfl (by omega) ?_
      refine so_load rfl rfl rfl (by first | exact ld_own Try.underlying9 rfl (by repeat (first | exact List.Mem.head _ | apply List.Mem.tail)) (by first | exact cellsOf_get rfl | rfl) | exact ld_data Try.underlying9 rfl (by first | assumption | exact InA.add (by assumption) | exact InA.add (InA.add (by assumption))) (by assumption)) ?_
      refine so_bin rfl rfl rfl rfl (by first | exact bin_seql_t (by first | rfl | assumption | decide) | exact bin_seql_f (by first | rfl | assumption | decide)) ?_
      refine so_then ?_
      refine sx_false rfl ?_
      refine sx_skip ?_
      refine sk_block ?_
      refine sk_then ?_
      refine sx_region (E := E) ?_
      refine so_bin rfl rfl rfl rfl (by first | exact bin_incr (by omega) | exact bin_add (wrap64 (by omega) (by omega)) | exact bin_add rfl) ?_
      refine so_move rfl rfl rfl ?_
      refine so_nil ?_
      refine sk_round (s + 1) (show l.length - (s + 1) < l.length - s by omega) ⟨by omega, fun j b2 hj hb2 => ?_⟩ (by repeat (first | exact .nil | refine .cons rfl ?_)) rfl rfl (by repeat (first | exact List.nil_sublist _ | apply List.Sublist.cons_cons | apply List.Sublist.cons))
      by_cases e : j = s
      · subst e; rw [hc] at hb2; cases hb2; exact heq
      · exact hg j b2 (by omega) hb2
  · skip
    refine sx_region (E := E) ?_
    refine so_bin rfl rfl rfl rfl (by first | exact bin_lss_t (by omega) | exact bin_lss_f (by omega)) ?_
    refine so_then ?_
    refine sx_seq ?_
    refine sx_false rfl ?_
    refine sx_exit ?_
    refine sk_then_exit ?_
    refine sk_loop_exit ?_
    refine sk_block_exit ?_
    refine sk_then ?_
    refine sx_seq ?_
    refine sx_region (E := E) ?_
    refine so_assign rfl rfl rfl ?_
    refine so_then ?_
    refine sx_ret ?_
    refine sk_return1 (.tmp rfl .nil) ?_
    exact fun H hH => ⟨by rw [idxI_none fun j c h1 h2 => hg j c (by omega) h2], hH.kept⟩

theorem contains_ok {S : AH} {A : Nat → Prop} (hA : ∀ j, A j → j < S.nx) {x : Value} {l : List (List CT)} (q : ByteArray) (hx : CellA A S (.row 16 [.str]) x (.row l)) : XCall Try.prog 45 [x, .string q] S fun v H' => v = .bool (contB l q.data.toList) ∧ Kept S.nx S H' := by
  refine x_enter (E := E) (n := 9) (rs := [.tmp 4]) (l := [(1, _), (0, _)]) (fn_own Try.func45 rfl rfl rfl) hA rfl ?_
  refine sx_seq ?_
  refine sx_region (E := E) ?_
  refine so_assign rfl rfl rfl ?_
  refine so_then ?_
  refine sx_seq ?_
  rcases idx_cont l q.data.toList with ⟨hi, hc⟩ | ⟨hi, hc⟩
  · skip
    refine sx_region (E := E) ?_
    refine so_move rfl rfl rfl ?_
    refine so_move rfl rfl rfl ?_
    refine so_call rfl rfl (fun h => nomatch h) rfl has58 (by repeat (first | exact Opvs.nil | apply Opvs.cons rfl)) (fun H hH => index_ok hH.lt q (CellA.gr hH.gr _ _ _ hx)) ?_
    refine so_bin rfl rfl rfl rfl (by first | exact bin_geq_t (by omega) | exact bin_geq_f (by omega)) ?_
    refine so_assign rfl rfl rfl ?_
    refine so_then ?_
    refine sx_ret ?_
    refine sk_return1 (.tmp rfl .nil) ?_
    exact fun H hH => ⟨by rw [hc], hH.kept⟩
  · skip
    refine sx_region (E := E) ?_
    refine so_move rfl rfl rfl ?_
    refine so_move rfl rfl rfl ?_
    refine so_call rfl rfl (fun h => nomatch h) rfl has58 (by repeat (first | exact Opvs.nil | apply Opvs.cons rfl)) (fun H hH => index_ok hH.lt q (CellA.gr hH.gr _ _ _ hx)) ?_
    refine so_bin rfl rfl rfl rfl (by first | exact bin_geq_t (by omega) | exact bin_geq_f (by omega)) ?_
    refine so_assign rfl rfl rfl ?_
    refine so_then ?_
    refine sx_ret ?_
    refine sk_return1 (.tmp rfl .nil) ?_
    exact fun H hH => ⟨by rw [hc], hH.kept⟩

theorem rfield_ok {S : AH} (q : ByteArray) : XCall Try.prog 49 [.string q] S fun v H' => v = .bool (contB (strs fieldsL) q.data.toList) ∧ Kept S.nx S H' := by
  refine x_enter (E := E) (n := 18) (rs := [.tmp 2]) (l := [(0, _)]) (fn_own Try.func49 rfl rfl rfl) (A0 := fun _ => False) (fun j h => h.elim) rfl ?_
  refine sx_seq ?_
  refine sx_region (E := E) ?_
  refine so_assign rfl rfl rfl ?_
  refine so_then ?_
  refine sx_seq ?_
  refine sx_region (E := E) ?_
  refine so_callF (fun u H' A' => CellA A' H' (.row 16 [.str]) u (.row (strs fieldsL))) rfl rfl (fun h => nomatch h) rfl has16 (by repeat (first | exact Opvs.nil | apply Opvs.cons rfl)) (fun H hH => rfields_ok _) ?_
  intro fu H1 A1 g1 hf
  obtain ⟨l, ax, cx, ec, rfl, rx⟩ := hf.rowD
  have hl : l = strs fieldsL := by cases ec; rfl
  clear ec hf
  have hb := rx.len
  refine so_assign rfl rfl rfl ?_
  refine so_then ?_
  refine sx_seq ?_
  refine sx_seq ?_
  refine sx_region (E := E) ?_
  refine so_assign rfl rfl rfl ?_
  refine so_then ?_
  refine sx_block ?_
  refine sx_loop (σ := Nat) (fun k => l.length - k) (fun k => [(0, .string q), (3, .slice ax l.length cx), (4, .int .i64 ((k : Nat) : Int))]) (fun _ => H1) (fun _ => A1) (fun _ => []) (fun k => k ≤ l.length ∧ (∀ j c, j < k → l[j]? = some c → strF c ≠ q.data.toList)) (0) (⟨Nat.zero_le _, fun j b h => absurd h (Nat.not_lt_zero _)⟩) (by repeat (first | exact .nil | refine .cons rfl ?_)) rfl rfl (by repeat (first | exact List.nil_sublist _ | apply List.Sublist.cons_cons | apply List.Sublist.cons)) ?_
  intro s hJ t1
  obtain ⟨hJ, hg⟩ := hJ
  refine sx_seq ?_
  refine sx_seq ?_
  rcases Nat.lt_or_ge s l.length with hk | hk
  · skip
    obtain ⟨px, xs, c, rfl, ix, hc, lx, kx⟩ := rx.at' s hk
    obtain ⟨u, rfl, rfl, hu⟩ := str1 kx
    obtain ⟨x0, e0, lx⟩ := aloads_one lx
    cases e0
    refine sx_region (E := E) ?_
    refine so_move rfl rfl rfl ?_
    refine so_move rfl rfl rfl ?_
    refine so_lenL rfl rfl rfl rfl rfl rfl Try.underlying67 ?_
    refine so_bin rfl rfl rfl rfl (by first | exact bin_lss_t (by omega) | exact bin_lss_f (by omega)) ?_
    refine so_then ?_
    refine sx_true rfl ?_
    refine sx_skip ?_
    refine sk_then ?_
    refine sx_seq ?_
    refine sx_block ?_
    refine sx_seq ?_
    by_cases heq : strF [.v (.string u)] = q.data.toList
    · skip
      have heq2 : u.data.toList = q.data.toList := heq
      refine sx_region (E := E) ?_
      refine so_move rfl rfl rfl ?_
      refine so_move rfl rfl rfl ?_
      first | refine so_indexO rfl rfl rfl rfl Try.underlying67 inf9 rfl (by omega) rfl ?_ | refine so_index rfl rfl rfl rfl Try.underlying67 inf9 rfl (by omega) ?_
      refine so_load rfl rfl rfl (by first | exact ld_own Try.underlying9 rfl (by repeat (first | exact List.Mem.head _ | apply List.Mem.tail)) (by first | exact cellsOf_get rfl | rfl) | exact ld_data Try.underlying9 rfl (by first | assumption | exact InA.add (by assumption) | exact InA.add (InA.add (by assumption))) (by assumption)) ?_
      refine so_move rfl rfl rfl ?_
      refine so_bin rfl rfl rfl rfl (by first | exact bin_seql_t (by first | rfl | assumption | decide) | exact bin_seql_f (by first | rfl | assumption | decide)) ?_
      refine so_then ?_
      refine sx_true rfl ?_
      refine sx_seq ?_
      refine sx_region (E := E) ?_
      refine so_assign rfl rfl rfl ?_
      refine so_then ?_
      refine sx_ret ?_
      refine sk_block_ret ?_
      refine sk_then_ret ?_
      refine sk_loop_ret ?_
      refine sk_block_ret ?_
      refine sk_then_ret ?_
      refine sk_return1 (.tmp rfl .nil) ?_
      exact fun H hH => ⟨by rw [← hl, contB_found hc heq], hH.kept⟩
    · skip
      have heq2 : u.data.toList ≠ q.data.toList := heq
      refine sx_region (E := E) ?_
      refine so_move rfl rfl rfl ?_
      refine so_move rfl rfl rfl ?_
      first | refine so_indexO rfl rfl rfl rfl Try.underlying67 inf9 rfl (by omega) rfl ?_ | refine so_index rfl rfl rfl rfl Try.underlying67 inf9 rfl (by omega) ?_
      refine so_load rfl rfl rfl (by first | exact ld_own Try.underlying9 rfl (by repeat (first | exact List.Mem.head _ | apply List.Mem.tail)) (by first | exact cellsOf_get rfl | rfl) | exact ld_data Try.underlying9 rfl (by first | assumption | exact InA.add (by assumption) | exact InA.add (InA.add (by assumption))) (by assumption)) ?_
      refine so_move rfl rfl rfl ?_
      refine so_bin rfl rfl rfl rfl (by first | exact bin_seql_t (by first | rfl | assumption | decide) | exact bin_seql_f (by first | rfl | assumption | decide)) ?_
      refine so_then ?_
      refine sx_false rfl ?_
      refine sx_skip ?_
      refine sk_block ?_
      refine sk_then ?_
      refine sx_region (E := E) ?_
      refine so_move rfl rfl rfl ?_
      refine so_bin rfl rfl rfl rfl (by first | exact bin_incr (by omega) | exact bin_add (wrap64 (by omega) (by omega)) | exact bin_add rfl) ?_
      refine so_assign rfl rfl rfl ?_
      refine so_nil ?_
      refine sk_round (s + 1) (show l.length - (s + 1) < l.length - s by omega) ⟨by omega, fun j b2 hj hb2 => ?_⟩ (by repeat (first | exact .nil | refine .cons rfl ?_)) rfl rfl (by repeat (first | exact List.nil_sublist _ | apply List.Sublist.cons_cons | apply List.Sublist.cons))
      by_cases e : j = s
      · subst e; rw [hc] at hb2; cases hb2; exact heq
      · exact hg j b2 (by omega) hb2
  · skip
    refine sx_region (E := E) ?_
    refine so_move rfl rfl rfl ?_
    refine so_move rfl rfl rfl ?_
    refine so_lenL rfl rfl rfl rfl rfl rfl Try.underlying67 ?_
    refine so_bin rfl rfl rfl rfl (by first | exact bin_lss_t (by omega) | exact bin_lss_f (by omega)) ?_
    refine so_then ?_
    refine sx_false rfl ?_
    refine sx_exit ?_
    refine sk_then_exit ?_
    refine sk_loop_exit ?_
    refine sk_block_exit ?_
    refine sk_then ?_
    refine sx_seq ?_
    refine sx_region (E := E) ?_
    refine so_assign rfl rfl rfl ?_
    refine so_then ?_
    refine sx_ret ?_
    refine sk_return1 (.tmp rfl .nil) ?_
    exact fun H hH => ⟨by rw [← hl, contB_none fun j c h1 h2 => hg j c (by omega) h2], hH.kept⟩

theorem pindex_ok {S : AH} (q : ByteArray) : XCall Try.prog 40 [.string q] S fun v H' => v = .int .i64 (pIx q.data.toList) ∧ Kept S.nx S H' := by
  refine x_enter (E := E) (n := 16) (rs := [.tmp 2]) (l := [(0, _)]) (fn_own Try.func40 rfl rfl rfl) (A0 := fun _ => False) (fun j h => h.elim) rfl ?_
  refine sx_seq ?_
  refine sx_region (E := E) ?_
  refine so_assign rfl rfl rfl ?_
  refine so_then ?_
  refine sx_seq ?_
  refine sx_seq ?_
  refine sx_region (E := E) ?_
  refine so_assign rfl rfl rfl ?_
  refine so_then ?_
  refine sx_block ?_
  refine sx_loop (σ := Nat) (fun k => 4 - k) (fun k => [(0, .string q), (3, .int .i64 ((k : Nat) : Int))]) (fun _ => S) (fun _ => fun _ => False) (fun _ => []) (fun k => k ≤ 4 ∧ (∀ j, j < k → q.data.toList ≠ paramN j)) (0) (⟨Nat.zero_le _, fun j h => absurd h (Nat.not_lt_zero _)⟩) (by repeat (first | exact .nil | refine .cons rfl ?_)) rfl rfl (by repeat (first | exact List.nil_sublist _ | apply List.Sublist.cons_cons | apply List.Sublist.cons)) ?_
  intro s hJ t1
  obtain ⟨hJ, hg⟩ := hJ
  refine sx_seq ?_
  refine sx_seq ?_
  rcases Nat.lt_or_ge s 4 with hk | hk
  · skip
    refine sx_region (E := E) ?_
    refine so_move rfl rfl rfl ?_
    refine so_bin rfl rfl rfl rfl (by first | exact bin_lss_t (by omega) | exact bin_lss_f (by omega)) ?_
    refine so_then ?_
    refine sx_true rfl ?_
    refine sx_skip ?_
    refine sk_then ?_
    refine sx_seq ?_
    refine sx_block ?_
    refine sx_seq ?_
    by_cases heq : q.data.toList = paramN s
    · skip
      refine sx_region (E := E) ?_
      refine so_move rfl rfl rfl ?_
      refine so_move rfl rfl rfl ?_
      refine so_move rfl rfl rfl ?_
      refine so_bin rfl rfl rfl rfl (by first | exact bin_incr (by omega) | exact bin_add (wrap64 (by omega) (by omega)) | exact bin_add rfl) ?_
      refine so_cutS rfl rfl rfl Try.underlying9 (.some rfl) (.some rfl) (abounds_lh (len := 4) (by omega) (show s + 1 ≤ 4 by omega)) ?_
      refine so_bin rfl rfl rfl rfl (by first | exact bin_sadd (by show 5 + ((([48, 49, 50, 51] : List UInt8).take (s + 1)).drop s).length ≤ 9223372036854775807; simp; omega) | exact bin_incr (by omega) | exact bin_add (wrap64 (by omega) (by omega)) | exact bin_add rfl) ?_
      refine so_bin rfl rfl rfl rfl (by first | exact bin_seql_t (by first | rfl | assumption | decide) | exact bin_seql_f (by first | rfl | assumption | decide)) ?_
      refine so_then ?_
      refine sx_true rfl ?_
      refine sx_seq ?_
      refine sx_region (E := E) ?_
      refine so_move rfl rfl rfl ?_
      refine so_assign rfl rfl rfl ?_
      refine so_then ?_
      refine sx_ret ?_
      refine sk_block_ret ?_
      refine sk_then_ret ?_
      refine sk_loop_ret ?_
      refine sk_block_ret ?_
      refine sk_then_ret ?_
      refine sk_return1 (.tmp rfl .nil) ?_
      exact fun H hH => ⟨by rw [pIx_found hk heq], hH.kept⟩
    · skip
      refine sx_region (E := E) ?_
      refine so_move rfl rfl rfl ?_
      refine so_move rfl rfl rfl ?_
      refine so_move rfl rfl rfl ?_
      refine so_bin rfl rfl rfl rfl (by first | exact bin_incr (by omega) | exact bin_add (wrap64 (by omega) (by omega)) | exact bin_add rfl) ?_
      refine so_cutS rfl rfl rfl Try.underlying9 (.some rfl) (.some rfl) (abounds_lh (len := 4) (by omega) (show s + 1 ≤ 4 by omega)) ?_
      refine so_bin rfl rfl rfl rfl (by first | exact bin_sadd (by show 5 + ((([48, 49, 50, 51] : List UInt8).take (s + 1)).drop s).length ≤ 9223372036854775807; simp; omega) | exact bin_incr (by omega) | exact bin_add (wrap64 (by omega) (by omega)) | exact bin_add rfl) ?_
      refine so_bin rfl rfl rfl rfl (by first | exact bin_seql_t (by first | rfl | assumption | decide) | exact bin_seql_f (by first | rfl | assumption | decide)) ?_
      refine so_then ?_
      refine sx_false rfl ?_
      refine sx_skip ?_
      refine sk_block ?_
      refine sk_then ?_
      refine sx_region (E := E) ?_
      refine so_move rfl rfl rfl ?_
      refine so_bin rfl rfl rfl rfl (by first | exact bin_incr (by omega) | exact bin_add (wrap64 (by omega) (by omega)) | exact bin_add rfl) ?_
      refine so_assign rfl rfl rfl ?_
      refine so_nil ?_
      refine sk_round (s + 1) (show 4 - (s + 1) < 4 - s by omega) ⟨by omega, fun j hj => ?_⟩ (by repeat (first | exact .nil | refine .cons rfl ?_)) rfl rfl (by repeat (first | exact List.nil_sublist _ | apply List.Sublist.cons_cons | apply List.Sublist.cons))
      by_cases e : j = s
      · subst e; exact heq
      · exact hg j (by omega)
  · skip
    refine sx_region (E := E) ?_
    refine so_move rfl rfl rfl ?_
    refine so_bin rfl rfl rfl rfl (by first | exact bin_lss_t (by omega) | exact bin_lss_f (by omega)) ?_
    refine so_then ?_
    refine sx_false rfl ?_
    refine sx_exit ?_
    refine sk_then_exit ?_
    refine sk_loop_exit ?_
    refine sk_block_exit ?_
    refine sk_then ?_
    refine sx_seq ?_
    refine sx_region (E := E) ?_
    refine so_assign rfl rfl rfl ?_
    refine so_then ?_
    refine sx_ret ?_
    refine sk_return1 (.tmp rfl .nil) ?_
    exact fun H hH => ⟨by rw [pIx_none fun j hj => hg j (by omega)], hH.kept⟩

end Go.Proofs.Ytaedeadgbojmnaa
