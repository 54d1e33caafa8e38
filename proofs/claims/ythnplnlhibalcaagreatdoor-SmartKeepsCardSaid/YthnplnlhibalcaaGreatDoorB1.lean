/-
  Walks, laid by program.
-/
import Derived.Test.YthnplnlhibalcaaGreatDoorB0
import Derived.Test.YthnplnlhibalcaaGreatDoorS1
set_option linter.unusedVariables false
set_option linter.unusedSimpArgs false
set_option maxRecDepth 100000
namespace Go.Proofs.YthnplnlhibalcaaGreatDoor
open Go Go.AM

theorem str_len {p : ByteArray} (h : p.size ≤ maxLen) : p.data.toList.length ≤ 9223372036854775807 := by
  have e : p.data.toList.length = p.size := by rw [Array.length_toList]; rfl
  rw [e]; exact h
theorem len_three {α : Type} : ∀ {l : List α}, l.length = 3 → ∃ x y z, l = [x, y, z]
  | [x, y, z], _ => ⟨x, y, z, rfl⟩
  | [], h => by simp at h
  | [_], h => by simp at h
  | [_, _], h => by simp at h
  | _ :: _ :: _ :: _ :: _, h => by simp at h
/-- a file, opened -/
theorem file3 {A : Nat → Prop} {H : AH} {xs : List Value} {c : List CT} (h : CellsA A H k24 xs c) : ∃ u n p, xs = [.string u, .int .i64 n, .string p] ∧ c = [.v (.string u), .v (.int .i64 n), .v (.string p)] ∧ u.size ≤ maxLen ∧ (Lit.int .i64 n).wf = true ∧ p.size ≤ maxLen := by
  obtain ⟨h1, h2⟩ := h.len
  obtain ⟨x, y, z, rfl⟩ := len_three h1
  obtain ⟨d, e, f, rfl⟩ := len_three h2
  simp only [k24, CellsA] at h
  obtain ⟨u, rfl, rfl, hu⟩ := h.1.str
  obtain ⟨n, rfl, rfl, hn⟩ := h.2.1.int
  obtain ⟨p, rfl, rfl, hp⟩ := h.2.2.1.str
  exact ⟨u, n, p, rfl, rfl, hu, hn, hp⟩
theorem file3_mk {A : Nat → Prop} {H : AH} {u p : ByteArray} {n : Int} (hu : u.size ≤ maxLen) (hn : (Lit.int .i64 n).wf = true) (hp : p.size ≤ maxLen) : CellsA A H k24 [.string u, .int .i64 n, .string p] [.v (.string u), .v (.int .i64 n), .v (.string p)] := by
  simp only [k24, CellsA, CellA]
  exact ⟨⟨trivial, u, rfl, hu⟩, ⟨trivial, n, rfl, hn⟩, ⟨trivial, p, rfl, hp⟩, trivial⟩
def FileLike (d : List CT) : Prop := ∃ u n p, d = [.v (.string u), .v (.int .i64 n), .v (.string p)] ∧ u.size ≤ maxLen ∧ (Lit.int .i64 n).wf = true ∧ p.size ≤ maxLen
theorem row_files {A : Nat → Prop} {H : AH} {b : Nat} {l : List (List CT)} {a : Option Addr} {cap : Nat} (r : RowD A H b k24 l a cap) : ∀ c ∈ l, FileLike c := by
  intro c hc
  obtain ⟨i, hi, rfl⟩ := List.getElem_of_mem hc
  obtain ⟨p, xs, c, _, _, h3, _, h5⟩ := r.at' i hi
  obtain ⟨u, n, q, _, e, hb⟩ := file3 h5
  rw [List.getElem?_eq_getElem hi] at h3
  rw [Option.some.inj h3]
  exact ⟨u, n, q, e, hb⟩
/-- a file's cells, or none -/
def latV : Option (List CT) → List Value
  | none => [.string ⟨#[]⟩, .int .i64 0, .string ⟨#[]⟩]
  | some c => c.map CT.val
def FileO (o : Option (List CT)) : Prop := ∀ d, o = some d → FileLike d
theorem latV_one {o : Option (List CT)} (h : FileO o) : allOne (latV o) = true := by
  cases o with
  | none => rfl
  | some d => obtain ⟨u, n, p, rfl, _⟩ := h d rfl; rfl
theorem latV_len {o : Option (List CT)} (h : FileO o) : (latV o).length = 3 := by
  cases o with
  | none => rfl
  | some d => obtain ⟨u, n, p, rfl, _⟩ := h d rfl; rfl
theorem latV_cells {A : Nat → Prop} {H : AH} {o : Option (List CT)} (h : FileO o) : ∃ cs, CellsA A H k24 (latV o) cs := by
  cases o with
  | none => exact ⟨_, file3_mk (u := ⟨#[]⟩) (n := 0) (p := ⟨#[]⟩) (by decide) (by decide) (by decide)⟩
  | some d => obtain ⟨u, n, p, rfl, h1, h2, h3⟩ := h d rfl; exact ⟨_, file3_mk h1 h2 h3⟩
theorem lat_files {p : List CT → Bool} {l : List (List CT)} (h : ∀ c ∈ l, FileLike c) : FileO (lat p l) := fun d hd => h d (lat_mem hd).1
/-- the first file with this name and revision -/
def fnd (l : List (List CT)) (q : Txt) (r : Int) : Option (List CT) := l.find? fun c => decide (nmOf c = q) && decide (rvOf c = r)
theorem fnd_files {l : List (List CT)} {q : Txt} {r : Int} (h : ∀ c ∈ l, FileLike c) : FileO (fnd l q r) := fun d hd => h d (List.mem_of_find?_eq_some hd)
theorem fnd_dup {l : List (List CT)} {f : List CT} : (fnd l (nmOf f) (rvOf f)).isSome = dupB l f := by
  rw [fnd, List.isSome_find?]; rfl
theorem fnd_found {l : List (List CT)} {q : Txt} {r : Int} {k : Nat} {c : List CT} (hc : l[k]? = some c) (h1 : nmOf c = q) (h2 : rvOf c = r) (hb : ∀ j d, j < k → l[j]? = some d → ¬ (nmOf d = q ∧ rvOf d = r)) : fnd l q r = some c := by
  rw [fnd, List.find?_eq_some_iff_getElem]
  obtain ⟨hk, rfl⟩ := List.getElem?_eq_some_iff.1 hc
  refine ⟨by simp [h1, h2], k, hk, rfl, fun j hj => ?_⟩
  have := hb j _ hj (List.getElem?_eq_getElem (by omega))
  cases h : (decide (nmOf l[j] = q) && decide (rvOf l[j] = r)) with
  | false => rfl
  | true => exact absurd (by simpa using h) this
theorem fnd_none {l : List (List CT)} {q : Txt} {r : Int} (hb : ∀ j d, j < l.length → l[j]? = some d → ¬ (nmOf d = q ∧ rvOf d = r)) : fnd l q r = none := by
  rw [fnd, List.find?_eq_none]
  intro d hd
  obtain ⟨j, hj⟩ := List.getElem?_of_mem hd
  have := hb j d (lt_of_get hj) hj
  simpa using this
section
variable {u p : ByteArray} {n : Int}
theorem fileE_13 (h : nameB u.data.toList = false) : fileE [.v (.string u), .v (.int .i64 n), .v (.string p)] = 13 := by
  show (if nameB u.data.toList = false then (13 : Int) else _) = 13
  rw [if_pos h]
theorem fileE_2 (h : nameB u.data.toList = true) (h2 : n < 1 ∨ 1073741824 < n) : fileE [.v (.string u), .v (.int .i64 n), .v (.string p)] = 2 := by
  show (if nameB u.data.toList = false then (13 : Int) else if n < 1 ∨ 1073741824 < n then 2 else _) = 2
  rw [if_neg (by simp [h]), if_pos h2]
theorem fileE_3 (h : nameB u.data.toList = true) (h2 : 1 ≤ n ∧ n ≤ 1073741824) (h3 : 1048576 < p.data.toList.length) : fileE [.v (.string u), .v (.int .i64 n), .v (.string p)] = 3 := by
  show (if nameB u.data.toList = false then (13 : Int) else if n < 1 ∨ 1073741824 < n then 2 else if 1048576 < p.data.toList.length then 3 else 0) = 3
  rw [if_neg (by simp [h]), if_neg (by omega), if_pos h3]
theorem fileE_0 (h : nameB u.data.toList = true) (h2 : 1 ≤ n ∧ n ≤ 1073741824) (h3 : p.data.toList.length ≤ 1048576) : fileE [.v (.string u), .v (.int .i64 n), .v (.string p)] = 0 := by
  show (if nameB u.data.toList = false then (13 : Int) else if n < 1 ∨ 1073741824 < n then 2 else if 1048576 < p.data.toList.length then 3 else 0) = 0
  rw [if_neg (by simp [h]), if_neg (by omega), if_neg (by omega)]
end
theorem rev3 (n : Int) : n < 1 ∨ (1 ≤ n ∧ n ≤ 1073741824) ∨ 1073741824 < n := by omega
theorem bef4 (a b : Txt) (n m : Int) : a < b ∨ (¬ a < b ∧ a = b ∧ n < m) ∨ (¬ a < b ∧ a = b ∧ ¬ n < m) ∨ (¬ a < b ∧ a ≠ b) := by
  by_cases h1 : a < b
  · exact .inl h1
  · by_cases h2 : a = b
    · by_cases h3 : n < m
      · exact .inr (.inl ⟨h1, h2, h3⟩)
      · exact .inr (.inr (.inl ⟨h1, h2, h3⟩))
    · exact .inr (.inr (.inr ⟨h1, h2⟩))
theorem befB_val (u p u2 p2 : ByteArray) (n n2 : Int) : befB [.v (.string u), .v (.int .i64 n), .v (.string p)] [.v (.string u2), .v (.int .i64 n2), .v (.string p2)] = (decide (u.data.toList < u2.data.toList) || (decide (u.data.toList = u2.data.toList) && decide (n < n2))) := rfl
theorem prev3 {l : List (List CT)} {k : Nat} (c : List CT) (hk : k < l.length) : k = 0 ∨ (∃ k1 b, k = k1 + 1 ∧ l[k1]? = some b ∧ befB b c = true) ∨ (∃ k1 b, k = k1 + 1 ∧ l[k1]? = some b ∧ befB b c = false) := by
  cases k with
  | zero => exact .inl rfl
  | succ k =>
    obtain ⟨b, hb⟩ : ∃ b, l[k]? = some b := ⟨_, List.getElem?_eq_getElem (by omega)⟩
    cases h : befB b c with
    | true => exact .inr (.inl ⟨k, b, rfl, hb, h⟩)
    | false => exact .inr (.inr ⟨k, b, rfl, hb, h⟩)
theorem isName_ok {S : AH} (q : ByteArray) (hs : q.data.toList.length ≤ 9223372036854775807) : XCall Tryz.prog 31 [.string q] S fun v H' => v = .bool (nameB q.data.toList) ∧ Kept S.nx S H' := by
  have ho := hs
  refine x_enter (E := E) (n := 28) (rs := [.tmp 2]) (l := [(0, _)]) (fn_own Tryz.func31 rfl rfl rfl) (A0 := fun _ => False) (fun j h => h.elim) rfl ?_
  refine sx_seq ?_
  refine sx_region (E := E) ?_
  refine so_assign rfl rfl rfl ?_
  refine so_then ?_
  refine sx_seq ?_
  refine sx_seq ?_
  refine sx_region (E := E) ?_
  refine so_move rfl rfl rfl ?_
  refine so_lenS rfl rfl rfl rfl rfl rfl Tryz.underlying9 ?_
  refine so_move rfl rfl rfl ?_
  refine so_then ?_
  refine sx_block ?_
  refine sx_loop (σ := Nat) (fun k => q.data.toList.length - k) (fun k => [(0, .string q), (5, .int .i64 ((q.data.toList.length : Nat) : Int)), (6, .int .i64 ((k : Nat) : Int))]) (fun _ => S) (fun _ => fun _ => False) (fun _ => []) (fun k => k ≤ q.data.toList.length ∧ (∀ j b, j < k → q.data.toList[j]? = some b → 33 ≤ b.toNat ∧ b.toNat ≤ 126)) (0) (⟨Nat.zero_le _, fun j b h => absurd h (Nat.not_lt_zero _)⟩) (by repeat (first | exact .nil | refine .cons rfl ?_)) rfl rfl (by repeat (first | exact List.nil_sublist _ | apply List.Sublist.cons_cons | apply List.Sublist.cons)) ?_
  intro s hJ t1
  obtain ⟨hJ, hg⟩ := hJ
  refine sx_seq ?_
  rcases Nat.lt_or_ge s q.data.toList.length with hk | hk
  · skip
    obtain ⟨b, hb⟩ : ∃ b, q.data.toList[s]? = some b := ⟨_, List.getElem?_eq_getElem hk⟩
    refine sx_region (E := E) ?_
    refine so_bin rfl rfl rfl rfl (by first | exact bin_lss_t (by omega) | exact bin_lss_f (by omega)) ?_
    refine so_then ?_
    refine sx_seq ?_
    refine sx_true rfl ?_
    refine sx_skip ?_
    refine sk_then ?_
    refine sx_seq ?_
    refine sx_block ?_
    refine sx_seq ?_
    refine sx_region (E := E) ?_
    refine so_move rfl rfl rfl ?_
    refine so_assign rfl rfl rfl ?_
    refine so_then ?_
    refine sx_seq ?_
    rcases byte3 b with hc | hc | hc
    · skip
      refine sx_region (E := E) ?_
      refine so_move rfl rfl rfl ?_
      refine so_move rfl rfl rfl ?_
      refine so_strAt rfl rfl rfl rfl Tryz.underlying9 (by assumption) ?_
      refine so_bin rfl rfl rfl rfl (by first | exact bin_lss_t (by omega) | exact bin_lss_f (by omega)) ?_
      refine so_move rfl rfl rfl ?_
      first | refine so_move rfl rfl rfl ?_ | refine so_skip rfl rfl rfl ?_
      first | refine so_move rfl rfl rfl ?_ | refine so_skip rfl rfl rfl ?_
      first | refine so_strAt rfl rfl rfl rfl Tryz.underlying9 (by assumption) ?_ | refine so_skip rfl rfl rfl ?_
      first | refine so_bin rfl rfl rfl rfl (by first | exact bin_gtr_t (by omega) | exact bin_gtr_f (by omega)) ?_ | refine so_skip rfl rfl rfl ?_
      first | refine so_pick_t rfl rfl rfl rfl ?_ | refine so_pick_f rfl rfl rfl rfl ?_
      refine so_then ?_
      refine sx_true rfl ?_
      refine sx_seq ?_
      refine sx_region (E := E) ?_
      refine so_assign rfl rfl rfl ?_
      refine so_then ?_
      refine sx_ret ?_
      refine sk_block_ret ?_
      refine sk_then_ret ?_
      refine sk_loop_ret ?_
      refine sk_block_ret ?_
      refine sk_then_ret ?_
      refine sk_return1 (.tmp rfl .nil) ?_
      exact fun H hH => ⟨by rw [nameB_bad hb (.inl hc)], hH.kept⟩
    · skip
      refine sx_region (E := E) ?_
      refine so_move rfl rfl rfl ?_
      refine so_move rfl rfl rfl ?_
      refine so_strAt rfl rfl rfl rfl Tryz.underlying9 (by assumption) ?_
      refine so_bin rfl rfl rfl rfl (by first | exact bin_lss_t (by omega) | exact bin_lss_f (by omega)) ?_
      refine so_move rfl rfl rfl ?_
      first | refine so_move rfl rfl rfl ?_ | refine so_skip rfl rfl rfl ?_
      first | refine so_move rfl rfl rfl ?_ | refine so_skip rfl rfl rfl ?_
      first | refine so_strAt rfl rfl rfl rfl Tryz.underlying9 (by assumption) ?_ | refine so_skip rfl rfl rfl ?_
      first | refine so_bin rfl rfl rfl rfl (by first | exact bin_gtr_t (by omega) | exact bin_gtr_f (by omega)) ?_ | refine so_skip rfl rfl rfl ?_
      first | refine so_pick_t rfl rfl rfl rfl ?_ | refine so_pick_f rfl rfl rfl rfl ?_
      refine so_then ?_
      refine sx_false rfl ?_
      refine sx_skip ?_
      refine sk_block ?_
      refine sk_then ?_
      refine sx_region (E := E) ?_
      refine so_bin rfl rfl rfl rfl (by first | exact bin_incr (by omega) | exact bin_add (wrap64 (by omega) (by omega)) | exact bin_add rfl) ?_
      refine so_move rfl rfl rfl ?_
      refine so_nil ?_
      refine sk_round (s + 1) (show q.data.toList.length - (s + 1) < q.data.toList.length - s by omega) ⟨by omega, fun j b2 hj hb2 => ?_⟩ (by repeat (first | exact .nil | refine .cons rfl ?_)) rfl rfl (by repeat (first | exact List.nil_sublist _ | apply List.Sublist.cons_cons | apply List.Sublist.cons))
      by_cases e : j = s
      · subst e; rw [hb] at hb2; cases hb2; exact hc
      · exact hg j b2 (by omega) hb2
    · skip
      refine sx_region (E := E) ?_
      refine so_move rfl rfl rfl ?_
      refine so_move rfl rfl rfl ?_
      refine so_strAt rfl rfl rfl rfl Tryz.underlying9 (by assumption) ?_
      refine so_bin rfl rfl rfl rfl (by first | exact bin_lss_t (by omega) | exact bin_lss_f (by omega)) ?_
      refine so_move rfl rfl rfl ?_
      first | refine so_move rfl rfl rfl ?_ | refine so_skip rfl rfl rfl ?_
      first | refine so_move rfl rfl rfl ?_ | refine so_skip rfl rfl rfl ?_
      first | refine so_strAt rfl rfl rfl rfl Tryz.underlying9 (by assumption) ?_ | refine so_skip rfl rfl rfl ?_
      first | refine so_bin rfl rfl rfl rfl (by first | exact bin_gtr_t (by omega) | exact bin_gtr_f (by omega)) ?_ | refine so_skip rfl rfl rfl ?_
      first | refine so_pick_t rfl rfl rfl rfl ?_ | refine so_pick_f rfl rfl rfl rfl ?_
      refine so_then ?_
      refine sx_true rfl ?_
      refine sx_seq ?_
      refine sx_region (E := E) ?_
      refine so_assign rfl rfl rfl ?_
      refine so_then ?_
      refine sx_ret ?_
      refine sk_block_ret ?_
      refine sk_then_ret ?_
      refine sk_loop_ret ?_
      refine sk_block_ret ?_
      refine sk_then_ret ?_
      refine sk_return1 (.tmp rfl .nil) ?_
      exact fun H hH => ⟨by rw [nameB_bad hb (.inr hc)], hH.kept⟩
  · skip
    refine sx_region (E := E) ?_
    refine so_bin rfl rfl rfl rfl (by first | exact bin_lss_t (by omega) | exact bin_lss_f (by omega)) ?_
    refine so_then ?_
    refine sx_seq ?_
    refine sx_false rfl ?_
    refine sx_exit ?_
    refine sk_then_exit ?_
    refine sk_loop_exit ?_
    refine sk_block_exit ?_
    refine sk_then ?_
    refine sx_seq ?_
    rcases len3 q.data.toList.length with hc | hc | hc
    · skip
      refine sx_region (E := E) ?_
      refine so_move rfl rfl rfl ?_
      refine so_lenS rfl rfl rfl rfl rfl rfl Tryz.underlying9 ?_
      refine so_bin rfl rfl rfl rfl (by first | exact bin_geq_t (by omega) | exact bin_geq_f (by omega)) ?_
      refine so_move rfl rfl rfl ?_
      first | refine so_move rfl rfl rfl ?_ | refine so_skip rfl rfl rfl ?_
      first | refine so_lenS rfl rfl rfl rfl rfl rfl Tryz.underlying9 ?_ | refine so_skip rfl rfl rfl ?_
      first | refine so_bin rfl rfl rfl rfl (by first | exact bin_leq_t (by omega) | exact bin_leq_f (by omega)) ?_ | refine so_skip rfl rfl rfl ?_
      first | refine so_pick_t rfl rfl rfl rfl ?_ | refine so_pick_f rfl rfl rfl rfl ?_
      refine so_assign rfl rfl rfl ?_
      refine so_then ?_
      refine sx_ret ?_
      refine sk_return1 (.tmp rfl .nil) ?_
      exact fun H hH => ⟨by rw [nameB_len fun j b h1 h2 => hg j b (by omega) h2, decide_eq_false (by omega)]; rfl, hH.kept⟩
    · skip
      refine sx_region (E := E) ?_
      refine so_move rfl rfl rfl ?_
      refine so_lenS rfl rfl rfl rfl rfl rfl Tryz.underlying9 ?_
      refine so_bin rfl rfl rfl rfl (by first | exact bin_geq_t (by omega) | exact bin_geq_f (by omega)) ?_
      refine so_move rfl rfl rfl ?_
      first | refine so_move rfl rfl rfl ?_ | refine so_skip rfl rfl rfl ?_
      first | refine so_lenS rfl rfl rfl rfl rfl rfl Tryz.underlying9 ?_ | refine so_skip rfl rfl rfl ?_
      first | refine so_bin rfl rfl rfl rfl (by first | exact bin_leq_t (by omega) | exact bin_leq_f (by omega)) ?_ | refine so_skip rfl rfl rfl ?_
      first | refine so_pick_t rfl rfl rfl rfl ?_ | refine so_pick_f rfl rfl rfl rfl ?_
      refine so_assign rfl rfl rfl ?_
      refine so_then ?_
      refine sx_ret ?_
      refine sk_return1 (.tmp rfl .nil) ?_
      exact fun H hH => ⟨by rw [nameB_len fun j b h1 h2 => hg j b (by omega) h2, decide_eq_true hc.1, decide_eq_true hc.2]; rfl, hH.kept⟩
    · skip
      refine sx_region (E := E) ?_
      refine so_move rfl rfl rfl ?_
      refine so_lenS rfl rfl rfl rfl rfl rfl Tryz.underlying9 ?_
      refine so_bin rfl rfl rfl rfl (by first | exact bin_geq_t (by omega) | exact bin_geq_f (by omega)) ?_
      refine so_move rfl rfl rfl ?_
      first | refine so_move rfl rfl rfl ?_ | refine so_skip rfl rfl rfl ?_
      first | refine so_lenS rfl rfl rfl rfl rfl rfl Tryz.underlying9 ?_ | refine so_skip rfl rfl rfl ?_
      first | refine so_bin rfl rfl rfl rfl (by first | exact bin_leq_t (by omega) | exact bin_leq_f (by omega)) ?_ | refine so_skip rfl rfl rfl ?_
      first | refine so_pick_t rfl rfl rfl rfl ?_ | refine so_pick_f rfl rfl rfl rfl ?_
      refine so_assign rfl rfl rfl ?_
      refine so_then ?_
      refine sx_ret ?_
      refine sk_return1 (.tmp rfl .nil) ?_
      exact fun H hH => ⟨by rw [nameB_len fun j b h1 h2 => hg j b (by omega) h2, decide_eq_false (p := q.data.toList.length ≤ 32) (by omega), Bool.and_false], hH.kept⟩

theorem rname_ok {S : AH} (q : ByteArray) (hs : q.data.toList.length ≤ 9223372036854775807) : XCall Tryz.prog 33 [.string q] S fun v H' => v = .bool (nameB q.data.toList) ∧ Kept S.nx S H' := by
  have ho := hs
  refine x_enter (E := E) (n := 28) (rs := [.tmp 2]) (l := [(0, _)]) (fn_own Tryz.func33 rfl rfl rfl) (A0 := fun _ => False) (fun j h => h.elim) rfl ?_
  refine sx_seq ?_
  refine sx_region (E := E) ?_
  refine so_assign rfl rfl rfl ?_
  refine so_then ?_
  refine sx_seq ?_
  refine sx_seq ?_
  refine sx_region (E := E) ?_
  refine so_assign rfl rfl rfl ?_
  refine so_then ?_
  refine sx_block ?_
  refine sx_loop (σ := Nat) (fun k => q.data.toList.length - k) (fun k => [(0, .string q), (3, .int .i64 ((k : Nat) : Int))]) (fun _ => S) (fun _ => fun _ => False) (fun _ => []) (fun k => k ≤ q.data.toList.length ∧ (∀ j b, j < k → q.data.toList[j]? = some b → 33 ≤ b.toNat ∧ b.toNat ≤ 126)) (0) (⟨Nat.zero_le _, fun j b h => absurd h (Nat.not_lt_zero _)⟩) (by repeat (first | exact .nil | refine .cons rfl ?_)) rfl rfl (by repeat (first | exact List.nil_sublist _ | apply List.Sublist.cons_cons | apply List.Sublist.cons)) ?_
  intro s hJ t1
  obtain ⟨hJ, hg⟩ := hJ
  refine sx_seq ?_
  refine sx_seq ?_
  rcases Nat.lt_or_ge s q.data.toList.length with hk | hk
  · skip
    obtain ⟨b, hb⟩ : ∃ b, q.data.toList[s]? = some b := ⟨_, List.getElem?_eq_getElem hk⟩
    refine sx_region (E := E) ?_
    refine so_move rfl rfl rfl ?_
    refine so_move rfl rfl rfl ?_
    refine so_lenS rfl rfl rfl rfl rfl rfl Tryz.underlying9 ?_
    refine so_bin rfl rfl rfl rfl (by first | exact bin_lss_t (by omega) | exact bin_lss_f (by omega)) ?_
    refine so_then ?_
    refine sx_true rfl ?_
    refine sx_skip ?_
    refine sk_then ?_
    refine sx_seq ?_
    refine sx_block ?_
    refine sx_seq ?_
    rcases byte3 b with hc | hc | hc
    · skip
      refine sx_region (E := E) ?_
      refine so_move rfl rfl rfl ?_
      refine so_move rfl rfl rfl ?_
      refine so_strAt rfl rfl rfl rfl Tryz.underlying9 (by assumption) ?_
      refine so_bin rfl rfl rfl rfl (by first | exact bin_lss_t (by omega) | exact bin_lss_f (by omega)) ?_
      refine so_move rfl rfl rfl ?_
      first | refine so_move rfl rfl rfl ?_ | refine so_skip rfl rfl rfl ?_
      first | refine so_move rfl rfl rfl ?_ | refine so_skip rfl rfl rfl ?_
      first | refine so_strAt rfl rfl rfl rfl Tryz.underlying9 (by assumption) ?_ | refine so_skip rfl rfl rfl ?_
      first | refine so_bin rfl rfl rfl rfl (by first | exact bin_gtr_t (by omega) | exact bin_gtr_f (by omega)) ?_ | refine so_skip rfl rfl rfl ?_
      first | refine so_pick_t rfl rfl rfl rfl ?_ | refine so_pick_f rfl rfl rfl rfl ?_
      refine so_then ?_
      refine sx_true rfl ?_
      refine sx_seq ?_
      refine sx_region (E := E) ?_
      refine so_assign rfl rfl rfl ?_
      refine so_then ?_
      refine sx_ret ?_
      refine sk_block_ret ?_
      refine sk_then_ret ?_
      refine sk_loop_ret ?_
      refine sk_block_ret ?_
      refine sk_then_ret ?_
      refine sk_return1 (.tmp rfl .nil) ?_
      exact fun H hH => ⟨by rw [nameB_bad hb (.inl hc)], hH.kept⟩
    · skip
      refine sx_region (E := E) ?_
      refine so_move rfl rfl rfl ?_
      refine so_move rfl rfl rfl ?_
      refine so_strAt rfl rfl rfl rfl Tryz.underlying9 (by assumption) ?_
      refine so_bin rfl rfl rfl rfl (by first | exact bin_lss_t (by omega) | exact bin_lss_f (by omega)) ?_
      refine so_move rfl rfl rfl ?_
      first | refine so_move rfl rfl rfl ?_ | refine so_skip rfl rfl rfl ?_
      first | refine so_move rfl rfl rfl ?_ | refine so_skip rfl rfl rfl ?_
      first | refine so_strAt rfl rfl rfl rfl Tryz.underlying9 (by assumption) ?_ | refine so_skip rfl rfl rfl ?_
      first | refine so_bin rfl rfl rfl rfl (by first | exact bin_gtr_t (by omega) | exact bin_gtr_f (by omega)) ?_ | refine so_skip rfl rfl rfl ?_
      first | refine so_pick_t rfl rfl rfl rfl ?_ | refine so_pick_f rfl rfl rfl rfl ?_
      refine so_then ?_
      refine sx_false rfl ?_
      refine sx_skip ?_
      refine sk_block ?_
      refine sk_then ?_
      refine sx_region (E := E) ?_
      refine so_move rfl rfl rfl ?_
      refine so_bin rfl rfl rfl rfl (by first | exact bin_incr (by omega) | exact bin_add (wrap64 (by omega) (by omega)) | exact bin_add rfl) ?_
      refine so_assign rfl rfl rfl ?_
      refine so_nil ?_
      refine sk_round (s + 1) (show q.data.toList.length - (s + 1) < q.data.toList.length - s by omega) ⟨by omega, fun j b2 hj hb2 => ?_⟩ (by repeat (first | exact .nil | refine .cons rfl ?_)) rfl rfl (by repeat (first | exact List.nil_sublist _ | apply List.Sublist.cons_cons | apply List.Sublist.cons))
      by_cases e : j = s
      · subst e; rw [hb] at hb2; cases hb2; exact hc
      · exact hg j b2 (by omega) hb2
    · skip
      refine sx_region (E := E) ?_
      refine so_move rfl rfl rfl ?_
      refine so_move rfl rfl rfl ?_
      refine so_strAt rfl rfl rfl rfl Tryz.underlying9 (by assumption) ?_
      refine so_bin rfl rfl rfl rfl (by first | exact bin_lss_t (by omega) | exact bin_lss_f (by omega)) ?_
      refine so_move rfl rfl rfl ?_
      first | refine so_move rfl rfl rfl ?_ | refine so_skip rfl rfl rfl ?_
      first | refine so_move rfl rfl rfl ?_ | refine so_skip rfl rfl rfl ?_
      first | refine so_strAt rfl rfl rfl rfl Tryz.underlying9 (by assumption) ?_ | refine so_skip rfl rfl rfl ?_
      first | refine so_bin rfl rfl rfl rfl (by first | exact bin_gtr_t (by omega) | exact bin_gtr_f (by omega)) ?_ | refine so_skip rfl rfl rfl ?_
      first | refine so_pick_t rfl rfl rfl rfl ?_ | refine so_pick_f rfl rfl rfl rfl ?_
      refine so_then ?_
      refine sx_true rfl ?_
      refine sx_seq ?_
      refine sx_region (E := E) ?_
      refine so_assign rfl rfl rfl ?_
      refine so_then ?_
      refine sx_ret ?_
      refine sk_block_ret ?_
      refine sk_then_ret ?_
      refine sk_loop_ret ?_
      refine sk_block_ret ?_
      refine sk_then_ret ?_
      refine sk_return1 (.tmp rfl .nil) ?_
      exact fun H hH => ⟨by rw [nameB_bad hb (.inr hc)], hH.kept⟩
  · skip
    refine sx_region (E := E) ?_
    refine so_move rfl rfl rfl ?_
    refine so_move rfl rfl rfl ?_
    refine so_lenS rfl rfl rfl rfl rfl rfl Tryz.underlying9 ?_
    refine so_bin rfl rfl rfl rfl (by first | exact bin_lss_t (by omega) | exact bin_lss_f (by omega)) ?_
    refine so_then ?_
    refine sx_false rfl ?_
    refine sx_exit ?_
    refine sk_then_exit ?_
    refine sk_loop_exit ?_
    refine sk_block_exit ?_
    refine sk_then ?_
    refine sx_seq ?_
    rcases len3 q.data.toList.length with hc | hc | hc
    · skip
      refine sx_region (E := E) ?_
      refine so_move rfl rfl rfl ?_
      refine so_lenS rfl rfl rfl rfl rfl rfl Tryz.underlying9 ?_
      refine so_bin rfl rfl rfl rfl (by first | exact bin_geq_t (by omega) | exact bin_geq_f (by omega)) ?_
      refine so_move rfl rfl rfl ?_
      first | refine so_move rfl rfl rfl ?_ | refine so_skip rfl rfl rfl ?_
      first | refine so_lenS rfl rfl rfl rfl rfl rfl Tryz.underlying9 ?_ | refine so_skip rfl rfl rfl ?_
      first | refine so_bin rfl rfl rfl rfl (by first | exact bin_leq_t (by omega) | exact bin_leq_f (by omega)) ?_ | refine so_skip rfl rfl rfl ?_
      first | refine so_pick_t rfl rfl rfl rfl ?_ | refine so_pick_f rfl rfl rfl rfl ?_
      refine so_assign rfl rfl rfl ?_
      refine so_then ?_
      refine sx_ret ?_
      refine sk_return1 (.tmp rfl .nil) ?_
      exact fun H hH => ⟨by rw [nameB_len fun j b h1 h2 => hg j b (by omega) h2, decide_eq_false (by omega)]; rfl, hH.kept⟩
    · skip
      refine sx_region (E := E) ?_
      refine so_move rfl rfl rfl ?_
      refine so_lenS rfl rfl rfl rfl rfl rfl Tryz.underlying9 ?_
      refine so_bin rfl rfl rfl rfl (by first | exact bin_geq_t (by omega) | exact bin_geq_f (by omega)) ?_
      refine so_move rfl rfl rfl ?_
      first | refine so_move rfl rfl rfl ?_ | refine so_skip rfl rfl rfl ?_
      first | refine so_lenS rfl rfl rfl rfl rfl rfl Tryz.underlying9 ?_ | refine so_skip rfl rfl rfl ?_
      first | refine so_bin rfl rfl rfl rfl (by first | exact bin_leq_t (by omega) | exact bin_leq_f (by omega)) ?_ | refine so_skip rfl rfl rfl ?_
      first | refine so_pick_t rfl rfl rfl rfl ?_ | refine so_pick_f rfl rfl rfl rfl ?_
      refine so_assign rfl rfl rfl ?_
      refine so_then ?_
      refine sx_ret ?_
      refine sk_return1 (.tmp rfl .nil) ?_
      exact fun H hH => ⟨by rw [nameB_len fun j b h1 h2 => hg j b (by omega) h2, decide_eq_true hc.1, decide_eq_true hc.2]; rfl, hH.kept⟩
    · skip
      refine sx_region (E := E) ?_
      refine so_move rfl rfl rfl ?_
      refine so_lenS rfl rfl rfl rfl rfl rfl Tryz.underlying9 ?_
      refine so_bin rfl rfl rfl rfl (by first | exact bin_geq_t (by omega) | exact bin_geq_f (by omega)) ?_
      refine so_move rfl rfl rfl ?_
      first | refine so_move rfl rfl rfl ?_ | refine so_skip rfl rfl rfl ?_
      first | refine so_lenS rfl rfl rfl rfl rfl rfl Tryz.underlying9 ?_ | refine so_skip rfl rfl rfl ?_
      first | refine so_bin rfl rfl rfl rfl (by first | exact bin_leq_t (by omega) | exact bin_leq_f (by omega)) ?_ | refine so_skip rfl rfl rfl ?_
      first | refine so_pick_t rfl rfl rfl rfl ?_ | refine so_pick_f rfl rfl rfl rfl ?_
      refine so_assign rfl rfl rfl ?_
      refine so_then ?_
      refine sx_ret ?_
      refine sk_return1 (.tmp rfl .nil) ?_
      exact fun H hH => ⟨by rw [nameB_len fun j b h1 h2 => hg j b (by omega) h2, decide_eq_false (p := q.data.toList.length ≤ 32) (by omega), Bool.and_false], hH.kept⟩

theorem checkFile_ok {S : AH} {u p : ByteArray} {n : Int} (hu : u.size ≤ maxLen) (hn : (Lit.int .i64 n).wf = true) (hp : p.size ≤ maxLen) : XCall Tryz.prog 17 [.agg ⟨[.string u, .int .i64 n, .string p]⟩] S fun v H' => v = .int .i64 (fileE [.v (.string u), .v (.int .i64 n), .v (.string p)]) ∧ Kept S.nx S H' := by
  refine x_enter (E := E) (n := 22) (rs := [.tmp 2]) (l := [(0, _)]) (fn_own Tryz.func17 rfl rfl rfl) (A0 := fun _ => False) (fun j h => h.elim) rfl ?_
  refine sx_seq ?_
  refine sx_region (E := E) ?_
  refine so_boxA rfl rfl (fun h => nomatch h) rfl ?_
  intro N1
  refine so_assign rfl rfl rfl ?_
  refine so_then ?_
  refine sx_seq ?_
  refine sx_block ?_
  refine sx_seq ?_
  cases hnm : nameB u.data.toList
  · skip
    refine sx_region (E := E) ?_
    refine so_fieldO (o' := 0) rfl rfl rfl Tryz.underlying24 rfl inf9 rfl rfl ?_
    refine so_load rfl rfl rfl (by first | exact ld_own Tryz.underlying9 rfl (by repeat (first | exact List.Mem.head _ | apply List.Mem.tail)) (by first | exact cellsOf_get rfl | rfl) | exact ld_data Tryz.underlying9 rfl (by first | assumption | exact InA.add (by assumption) | exact InA.add (InA.add (by assumption))) (by assumption)) ?_
    refine so_call rfl rfl (fun h => nomatch h) rfl has31 (by repeat (first | exact Opvs.nil | apply Opvs.cons rfl)) (fun H hH => (isName_ok u (str_len hu)).b hnm) ?_
    refine so_not rfl rfl rfl rfl ?_
    refine so_assign rfl rfl rfl ?_
    refine so_then ?_
    refine sx_true rfl ?_
    refine sx_seq ?_
    refine sx_region (E := E) ?_
    refine so_assign rfl rfl rfl ?_
    refine so_then ?_
    refine sx_ret ?_
    refine sk_block_ret ?_
    refine sk_then_ret ?_
    refine sk_return1 (.tmp rfl .nil) ?_
    exact fun H hH => ⟨by rw [fileE_13 hnm], hH.kept⟩
  · skip
    refine sx_region (E := E) ?_
    refine so_fieldO (o' := 0) rfl rfl rfl Tryz.underlying24 rfl inf9 rfl rfl ?_
    refine so_load rfl rfl rfl (by first | exact ld_own Tryz.underlying9 rfl (by repeat (first | exact List.Mem.head _ | apply List.Mem.tail)) (by first | exact cellsOf_get rfl | rfl) | exact ld_data Tryz.underlying9 rfl (by first | assumption | exact InA.add (by assumption) | exact InA.add (InA.add (by assumption))) (by assumption)) ?_
    refine so_call rfl rfl (fun h => nomatch h) rfl has31 (by repeat (first | exact Opvs.nil | apply Opvs.cons rfl)) (fun H hH => (isName_ok u (str_len hu)).b hnm) ?_
    refine so_not rfl rfl rfl rfl ?_
    refine so_assign rfl rfl rfl ?_
    refine so_then ?_
    refine sx_false rfl ?_
    refine sx_seq ?_
    rcases rev3 n with hr | hr | hr
    · skip
      refine sx_region (E := E) ?_
      refine so_fieldO (o' := 1) rfl rfl rfl Tryz.underlying24 rfl inf3 rfl rfl ?_
      refine so_load rfl rfl rfl (by first | exact ld_own Tryz.underlying3 rfl (by repeat (first | exact List.Mem.head _ | apply List.Mem.tail)) (by first | exact cellsOf_get rfl | rfl) | exact ld_data Tryz.underlying3 rfl (by first | assumption | exact InA.add (by assumption) | exact InA.add (InA.add (by assumption))) (by assumption)) ?_
      refine so_bin rfl rfl rfl rfl (by first | exact bin_lss_t (by omega) | exact bin_lss_f (by omega)) ?_
      refine so_move rfl rfl rfl ?_
      first | refine so_fieldO (o' := 1) rfl rfl rfl Tryz.underlying24 rfl inf3 rfl rfl ?_ | refine so_skip rfl rfl rfl ?_
      first | refine so_load rfl rfl rfl (by first | exact ld_own Tryz.underlying3 rfl (by repeat (first | exact List.Mem.head _ | apply List.Mem.tail)) (by first | exact cellsOf_get rfl | rfl) | exact ld_data Tryz.underlying3 rfl (by first | assumption | exact InA.add (by assumption) | exact InA.add (InA.add (by assumption))) (by assumption)) ?_ | refine so_skip rfl rfl rfl ?_
      first | refine so_bin rfl rfl rfl rfl (by first | exact bin_gtr_t (by omega) | exact bin_gtr_f (by omega)) ?_ | refine so_skip rfl rfl rfl ?_
      first | refine so_pick_t rfl rfl rfl rfl ?_ | refine so_pick_f rfl rfl rfl rfl ?_
      refine so_assign rfl rfl rfl ?_
      refine so_then ?_
      refine sx_true rfl ?_
      refine sx_seq ?_
      refine sx_region (E := E) ?_
      refine so_assign rfl rfl rfl ?_
      refine so_then ?_
      refine sx_ret ?_
      refine sk_block_ret ?_
      refine sk_then_ret ?_
      refine sk_return1 (.tmp rfl .nil) ?_
      exact fun H hH => ⟨by rw [fileE_2 hnm (.inl hr)], hH.kept⟩
    · skip
      refine sx_region (E := E) ?_
      refine so_fieldO (o' := 1) rfl rfl rfl Tryz.underlying24 rfl inf3 rfl rfl ?_
      refine so_load rfl rfl rfl (by first | exact ld_own Tryz.underlying3 rfl (by repeat (first | exact List.Mem.head _ | apply List.Mem.tail)) (by first | exact cellsOf_get rfl | rfl) | exact ld_data Tryz.underlying3 rfl (by first | assumption | exact InA.add (by assumption) | exact InA.add (InA.add (by assumption))) (by assumption)) ?_
      refine so_bin rfl rfl rfl rfl (by first | exact bin_lss_t (by omega) | exact bin_lss_f (by omega)) ?_
      refine so_move rfl rfl rfl ?_
      first | refine so_fieldO (o' := 1) rfl rfl rfl Tryz.underlying24 rfl inf3 rfl rfl ?_ | refine so_skip rfl rfl rfl ?_
      first | refine so_load rfl rfl rfl (by first | exact ld_own Tryz.underlying3 rfl (by repeat (first | exact List.Mem.head _ | apply List.Mem.tail)) (by first | exact cellsOf_get rfl | rfl) | exact ld_data Tryz.underlying3 rfl (by first | assumption | exact InA.add (by assumption) | exact InA.add (InA.add (by assumption))) (by assumption)) ?_ | refine so_skip rfl rfl rfl ?_
      first | refine so_bin rfl rfl rfl rfl (by first | exact bin_gtr_t (by omega) | exact bin_gtr_f (by omega)) ?_ | refine so_skip rfl rfl rfl ?_
      first | refine so_pick_t rfl rfl rfl rfl ?_ | refine so_pick_f rfl rfl rfl rfl ?_
      refine so_assign rfl rfl rfl ?_
      refine so_then ?_
      refine sx_false rfl ?_
      refine sx_seq ?_
      rcases Nat.lt_or_ge 1048576 p.data.toList.length with hl | hl
      · skip
        refine sx_region (E := E) ?_
        refine so_fieldO (o' := 2) rfl rfl rfl Tryz.underlying24 rfl inf9 rfl rfl ?_
        refine so_load rfl rfl rfl (by first | exact ld_own Tryz.underlying9 rfl (by repeat (first | exact List.Mem.head _ | apply List.Mem.tail)) (by first | exact cellsOf_get rfl | rfl) | exact ld_data Tryz.underlying9 rfl (by first | assumption | exact InA.add (by assumption) | exact InA.add (InA.add (by assumption))) (by assumption)) ?_
        refine so_lenS rfl rfl rfl rfl rfl rfl Tryz.underlying9 ?_
        refine so_bin rfl rfl rfl rfl (by first | exact bin_gtr_t (by omega) | exact bin_gtr_f (by omega)) ?_
        refine so_assign rfl rfl rfl ?_
        refine so_then ?_
        refine sx_true rfl ?_
        refine sx_seq ?_
        refine sx_region (E := E) ?_
        refine so_assign rfl rfl rfl ?_
        refine so_then ?_
        refine sx_ret ?_
        refine sk_block_ret ?_
        refine sk_then_ret ?_
        refine sk_return1 (.tmp rfl .nil) ?_
        exact fun H hH => ⟨by rw [fileE_3 hnm hr hl], hH.kept⟩
      · skip
        refine sx_region (E := E) ?_
        refine so_fieldO (o' := 2) rfl rfl rfl Tryz.underlying24 rfl inf9 rfl rfl ?_
        refine so_load rfl rfl rfl (by first | exact ld_own Tryz.underlying9 rfl (by repeat (first | exact List.Mem.head _ | apply List.Mem.tail)) (by first | exact cellsOf_get rfl | rfl) | exact ld_data Tryz.underlying9 rfl (by first | assumption | exact InA.add (by assumption) | exact InA.add (InA.add (by assumption))) (by assumption)) ?_
        refine so_lenS rfl rfl rfl rfl rfl rfl Tryz.underlying9 ?_
        refine so_bin rfl rfl rfl rfl (by first | exact bin_gtr_t (by omega) | exact bin_gtr_f (by omega)) ?_
        refine so_assign rfl rfl rfl ?_
        refine so_then ?_
        refine sx_false rfl ?_
        refine sx_skip ?_
        refine sk_block ?_
        refine sk_then ?_
        refine sx_seq ?_
        refine sx_region (E := E) ?_
        refine so_assign rfl rfl rfl ?_
        refine so_then ?_
        refine sx_ret ?_
        refine sk_return1 (.tmp rfl .nil) ?_
        exact fun H hH => ⟨by rw [fileE_0 hnm hr hl], hH.kept⟩
    · skip
      refine sx_region (E := E) ?_
      refine so_fieldO (o' := 1) rfl rfl rfl Tryz.underlying24 rfl inf3 rfl rfl ?_
      refine so_load rfl rfl rfl (by first | exact ld_own Tryz.underlying3 rfl (by repeat (first | exact List.Mem.head _ | apply List.Mem.tail)) (by first | exact cellsOf_get rfl | rfl) | exact ld_data Tryz.underlying3 rfl (by first | assumption | exact InA.add (by assumption) | exact InA.add (InA.add (by assumption))) (by assumption)) ?_
      refine so_bin rfl rfl rfl rfl (by first | exact bin_lss_t (by omega) | exact bin_lss_f (by omega)) ?_
      refine so_move rfl rfl rfl ?_
      first | refine so_fieldO (o' := 1) rfl rfl rfl Tryz.underlying24 rfl inf3 rfl rfl ?_ | refine so_skip rfl rfl rfl ?_
      first | refine so_load rfl rfl rfl (by first | exact ld_own Tryz.underlying3 rfl (by repeat (first | exact List.Mem.head _ | apply List.Mem.tail)) (by first | exact cellsOf_get rfl | rfl) | exact ld_data Tryz.underlying3 rfl (by first | assumption | exact InA.add (by assumption) | exact InA.add (InA.add (by assumption))) (by assumption)) ?_ | refine so_skip rfl rfl rfl ?_
      first | refine so_bin rfl rfl rfl rfl (by first | exact bin_gtr_t (by omega) | exact bin_gtr_f (by omega)) ?_ | refine so_skip rfl rfl rfl ?_
      first | refine so_pick_t rfl rfl rfl rfl ?_ | refine so_pick_f rfl rfl rfl rfl ?_
      refine so_assign rfl rfl rfl ?_
      refine so_then ?_
      refine sx_true rfl ?_
      refine sx_seq ?_
      refine sx_region (E := E) ?_
      refine so_assign rfl rfl rfl ?_
      refine so_then ?_
      refine sx_ret ?_
      refine sk_block_ret ?_
      refine sk_then_ret ?_
      refine sk_return1 (.tmp rfl .nil) ?_
      exact fun H hH => ⟨by rw [fileE_2 hnm (.inr hr)], hH.kept⟩

theorem single_ok {S : AH} {u p : ByteArray} {n : Int} (hu : u.size ≤ maxLen) (hn : (Lit.int .i64 n).wf = true) (hp : p.size ≤ maxLen) : XCall Tryz.prog 21 [.agg ⟨[.string u, .int .i64 n, .string p]⟩] S fun v H' => v = .int .i64 (fileE [.v (.string u), .v (.int .i64 n), .v (.string p)]) ∧ Kept S.nx S H' := by
  refine x_enter (E := E) (n := 19) (rs := [.tmp 2]) (l := [(0, _)]) (fn_own Tryz.func21 rfl rfl rfl) (A0 := fun _ => False) (fun j h => h.elim) rfl ?_
  refine sx_seq ?_
  refine sx_region (E := E) ?_
  refine so_boxA rfl rfl (fun h => nomatch h) rfl ?_
  intro N1
  refine so_assign rfl rfl rfl ?_
  refine so_then ?_
  refine sx_seq ?_
  refine sx_seq ?_
  cases hnm : nameB u.data.toList
  · skip
    refine sx_region (E := E) ?_
    refine so_fieldO (o' := 0) rfl rfl rfl Tryz.underlying24 rfl inf9 rfl rfl ?_
    refine so_load rfl rfl rfl (by first | exact ld_own Tryz.underlying9 rfl (by repeat (first | exact List.Mem.head _ | apply List.Mem.tail)) (by first | exact cellsOf_get rfl | rfl) | exact ld_data Tryz.underlying9 rfl (by first | assumption | exact InA.add (by assumption) | exact InA.add (InA.add (by assumption))) (by assumption)) ?_
    refine so_call rfl rfl (fun h => nomatch h) rfl has33 (by repeat (first | exact Opvs.nil | apply Opvs.cons rfl)) (fun H hH => (rname_ok u (str_len hu)).b hnm) ?_
    refine so_not rfl rfl rfl rfl ?_
    refine so_then ?_
    refine sx_true rfl ?_
    refine sx_seq ?_
    refine sx_region (E := E) ?_
    refine so_assign rfl rfl rfl ?_
    refine so_then ?_
    refine sx_ret ?_
    refine sk_then_ret ?_
    refine sk_return1 (.tmp rfl .nil) ?_
    exact fun H hH => ⟨by rw [fileE_13 hnm], hH.kept⟩
  · skip
    refine sx_region (E := E) ?_
    refine so_fieldO (o' := 0) rfl rfl rfl Tryz.underlying24 rfl inf9 rfl rfl ?_
    refine so_load rfl rfl rfl (by first | exact ld_own Tryz.underlying9 rfl (by repeat (first | exact List.Mem.head _ | apply List.Mem.tail)) (by first | exact cellsOf_get rfl | rfl) | exact ld_data Tryz.underlying9 rfl (by first | assumption | exact InA.add (by assumption) | exact InA.add (InA.add (by assumption))) (by assumption)) ?_
    refine so_call rfl rfl (fun h => nomatch h) rfl has33 (by repeat (first | exact Opvs.nil | apply Opvs.cons rfl)) (fun H hH => (rname_ok u (str_len hu)).b hnm) ?_
    refine so_not rfl rfl rfl rfl ?_
    refine so_then ?_
    refine sx_false rfl ?_
    refine sx_skip ?_
    refine sk_then ?_
    refine sx_seq ?_
    refine sx_seq ?_
    rcases rev3 n with hr | hr | hr
    · skip
      refine sx_region (E := E) ?_
      refine so_fieldO (o' := 1) rfl rfl rfl Tryz.underlying24 rfl inf3 rfl rfl ?_
      refine so_load rfl rfl rfl (by first | exact ld_own Tryz.underlying3 rfl (by repeat (first | exact List.Mem.head _ | apply List.Mem.tail)) (by first | exact cellsOf_get rfl | rfl) | exact ld_data Tryz.underlying3 rfl (by first | assumption | exact InA.add (by assumption) | exact InA.add (InA.add (by assumption))) (by assumption)) ?_
      refine so_bin rfl rfl rfl rfl (by first | exact bin_lss_t (by omega) | exact bin_lss_f (by omega)) ?_
      refine so_move rfl rfl rfl ?_
      first | refine so_fieldO (o' := 1) rfl rfl rfl Tryz.underlying24 rfl inf3 rfl rfl ?_ | refine so_skip rfl rfl rfl ?_
      first | refine so_load rfl rfl rfl (by first | exact ld_own Tryz.underlying3 rfl (by repeat (first | exact List.Mem.head _ | apply List.Mem.tail)) (by first | exact cellsOf_get rfl | rfl) | exact ld_data Tryz.underlying3 rfl (by first | assumption | exact InA.add (by assumption) | exact InA.add (InA.add (by assumption))) (by assumption)) ?_ | refine so_skip rfl rfl rfl ?_
      first | refine so_bin rfl rfl rfl rfl (by first | exact bin_gtr_t (by omega) | exact bin_gtr_f (by omega)) ?_ | refine so_skip rfl rfl rfl ?_
      first | refine so_pick_t rfl rfl rfl rfl ?_ | refine so_pick_f rfl rfl rfl rfl ?_
      refine so_then ?_
      refine sx_true rfl ?_
      refine sx_seq ?_
      refine sx_region (E := E) ?_
      refine so_assign rfl rfl rfl ?_
      refine so_then ?_
      refine sx_ret ?_
      refine sk_then_ret ?_
      refine sk_return1 (.tmp rfl .nil) ?_
      exact fun H hH => ⟨by rw [fileE_2 hnm (.inl hr)], hH.kept⟩
    · skip
      refine sx_region (E := E) ?_
      refine so_fieldO (o' := 1) rfl rfl rfl Tryz.underlying24 rfl inf3 rfl rfl ?_
      refine so_load rfl rfl rfl (by first | exact ld_own Tryz.underlying3 rfl (by repeat (first | exact List.Mem.head _ | apply List.Mem.tail)) (by first | exact cellsOf_get rfl | rfl) | exact ld_data Tryz.underlying3 rfl (by first | assumption | exact InA.add (by assumption) | exact InA.add (InA.add (by assumption))) (by assumption)) ?_
      refine so_bin rfl rfl rfl rfl (by first | exact bin_lss_t (by omega) | exact bin_lss_f (by omega)) ?_
      refine so_move rfl rfl rfl ?_
      first | refine so_fieldO (o' := 1) rfl rfl rfl Tryz.underlying24 rfl inf3 rfl rfl ?_ | refine so_skip rfl rfl rfl ?_
      first | refine so_load rfl rfl rfl (by first | exact ld_own Tryz.underlying3 rfl (by repeat (first | exact List.Mem.head _ | apply List.Mem.tail)) (by first | exact cellsOf_get rfl | rfl) | exact ld_data Tryz.underlying3 rfl (by first | assumption | exact InA.add (by assumption) | exact InA.add (InA.add (by assumption))) (by assumption)) ?_ | refine so_skip rfl rfl rfl ?_
      first | refine so_bin rfl rfl rfl rfl (by first | exact bin_gtr_t (by omega) | exact bin_gtr_f (by omega)) ?_ | refine so_skip rfl rfl rfl ?_
      first | refine so_pick_t rfl rfl rfl rfl ?_ | refine so_pick_f rfl rfl rfl rfl ?_
      refine so_then ?_
      refine sx_false rfl ?_
      refine sx_skip ?_
      refine sk_then ?_
      refine sx_seq ?_
      refine sx_seq ?_
      rcases Nat.lt_or_ge 1048576 p.data.toList.length with hl | hl
      · skip
        refine sx_region (E := E) ?_
        refine so_fieldO (o' := 2) rfl rfl rfl Tryz.underlying24 rfl inf9 rfl rfl ?_
        refine so_load rfl rfl rfl (by first | exact ld_own Tryz.underlying9 rfl (by repeat (first | exact List.Mem.head _ | apply List.Mem.tail)) (by first | exact cellsOf_get rfl | rfl) | exact ld_data Tryz.underlying9 rfl (by first | assumption | exact InA.add (by assumption) | exact InA.add (InA.add (by assumption))) (by assumption)) ?_
        refine so_lenS rfl rfl rfl rfl rfl rfl Tryz.underlying9 ?_
        refine so_bin rfl rfl rfl rfl (by first | exact bin_gtr_t (by omega) | exact bin_gtr_f (by omega)) ?_
        refine so_then ?_
        refine sx_true rfl ?_
        refine sx_seq ?_
        refine sx_region (E := E) ?_
        refine so_assign rfl rfl rfl ?_
        refine so_then ?_
        refine sx_ret ?_
        refine sk_then_ret ?_
        refine sk_return1 (.tmp rfl .nil) ?_
        exact fun H hH => ⟨by rw [fileE_3 hnm hr hl], hH.kept⟩
      · skip
        refine sx_region (E := E) ?_
        refine so_fieldO (o' := 2) rfl rfl rfl Tryz.underlying24 rfl inf9 rfl rfl ?_
        refine so_load rfl rfl rfl (by first | exact ld_own Tryz.underlying9 rfl (by repeat (first | exact List.Mem.head _ | apply List.Mem.tail)) (by first | exact cellsOf_get rfl | rfl) | exact ld_data Tryz.underlying9 rfl (by first | assumption | exact InA.add (by assumption) | exact InA.add (InA.add (by assumption))) (by assumption)) ?_
        refine so_lenS rfl rfl rfl rfl rfl rfl Tryz.underlying9 ?_
        refine so_bin rfl rfl rfl rfl (by first | exact bin_gtr_t (by omega) | exact bin_gtr_f (by omega)) ?_
        refine so_then ?_
        refine sx_false rfl ?_
        refine sx_skip ?_
        refine sk_then ?_
        refine sx_seq ?_
        refine sx_region (E := E) ?_
        refine so_assign rfl rfl rfl ?_
        refine so_then ?_
        refine sx_ret ?_
        refine sk_return1 (.tmp rfl .nil) ?_
        exact fun H hH => ⟨by rw [fileE_0 hnm hr hl], hH.kept⟩
    · skip
      refine sx_region (E := E) ?_
      refine so_fieldO (o' := 1) rfl rfl rfl Tryz.underlying24 rfl inf3 rfl rfl ?_
      refine so_load rfl rfl rfl (by first | exact ld_own Tryz.underlying3 rfl (by repeat (first | exact List.Mem.head _ | apply List.Mem.tail)) (by first | exact cellsOf_get rfl | rfl) | exact ld_data Tryz.underlying3 rfl (by first | assumption | exact InA.add (by assumption) | exact InA.add (InA.add (by assumption))) (by assumption)) ?_
      refine so_bin rfl rfl rfl rfl (by first | exact bin_lss_t (by omega) | exact bin_lss_f (by omega)) ?_
      refine so_move rfl rfl rfl ?_
      first | refine so_fieldO (o' := 1) rfl rfl rfl Tryz.underlying24 rfl inf3 rfl rfl ?_ | refine so_skip rfl rfl rfl ?_
      first | refine so_load rfl rfl rfl (by first | exact ld_own Tryz.underlying3 rfl (by repeat (first | exact List.Mem.head _ | apply List.Mem.tail)) (by first | exact cellsOf_get rfl | rfl) | exact ld_data Tryz.underlying3 rfl (by first | assumption | exact InA.add (by assumption) | exact InA.add (InA.add (by assumption))) (by assumption)) ?_ | refine so_skip rfl rfl rfl ?_
      first | refine so_bin rfl rfl rfl rfl (by first | exact bin_gtr_t (by omega) | exact bin_gtr_f (by omega)) ?_ | refine so_skip rfl rfl rfl ?_
      first | refine so_pick_t rfl rfl rfl rfl ?_ | refine so_pick_f rfl rfl rfl rfl ?_
      refine so_then ?_
      refine sx_true rfl ?_
      refine sx_seq ?_
      refine sx_region (E := E) ?_
      refine so_assign rfl rfl rfl ?_
      refine so_then ?_
      refine sx_ret ?_
      refine sk_then_ret ?_
      refine sk_return1 (.tmp rfl .nil) ?_
      exact fun H hH => ⟨by rw [fileE_2 hnm (.inr hr)], hH.kept⟩

theorem before_ok {S : AH} (u p u2 p2 : ByteArray) (n n2 : Int) : XCall Tryz.prog 19 [.agg ⟨[.string u, .int .i64 n, .string p]⟩, .agg ⟨[.string u2, .int .i64 n2, .string p2]⟩] S fun v H' => v = .bool (befB [.v (.string u), .v (.int .i64 n), .v (.string p)] [.v (.string u2), .v (.int .i64 n2), .v (.string p2)]) ∧ Kept S.nx S H' := by
  refine x_enter (E := E) (n := 24) (rs := [.tmp 4]) (l := [(1, _), (0, _)]) (fn_own Tryz.func19 rfl rfl rfl) (A0 := fun _ => False) (fun j h => h.elim) rfl ?_
  refine sx_seq ?_
  refine sx_region (E := E) ?_
  refine so_boxA rfl rfl (fun h => nomatch h) rfl ?_
  intro N2
  refine so_boxA rfl rfl (fun h => nomatch h) rfl ?_
  intro N3
  refine so_assign rfl rfl rfl ?_
  refine so_then ?_
  refine sx_seq ?_
  rcases bef4 u.data.toList u2.data.toList n n2 with h1 | ⟨h1, h2, h3⟩ | ⟨h1, h2, h3⟩ | ⟨h1, h2⟩
  · skip
    refine sx_region (E := E) ?_
    refine so_fieldO (o' := 0) rfl rfl rfl Tryz.underlying24 rfl inf9 rfl rfl ?_
    refine so_load rfl rfl rfl (by first | exact ld_own Tryz.underlying9 rfl (by repeat (first | exact List.Mem.head _ | apply List.Mem.tail)) (by first | exact cellsOf_get rfl | rfl) | exact ld_data Tryz.underlying9 rfl (by first | assumption | exact InA.add (by assumption) | exact InA.add (InA.add (by assumption))) (by assumption)) ?_
    refine so_fieldO (o' := 0) rfl rfl rfl Tryz.underlying24 rfl inf9 rfl rfl ?_
    refine so_load rfl rfl rfl (by first | exact ld_own Tryz.underlying9 rfl (by repeat (first | exact List.Mem.head _ | apply List.Mem.tail)) (by first | exact cellsOf_get rfl | rfl) | exact ld_data Tryz.underlying9 rfl (by first | assumption | exact InA.add (by assumption) | exact InA.add (InA.add (by assumption))) (by assumption)) ?_
    refine so_bin rfl rfl rfl rfl (by first | exact bin_slss (lss_t h1) | exact bin_slss (lss_f h1) | exact bin_lss_t (by omega) | exact bin_lss_f (by omega)) ?_
    refine so_move rfl rfl rfl ?_
    first | refine so_fieldO (o' := 0) rfl rfl rfl Tryz.underlying24 rfl inf9 rfl rfl ?_ | refine so_skip rfl rfl rfl ?_
    first | refine so_load rfl rfl rfl (by first | exact ld_own Tryz.underlying9 rfl (by repeat (first | exact List.Mem.head _ | apply List.Mem.tail)) (by first | exact cellsOf_get rfl | rfl) | exact ld_data Tryz.underlying9 rfl (by first | assumption | exact InA.add (by assumption) | exact InA.add (InA.add (by assumption))) (by assumption)) ?_ | refine so_skip rfl rfl rfl ?_
    first | refine so_fieldO (o' := 0) rfl rfl rfl Tryz.underlying24 rfl inf9 rfl rfl ?_ | refine so_skip rfl rfl rfl ?_
    first | refine so_load rfl rfl rfl (by first | exact ld_own Tryz.underlying9 rfl (by repeat (first | exact List.Mem.head _ | apply List.Mem.tail)) (by first | exact cellsOf_get rfl | rfl) | exact ld_data Tryz.underlying9 rfl (by first | assumption | exact InA.add (by assumption) | exact InA.add (InA.add (by assumption))) (by assumption)) ?_ | refine so_skip rfl rfl rfl ?_
    first | refine so_bin rfl rfl rfl rfl (by first | exact bin_seql_t (by first | rfl | assumption | decide) | exact bin_seql_f (by first | rfl | assumption | decide)) ?_ | refine so_skip rfl rfl rfl ?_
    first | refine so_move rfl rfl rfl ?_ | refine so_skip rfl rfl rfl ?_
    first | refine so_fieldO (o' := 1) rfl rfl rfl Tryz.underlying24 rfl inf3 rfl rfl ?_ | refine so_skip rfl rfl rfl ?_
    first | refine so_load rfl rfl rfl (by first | exact ld_own Tryz.underlying3 rfl (by repeat (first | exact List.Mem.head _ | apply List.Mem.tail)) (by first | exact cellsOf_get rfl | rfl) | exact ld_data Tryz.underlying3 rfl (by first | assumption | exact InA.add (by assumption) | exact InA.add (InA.add (by assumption))) (by assumption)) ?_ | refine so_skip rfl rfl rfl ?_
    first | refine so_fieldO (o' := 1) rfl rfl rfl Tryz.underlying24 rfl inf3 rfl rfl ?_ | refine so_skip rfl rfl rfl ?_
    first | refine so_load rfl rfl rfl (by first | exact ld_own Tryz.underlying3 rfl (by repeat (first | exact List.Mem.head _ | apply List.Mem.tail)) (by first | exact cellsOf_get rfl | rfl) | exact ld_data Tryz.underlying3 rfl (by first | assumption | exact InA.add (by assumption) | exact InA.add (InA.add (by assumption))) (by assumption)) ?_ | refine so_skip rfl rfl rfl ?_
    first | refine so_bin rfl rfl rfl rfl (by first | exact bin_lss_t (by omega) | exact bin_lss_f (by omega)) ?_ | refine so_skip rfl rfl rfl ?_
    first | refine so_pick_t rfl rfl rfl rfl ?_ | refine so_pick_f rfl rfl rfl rfl ?_ | refine so_skip rfl rfl rfl ?_
    first | refine so_pick_t rfl rfl rfl rfl ?_ | refine so_pick_f rfl rfl rfl rfl ?_
    refine so_assign rfl rfl rfl ?_
    refine so_then ?_
    refine sx_ret ?_
    refine sk_return1 (.tmp rfl .nil) ?_
    exact fun H hH => ⟨by rw [befB_val, decide_eq_true h1]; rfl, hH.kept⟩
  · skip
    refine sx_region (E := E) ?_
    refine so_fieldO (o' := 0) rfl rfl rfl Tryz.underlying24 rfl inf9 rfl rfl ?_
    refine so_load rfl rfl rfl (by first | exact ld_own Tryz.underlying9 rfl (by repeat (first | exact List.Mem.head _ | apply List.Mem.tail)) (by first | exact cellsOf_get rfl | rfl) | exact ld_data Tryz.underlying9 rfl (by first | assumption | exact InA.add (by assumption) | exact InA.add (InA.add (by assumption))) (by assumption)) ?_
    refine so_fieldO (o' := 0) rfl rfl rfl Tryz.underlying24 rfl inf9 rfl rfl ?_
    refine so_load rfl rfl rfl (by first | exact ld_own Tryz.underlying9 rfl (by repeat (first | exact List.Mem.head _ | apply List.Mem.tail)) (by first | exact cellsOf_get rfl | rfl) | exact ld_data Tryz.underlying9 rfl (by first | assumption | exact InA.add (by assumption) | exact InA.add (InA.add (by assumption))) (by assumption)) ?_
    refine so_bin rfl rfl rfl rfl (by first | exact bin_slss (lss_t h1) | exact bin_slss (lss_f h1) | exact bin_lss_t (by omega) | exact bin_lss_f (by omega)) ?_
    refine so_move rfl rfl rfl ?_
    first | refine so_fieldO (o' := 0) rfl rfl rfl Tryz.underlying24 rfl inf9 rfl rfl ?_ | refine so_skip rfl rfl rfl ?_
    first | refine so_load rfl rfl rfl (by first | exact ld_own Tryz.underlying9 rfl (by repeat (first | exact List.Mem.head _ | apply List.Mem.tail)) (by first | exact cellsOf_get rfl | rfl) | exact ld_data Tryz.underlying9 rfl (by first | assumption | exact InA.add (by assumption) | exact InA.add (InA.add (by assumption))) (by assumption)) ?_ | refine so_skip rfl rfl rfl ?_
    first | refine so_fieldO (o' := 0) rfl rfl rfl Tryz.underlying24 rfl inf9 rfl rfl ?_ | refine so_skip rfl rfl rfl ?_
    first | refine so_load rfl rfl rfl (by first | exact ld_own Tryz.underlying9 rfl (by repeat (first | exact List.Mem.head _ | apply List.Mem.tail)) (by first | exact cellsOf_get rfl | rfl) | exact ld_data Tryz.underlying9 rfl (by first | assumption | exact InA.add (by assumption) | exact InA.add (InA.add (by assumption))) (by assumption)) ?_ | refine so_skip rfl rfl rfl ?_
    first | refine so_bin rfl rfl rfl rfl (by first | exact bin_seql_t (by first | rfl | assumption | decide) | exact bin_seql_f (by first | rfl | assumption | decide)) ?_ | refine so_skip rfl rfl rfl ?_
    first | refine so_move rfl rfl rfl ?_ | refine so_skip rfl rfl rfl ?_
    first | refine so_fieldO (o' := 1) rfl rfl rfl Tryz.underlying24 rfl inf3 rfl rfl ?_ | refine so_skip rfl rfl rfl ?_
    first | refine so_load rfl rfl rfl (by first | exact ld_own Tryz.underlying3 rfl (by repeat (first | exact List.Mem.head _ | apply List.Mem.tail)) (by first | exact cellsOf_get rfl | rfl) | exact ld_data Tryz.underlying3 rfl (by first | assumption | exact InA.add (by assumption) | exact InA.add (InA.add (by assumption))) (by assumption)) ?_ | refine so_skip rfl rfl rfl ?_
    first | refine so_fieldO (o' := 1) rfl rfl rfl Tryz.underlying24 rfl inf3 rfl rfl ?_ | refine so_skip rfl rfl rfl ?_
    first | refine so_load rfl rfl rfl (by first | exact ld_own Tryz.underlying3 rfl (by repeat (first | exact List.Mem.head _ | apply List.Mem.tail)) (by first | exact cellsOf_get rfl | rfl) | exact ld_data Tryz.underlying3 rfl (by first | assumption | exact InA.add (by assumption) | exact InA.add (InA.add (by assumption))) (by assumption)) ?_ | refine so_skip rfl rfl rfl ?_
    first | refine so_bin rfl rfl rfl rfl (by first | exact bin_lss_t (by omega) | exact bin_lss_f (by omega)) ?_ | refine so_skip rfl rfl rfl ?_
    first | refine so_pick_t rfl rfl rfl rfl ?_ | refine so_pick_f rfl rfl rfl rfl ?_ | refine so_skip rfl rfl rfl ?_
    first | refine so_pick_t rfl rfl rfl rfl ?_ | refine so_pick_f rfl rfl rfl rfl ?_
    refine so_assign rfl rfl rfl ?_
    refine so_then ?_
    refine sx_ret ?_
    refine sk_return1 (.tmp rfl .nil) ?_
    exact fun H hH => ⟨by rw [befB_val, decide_eq_false h1, decide_eq_true h2, decide_eq_true h3]; rfl, hH.kept⟩
  · skip
    refine sx_region (E := E) ?_
    refine so_fieldO (o' := 0) rfl rfl rfl Tryz.underlying24 rfl inf9 rfl rfl ?_
    refine so_load rfl rfl rfl (by first | exact ld_own Tryz.underlying9 rfl (by repeat (first | exact List.Mem.head _ | apply List.Mem.tail)) (by first | exact cellsOf_get rfl | rfl) | exact ld_data Tryz.underlying9 rfl (by first | assumption | exact InA.add (by assumption) | exact InA.add (InA.add (by assumption))) (by assumption)) ?_
    refine so_fieldO (o' := 0) rfl rfl rfl Tryz.underlying24 rfl inf9 rfl rfl ?_
    refine so_load rfl rfl rfl (by first | exact ld_own Tryz.underlying9 rfl (by repeat (first | exact List.Mem.head _ | apply List.Mem.tail)) (by first | exact cellsOf_get rfl | rfl) | exact ld_data Tryz.underlying9 rfl (by first | assumption | exact InA.add (by assumption) | exact InA.add (InA.add (by assumption))) (by assumption)) ?_
    refine so_bin rfl rfl rfl rfl (by first | exact bin_slss (lss_t h1) | exact bin_slss (lss_f h1) | exact bin_lss_t (by omega) | exact bin_lss_f (by omega)) ?_
    refine so_move rfl rfl rfl ?_
    first | refine so_fieldO (o' := 0) rfl rfl rfl Tryz.underlying24 rfl inf9 rfl rfl ?_ | refine so_skip rfl rfl rfl ?_
    first | refine so_load rfl rfl rfl (by first | exact ld_own Tryz.underlying9 rfl (by repeat (first | exact List.Mem.head _ | apply List.Mem.tail)) (by first | exact cellsOf_get rfl | rfl) | exact ld_data Tryz.underlying9 rfl (by first | assumption | exact InA.add (by assumption) | exact InA.add (InA.add (by assumption))) (by assumption)) ?_ | refine so_skip rfl rfl rfl ?_
    first | refine so_fieldO (o' := 0) rfl rfl rfl Tryz.underlying24 rfl inf9 rfl rfl ?_ | refine so_skip rfl rfl rfl ?_
    first | refine so_load rfl rfl rfl (by first | exact ld_own Tryz.underlying9 rfl (by repeat (first | exact List.Mem.head _ | apply List.Mem.tail)) (by first | exact cellsOf_get rfl | rfl) | exact ld_data Tryz.underlying9 rfl (by first | assumption | exact InA.add (by assumption) | exact InA.add (InA.add (by assumption))) (by assumption)) ?_ | refine so_skip rfl rfl rfl ?_
    first | refine so_bin rfl rfl rfl rfl (by first | exact bin_seql_t (by first | rfl | assumption | decide) | exact bin_seql_f (by first | rfl | assumption | decide)) ?_ | refine so_skip rfl rfl rfl ?_
    first | refine so_move rfl rfl rfl ?_ | refine so_skip rfl rfl rfl ?_
    first | refine so_fieldO (o' := 1) rfl rfl rfl Tryz.underlying24 rfl inf3 rfl rfl ?_ | refine so_skip rfl rfl rfl ?_
    first | refine so_load rfl rfl rfl (by first | exact ld_own Tryz.underlying3 rfl (by repeat (first | exact List.Mem.head _ | apply List.Mem.tail)) (by first | exact cellsOf_get rfl | rfl) | exact ld_data Tryz.underlying3 rfl (by first | assumption | exact InA.add (by assumption) | exact InA.add (InA.add (by assumption))) (by assumption)) ?_ | refine so_skip rfl rfl rfl ?_
    first | refine so_fieldO (o' := 1) rfl rfl rfl Tryz.underlying24 rfl inf3 rfl rfl ?_ | refine so_skip rfl rfl rfl ?_
    first | refine so_load rfl rfl rfl (by first | exact ld_own Tryz.underlying3 rfl (by repeat (first | exact List.Mem.head _ | apply List.Mem.tail)) (by first | exact cellsOf_get rfl | rfl) | exact ld_data Tryz.underlying3 rfl (by first | assumption | exact InA.add (by assumption) | exact InA.add (InA.add (by assumption))) (by assumption)) ?_ | refine so_skip rfl rfl rfl ?_
    first | refine so_bin rfl rfl rfl rfl (by first | exact bin_lss_t (by omega) | exact bin_lss_f (by omega)) ?_ | refine so_skip rfl rfl rfl ?_
    first | refine so_pick_t rfl rfl rfl rfl ?_ | refine so_pick_f rfl rfl rfl rfl ?_ | refine so_skip rfl rfl rfl ?_
    first | refine so_pick_t rfl rfl rfl rfl ?_ | refine so_pick_f rfl rfl rfl rfl ?_
    refine so_assign rfl rfl rfl ?_
    refine so_then ?_
    refine sx_ret ?_
    refine sk_return1 (.tmp rfl .nil) ?_
    exact fun H hH => ⟨by rw [befB_val, decide_eq_false h1, decide_eq_true h2, decide_eq_false h3]; rfl, hH.kept⟩
  · skip
    refine sx_region (E := E) ?_
    refine so_fieldO (o' := 0) rfl rfl rfl Tryz.underlying24 rfl inf9 rfl rfl ?_
    refine so_load rfl rfl rfl (by first | exact ld_own Tryz.underlying9 rfl (by repeat (first | exact List.Mem.head _ | apply List.Mem.tail)) (by first | exact cellsOf_get rfl | rfl) | exact ld_data Tryz.underlying9 rfl (by first | assumption | exact InA.add (by assumption) | exact InA.add (InA.add (by assumption))) (by assumption)) ?_
    refine so_fieldO (o' := 0) rfl rfl rfl Tryz.underlying24 rfl inf9 rfl rfl ?_
    refine so_load rfl rfl rfl (by first | exact ld_own Tryz.underlying9 rfl (by repeat (first | exact List.Mem.head _ | apply List.Mem.tail)) (by first | exact cellsOf_get rfl | rfl) | exact ld_data Tryz.underlying9 rfl (by first | assumption | exact InA.add (by assumption) | exact InA.add (InA.add (by assumption))) (by assumption)) ?_
    refine so_bin rfl rfl rfl rfl (by first | exact bin_slss (lss_t h1) | exact bin_slss (lss_f h1) | exact bin_lss_t (by omega) | exact bin_lss_f (by omega)) ?_
    refine so_move rfl rfl rfl ?_
    first | refine so_fieldO (o' := 0) rfl rfl rfl Tryz.underlying24 rfl inf9 rfl rfl ?_ | refine so_skip rfl rfl rfl ?_
    first | refine so_load rfl rfl rfl (by first | exact ld_own Tryz.underlying9 rfl (by repeat (first | exact List.Mem.head _ | apply List.Mem.tail)) (by first | exact cellsOf_get rfl | rfl) | exact ld_data Tryz.underlying9 rfl (by first | assumption | exact InA.add (by assumption) | exact InA.add (InA.add (by assumption))) (by assumption)) ?_ | refine so_skip rfl rfl rfl ?_
    first | refine so_fieldO (o' := 0) rfl rfl rfl Tryz.underlying24 rfl inf9 rfl rfl ?_ | refine so_skip rfl rfl rfl ?_
    first | refine so_load rfl rfl rfl (by first | exact ld_own Tryz.underlying9 rfl (by repeat (first | exact List.Mem.head _ | apply List.Mem.tail)) (by first | exact cellsOf_get rfl | rfl) | exact ld_data Tryz.underlying9 rfl (by first | assumption | exact InA.add (by assumption) | exact InA.add (InA.add (by assumption))) (by assumption)) ?_ | refine so_skip rfl rfl rfl ?_
    first | refine so_bin rfl rfl rfl rfl (by first | exact bin_seql_t (by first | rfl | assumption | decide) | exact bin_seql_f (by first | rfl | assumption | decide)) ?_ | refine so_skip rfl rfl rfl ?_
    first | refine so_move rfl rfl rfl ?_ | refine so_skip rfl rfl rfl ?_
    first | refine so_fieldO (o' := 1) rfl rfl rfl Tryz.underlying24 rfl inf3 rfl rfl ?_ | refine so_skip rfl rfl rfl ?_
    first | refine so_load rfl rfl rfl (by first | exact ld_own Tryz.underlying3 rfl (by repeat (first | exact List.Mem.head _ | apply List.Mem.tail)) (by first | exact cellsOf_get rfl | rfl) | exact ld_data Tryz.underlying3 rfl (by first | assumption | exact InA.add (by assumption) | exact InA.add (InA.add (by assumption))) (by assumption)) ?_ | refine so_skip rfl rfl rfl ?_
    first | refine so_fieldO (o' := 1) rfl rfl rfl Tryz.underlying24 rfl inf3 rfl rfl ?_ | refine so_skip rfl rfl rfl ?_
    first | refine so_load rfl rfl rfl (by first | exact ld_own Tryz.underlying3 rfl (by repeat (first | exact List.Mem.head _ | apply List.Mem.tail)) (by first | exact cellsOf_get rfl | rfl) | exact ld_data Tryz.underlying3 rfl (by first | assumption | exact InA.add (by assumption) | exact InA.add (InA.add (by assumption))) (by assumption)) ?_ | refine so_skip rfl rfl rfl ?_
    first | refine so_bin rfl rfl rfl rfl (by first | exact bin_lss_t (by omega) | exact bin_lss_f (by omega)) ?_ | refine so_skip rfl rfl rfl ?_
    first | refine so_pick_t rfl rfl rfl rfl ?_ | refine so_pick_f rfl rfl rfl rfl ?_ | refine so_skip rfl rfl rfl ?_
    first | refine so_pick_t rfl rfl rfl rfl ?_ | refine so_pick_f rfl rfl rfl rfl ?_
    refine so_assign rfl rfl rfl ?_
    refine so_then ?_
    refine sx_ret ?_
    refine sk_return1 (.tmp rfl .nil) ?_
    exact fun H hH => ⟨by rw [befB_val, decide_eq_false h1, decide_eq_false h2]; rfl, hH.kept⟩

theorem rbefore_ok {S : AH} (u p u2 p2 : ByteArray) (n n2 : Int) : XCall Tryz.prog 22 [.agg ⟨[.string u, .int .i64 n, .string p]⟩, .agg ⟨[.string u2, .int .i64 n2, .string p2]⟩] S fun v H' => v = .bool (befB [.v (.string u), .v (.int .i64 n), .v (.string p)] [.v (.string u2), .v (.int .i64 n2), .v (.string p2)]) ∧ Kept S.nx S H' := by
  refine x_enter (E := E) (n := 24) (rs := [.tmp 4]) (l := [(1, _), (0, _)]) (fn_own Tryz.func22 rfl rfl rfl) (A0 := fun _ => False) (fun j h => h.elim) rfl ?_
  refine sx_seq ?_
  refine sx_region (E := E) ?_
  refine so_boxA rfl rfl (fun h => nomatch h) rfl ?_
  intro N2
  refine so_boxA rfl rfl (fun h => nomatch h) rfl ?_
  intro N3
  refine so_assign rfl rfl rfl ?_
  refine so_then ?_
  refine sx_seq ?_
  rcases bef4 u.data.toList u2.data.toList n n2 with h1 | ⟨h1, h2, h3⟩ | ⟨h1, h2, h3⟩ | ⟨h1, h2⟩
  · skip
    refine sx_region (E := E) ?_
    refine so_fieldO (o' := 0) rfl rfl rfl Tryz.underlying24 rfl inf9 rfl rfl ?_
    refine so_load rfl rfl rfl (by first | exact ld_own Tryz.underlying9 rfl (by repeat (first | exact List.Mem.head _ | apply List.Mem.tail)) (by first | exact cellsOf_get rfl | rfl) | exact ld_data Tryz.underlying9 rfl (by first | assumption | exact InA.add (by assumption) | exact InA.add (InA.add (by assumption))) (by assumption)) ?_
    refine so_fieldO (o' := 0) rfl rfl rfl Tryz.underlying24 rfl inf9 rfl rfl ?_
    refine so_load rfl rfl rfl (by first | exact ld_own Tryz.underlying9 rfl (by repeat (first | exact List.Mem.head _ | apply List.Mem.tail)) (by first | exact cellsOf_get rfl | rfl) | exact ld_data Tryz.underlying9 rfl (by first | assumption | exact InA.add (by assumption) | exact InA.add (InA.add (by assumption))) (by assumption)) ?_
    refine so_bin rfl rfl rfl rfl (by first | exact bin_slss (lss_t h1) | exact bin_slss (lss_f h1) | exact bin_lss_t (by omega) | exact bin_lss_f (by omega)) ?_
    refine so_move rfl rfl rfl ?_
    first | refine so_fieldO (o' := 0) rfl rfl rfl Tryz.underlying24 rfl inf9 rfl rfl ?_ | refine so_skip rfl rfl rfl ?_
    first | refine so_load rfl rfl rfl (by first | exact ld_own Tryz.underlying9 rfl (by repeat (first | exact List.Mem.head _ | apply List.Mem.tail)) (by first | exact cellsOf_get rfl | rfl) | exact ld_data Tryz.underlying9 rfl (by first | assumption | exact InA.add (by assumption) | exact InA.add (InA.add (by assumption))) (by assumption)) ?_ | refine so_skip rfl rfl rfl ?_
    first | refine so_fieldO (o' := 0) rfl rfl rfl Tryz.underlying24 rfl inf9 rfl rfl ?_ | refine so_skip rfl rfl rfl ?_
    first | refine so_load rfl rfl rfl (by first | exact ld_own Tryz.underlying9 rfl (by repeat (first | exact List.Mem.head _ | apply List.Mem.tail)) (by first | exact cellsOf_get rfl | rfl) | exact ld_data Tryz.underlying9 rfl (by first | assumption | exact InA.add (by assumption) | exact InA.add (InA.add (by assumption))) (by assumption)) ?_ | refine so_skip rfl rfl rfl ?_
    first | refine so_bin rfl rfl rfl rfl (by first | exact bin_seql_t (by first | rfl | assumption | decide) | exact bin_seql_f (by first | rfl | assumption | decide)) ?_ | refine so_skip rfl rfl rfl ?_
    first | refine so_move rfl rfl rfl ?_ | refine so_skip rfl rfl rfl ?_
    first | refine so_fieldO (o' := 1) rfl rfl rfl Tryz.underlying24 rfl inf3 rfl rfl ?_ | refine so_skip rfl rfl rfl ?_
    first | refine so_load rfl rfl rfl (by first | exact ld_own Tryz.underlying3 rfl (by repeat (first | exact List.Mem.head _ | apply List.Mem.tail)) (by first | exact cellsOf_get rfl | rfl) | exact ld_data Tryz.underlying3 rfl (by first | assumption | exact InA.add (by assumption) | exact InA.add (InA.add (by assumption))) (by assumption)) ?_ | refine so_skip rfl rfl rfl ?_
    first | refine so_fieldO (o' := 1) rfl rfl rfl Tryz.underlying24 rfl inf3 rfl rfl ?_ | refine so_skip rfl rfl rfl ?_
    first | refine so_load rfl rfl rfl (by first | exact ld_own Tryz.underlying3 rfl (by repeat (first | exact List.Mem.head _ | apply List.Mem.tail)) (by first | exact cellsOf_get rfl | rfl) | exact ld_data Tryz.underlying3 rfl (by first | assumption | exact InA.add (by assumption) | exact InA.add (InA.add (by assumption))) (by assumption)) ?_ | refine so_skip rfl rfl rfl ?_
    first | refine so_bin rfl rfl rfl rfl (by first | exact bin_lss_t (by omega) | exact bin_lss_f (by omega)) ?_ | refine so_skip rfl rfl rfl ?_
    first | refine so_pick_t rfl rfl rfl rfl ?_ | refine so_pick_f rfl rfl rfl rfl ?_ | refine so_skip rfl rfl rfl ?_
    first | refine so_pick_t rfl rfl rfl rfl ?_ | refine so_pick_f rfl rfl rfl rfl ?_
    refine so_assign rfl rfl rfl ?_
    refine so_then ?_
    refine sx_ret ?_
    refine sk_return1 (.tmp rfl .nil) ?_
    exact fun H hH => ⟨by rw [befB_val, decide_eq_true h1]; rfl, hH.kept⟩
  · skip
    refine sx_region (E := E) ?_
    refine so_fieldO (o' := 0) rfl rfl rfl Tryz.underlying24 rfl inf9 rfl rfl ?_
    refine so_load rfl rfl rfl (by first | exact ld_own Tryz.underlying9 rfl (by repeat (first | exact List.Mem.head _ | apply List.Mem.tail)) (by first | exact cellsOf_get rfl | rfl) | exact ld_data Tryz.underlying9 rfl (by first | assumption | exact InA.add (by assumption) | exact InA.add (InA.add (by assumption))) (by assumption)) ?_
    refine so_fieldO (o' := 0) rfl rfl rfl Tryz.underlying24 rfl inf9 rfl rfl ?_
    refine so_load rfl rfl rfl (by first | exact ld_own Tryz.underlying9 rfl (by repeat (first | exact List.Mem.head _ | apply List.Mem.tail)) (by first | exact cellsOf_get rfl | rfl) | exact ld_data Tryz.underlying9 rfl (by first | assumption | exact InA.add (by assumption) | exact InA.add (InA.add (by assumption))) (by assumption)) ?_
    refine so_bin rfl rfl rfl rfl (by first | exact bin_slss (lss_t h1) | exact bin_slss (lss_f h1) | exact bin_lss_t (by omega) | exact bin_lss_f (by omega)) ?_
    refine so_move rfl rfl rfl ?_
    first | refine so_fieldO (o' := 0) rfl rfl rfl Tryz.underlying24 rfl inf9 rfl rfl ?_ | refine so_skip rfl rfl rfl ?_
    first | refine so_load rfl rfl rfl (by first | exact ld_own Tryz.underlying9 rfl (by repeat (first | exact List.Mem.head _ | apply List.Mem.tail)) (by first | exact cellsOf_get rfl | rfl) | exact ld_data Tryz.underlying9 rfl (by first | assumption | exact InA.add (by assumption) | exact InA.add (InA.add (by assumption))) (by assumption)) ?_ | refine so_skip rfl rfl rfl ?_
    first | refine so_fieldO (o' := 0) rfl rfl rfl Tryz.underlying24 rfl inf9 rfl rfl ?_ | refine so_skip rfl rfl rfl ?_
    first | refine so_load rfl rfl rfl (by first | exact ld_own Tryz.underlying9 rfl (by repeat (first | exact List.Mem.head _ | apply List.Mem.tail)) (by first | exact cellsOf_get rfl | rfl) | exact ld_data Tryz.underlying9 rfl (by first | assumption | exact InA.add (by assumption) | exact InA.add (InA.add (by assumption))) (by assumption)) ?_ | refine so_skip rfl rfl rfl ?_
    first | refine so_bin rfl rfl rfl rfl (by first | exact bin_seql_t (by first | rfl | assumption | decide) | exact bin_seql_f (by first | rfl | assumption | decide)) ?_ | refine so_skip rfl rfl rfl ?_
    first | refine so_move rfl rfl rfl ?_ | refine so_skip rfl rfl rfl ?_
    first | refine so_fieldO (o' := 1) rfl rfl rfl Tryz.underlying24 rfl inf3 rfl rfl ?_ | refine so_skip rfl rfl rfl ?_
    first | refine so_load rfl rfl rfl (by first | exact ld_own Tryz.underlying3 rfl (by repeat (first | exact List.Mem.head _ | apply List.Mem.tail)) (by first | exact cellsOf_get rfl | rfl) | exact ld_data Tryz.underlying3 rfl (by first | assumption | exact InA.add (by assumption) | exact InA.add (InA.add (by assumption))) (by assumption)) ?_ | refine so_skip rfl rfl rfl ?_
    first | refine so_fieldO (o' := 1) rfl rfl rfl Tryz.underlying24 rfl inf3 rfl rfl ?_ | refine so_skip rfl rfl rfl ?_
    first | refine so_load rfl rfl rfl (by first | exact ld_own Tryz.underlying3 rfl (by repeat (first | exact List.Mem.head _ | apply List.Mem.tail)) (by first | exact cellsOf_get rfl | rfl) | exact ld_data Tryz.underlying3 rfl (by first | assumption | exact InA.add (by assumption) | exact InA.add (InA.add (by assumption))) (by assumption)) ?_ | refine so_skip rfl rfl rfl ?_
    first | refine so_bin rfl rfl rfl rfl (by first | exact bin_lss_t (by omega) | exact bin_lss_f (by omega)) ?_ | refine so_skip rfl rfl rfl ?_
    first | refine so_pick_t rfl rfl rfl rfl ?_ | refine so_pick_f rfl rfl rfl rfl ?_ | refine so_skip rfl rfl rfl ?_
    first | refine so_pick_t rfl rfl rfl rfl ?_ | refine so_pick_f rfl rfl rfl rfl ?_
    refine so_assign rfl rfl rfl ?_
    refine so_then ?_
    refine sx_ret ?_
    refine sk_return1 (.tmp rfl .nil) ?_
    exact fun H hH => ⟨by rw [befB_val, decide_eq_false h1, decide_eq_true h2, decide_eq_true h3]; rfl, hH.kept⟩
  · skip
    refine sx_region (E := E) ?_
    refine so_fieldO (o' := 0) rfl rfl rfl Tryz.underlying24 rfl inf9 rfl rfl ?_
    refine so_load rfl rfl rfl (by first | exact ld_own Tryz.underlying9 rfl (by repeat (first | exact List.Mem.head _ | apply List.Mem.tail)) (by first | exact cellsOf_get rfl | rfl) | exact ld_data Tryz.underlying9 rfl (by first | assumption | exact InA.add (by assumption) | exact InA.add (InA.add (by assumption))) (by assumption)) ?_
    refine so_fieldO (o' := 0) rfl rfl rfl Tryz.underlying24 rfl inf9 rfl rfl ?_
    refine so_load rfl rfl rfl (by first | exact ld_own Tryz.underlying9 rfl (by repeat (first | exact List.Mem.head _ | apply List.Mem.tail)) (by first | exact cellsOf_get rfl | rfl) | exact ld_data Tryz.underlying9 rfl (by first | assumption | exact InA.add (by assumption) | exact InA.add (InA.add (by assumption))) (by assumption)) ?_
    refine so_bin rfl rfl rfl rfl (by first | exact bin_slss (lss_t h1) | exact bin_slss (lss_f h1) | exact bin_lss_t (by omega) | exact bin_lss_f (by omega)) ?_
    refine so_move rfl rfl rfl ?_
    first | refine so_fieldO (o' := 0) rfl rfl rfl Tryz.underlying24 rfl inf9 rfl rfl ?_ | refine so_skip rfl rfl rfl ?_
    first | refine so_load rfl rfl rfl (by first | exact ld_own Tryz.underlying9 rfl (by repeat (first | exact List.Mem.head _ | apply List.Mem.tail)) (by first | exact cellsOf_get rfl | rfl) | exact ld_data Tryz.underlying9 rfl (by first | assumption | exact InA.add (by assumption) | exact InA.add (InA.add (by assumption))) (by assumption)) ?_ | refine so_skip rfl rfl rfl ?_
    first | refine so_fieldO (o' := 0) rfl rfl rfl Tryz.underlying24 rfl inf9 rfl rfl ?_ | refine so_skip rfl rfl rfl ?_
    first | refine so_load rfl rfl rfl (by first | exact ld_own Tryz.underlying9 rfl (by repeat (first | exact List.Mem.head _ | apply List.Mem.tail)) (by first | exact cellsOf_get rfl | rfl) | exact ld_data Tryz.underlying9 rfl (by first | assumption | exact InA.add (by assumption) | exact InA.add (InA.add (by assumption))) (by assumption)) ?_ | refine so_skip rfl rfl rfl ?_
    first | refine so_bin rfl rfl rfl rfl (by first | exact bin_seql_t (by first | rfl | assumption | decide) | exact bin_seql_f (by first | rfl | assumption | decide)) ?_ | refine so_skip rfl rfl rfl ?_
    first | refine so_move rfl rfl rfl ?_ | refine so_skip rfl rfl rfl ?_
    first | refine so_fieldO (o' := 1) rfl rfl rfl Tryz.underlying24 rfl inf3 rfl rfl ?_ | refine so_skip rfl rfl rfl ?_
    first | refine so_load rfl rfl rfl (by first | exact ld_own Tryz.underlying3 rfl (by repeat (first | exact List.Mem.head _ | apply List.Mem.tail)) (by first | exact cellsOf_get rfl | rfl) | exact ld_data Tryz.underlying3 rfl (by first | assumption | exact InA.add (by assumption) | exact InA.add (InA.add (by assumption))) (by assumption)) ?_ | refine so_skip rfl rfl rfl ?_
    first | refine so_fieldO (o' := 1) rfl rfl rfl Tryz.underlying24 rfl inf3 rfl rfl ?_ | refine so_skip rfl rfl rfl ?_
    first | refine so_load rfl rfl rfl (by first | exact ld_own Tryz.underlying3 rfl (by repeat (first | exact List.Mem.head _ | apply List.Mem.tail)) (by first | exact cellsOf_get rfl | rfl) | exact ld_data Tryz.underlying3 rfl (by first | assumption | exact InA.add (by assumption) | exact InA.add (InA.add (by assumption))) (by assumption)) ?_ | refine so_skip rfl rfl rfl ?_
    first | refine so_bin rfl rfl rfl rfl (by first | exact bin_lss_t (by omega) | exact bin_lss_f (by omega)) ?_ | refine so_skip rfl rfl rfl ?_
    first | refine so_pick_t rfl rfl rfl rfl ?_ | refine so_pick_f rfl rfl rfl rfl ?_ | refine so_skip rfl rfl rfl ?_
    first | refine so_pick_t rfl rfl rfl rfl ?_ | refine so_pick_f rfl rfl rfl rfl ?_
    refine so_assign rfl rfl rfl ?_
    refine so_then ?_
    refine sx_ret ?_
    refine sk_return1 (.tmp rfl .nil) ?_
    exact fun H hH => ⟨by rw [befB_val, decide_eq_false h1, decide_eq_true h2, decide_eq_false h3]; rfl, hH.kept⟩
  · skip
    refine sx_region (E := E) ?_
    refine so_fieldO (o' := 0) rfl rfl rfl Tryz.underlying24 rfl inf9 rfl rfl ?_
    refine so_load rfl rfl rfl (by first | exact ld_own Tryz.underlying9 rfl (by repeat (first | exact List.Mem.head _ | apply List.Mem.tail)) (by first | exact cellsOf_get rfl | rfl) | exact ld_data Tryz.underlying9 rfl (by first | assumption | exact InA.add (by assumption) | exact InA.add (InA.add (by assumption))) (by assumption)) ?_
    refine so_fieldO (o' := 0) rfl rfl rfl Tryz.underlying24 rfl inf9 rfl rfl ?_
    refine so_load rfl rfl rfl (by first | exact ld_own Tryz.underlying9 rfl (by repeat (first | exact List.Mem.head _ | apply List.Mem.tail)) (by first | exact cellsOf_get rfl | rfl) | exact ld_data Tryz.underlying9 rfl (by first | assumption | exact InA.add (by assumption) | exact InA.add (InA.add (by assumption))) (by assumption)) ?_
    refine so_bin rfl rfl rfl rfl (by first | exact bin_slss (lss_t h1) | exact bin_slss (lss_f h1) | exact bin_lss_t (by omega) | exact bin_lss_f (by omega)) ?_
    refine so_move rfl rfl rfl ?_
    first | refine so_fieldO (o' := 0) rfl rfl rfl Tryz.underlying24 rfl inf9 rfl rfl ?_ | refine so_skip rfl rfl rfl ?_
    first | refine so_load rfl rfl rfl (by first | exact ld_own Tryz.underlying9 rfl (by repeat (first | exact List.Mem.head _ | apply List.Mem.tail)) (by first | exact cellsOf_get rfl | rfl) | exact ld_data Tryz.underlying9 rfl (by first | assumption | exact InA.add (by assumption) | exact InA.add (InA.add (by assumption))) (by assumption)) ?_ | refine so_skip rfl rfl rfl ?_
    first | refine so_fieldO (o' := 0) rfl rfl rfl Tryz.underlying24 rfl inf9 rfl rfl ?_ | refine so_skip rfl rfl rfl ?_
    first | refine so_load rfl rfl rfl (by first | exact ld_own Tryz.underlying9 rfl (by repeat (first | exact List.Mem.head _ | apply List.Mem.tail)) (by first | exact cellsOf_get rfl | rfl) | exact ld_data Tryz.underlying9 rfl (by first | assumption | exact InA.add (by assumption) | exact InA.add (InA.add (by assumption))) (by assumption)) ?_ | refine so_skip rfl rfl rfl ?_
    first | refine so_bin rfl rfl rfl rfl (by first | exact bin_seql_t (by first | rfl | assumption | decide) | exact bin_seql_f (by first | rfl | assumption | decide)) ?_ | refine so_skip rfl rfl rfl ?_
    first | refine so_move rfl rfl rfl ?_ | refine so_skip rfl rfl rfl ?_
    first | refine so_fieldO (o' := 1) rfl rfl rfl Tryz.underlying24 rfl inf3 rfl rfl ?_ | refine so_skip rfl rfl rfl ?_
    first | refine so_load rfl rfl rfl (by first | exact ld_own Tryz.underlying3 rfl (by repeat (first | exact List.Mem.head _ | apply List.Mem.tail)) (by first | exact cellsOf_get rfl | rfl) | exact ld_data Tryz.underlying3 rfl (by first | assumption | exact InA.add (by assumption) | exact InA.add (InA.add (by assumption))) (by assumption)) ?_ | refine so_skip rfl rfl rfl ?_
    first | refine so_fieldO (o' := 1) rfl rfl rfl Tryz.underlying24 rfl inf3 rfl rfl ?_ | refine so_skip rfl rfl rfl ?_
    first | refine so_load rfl rfl rfl (by first | exact ld_own Tryz.underlying3 rfl (by repeat (first | exact List.Mem.head _ | apply List.Mem.tail)) (by first | exact cellsOf_get rfl | rfl) | exact ld_data Tryz.underlying3 rfl (by first | assumption | exact InA.add (by assumption) | exact InA.add (InA.add (by assumption))) (by assumption)) ?_ | refine so_skip rfl rfl rfl ?_
    first | refine so_bin rfl rfl rfl rfl (by first | exact bin_lss_t (by omega) | exact bin_lss_f (by omega)) ?_ | refine so_skip rfl rfl rfl ?_
    first | refine so_pick_t rfl rfl rfl rfl ?_ | refine so_pick_f rfl rfl rfl rfl ?_ | refine so_skip rfl rfl rfl ?_
    first | refine so_pick_t rfl rfl rfl rfl ?_ | refine so_pick_f rfl rfl rfl rfl ?_
    refine so_assign rfl rfl rfl ?_
    refine so_then ?_
    refine sx_ret ?_
    refine sk_return1 (.tmp rfl .nil) ?_
    exact fun H hH => ⟨by rw [befB_val, decide_eq_false h1, decide_eq_false h2]; rfl, hH.kept⟩

theorem same_ok {S : AH} {A : Nat → Prop} (hA : ∀ j, A j → j < S.nx) {x y : Value} {l : List (List CT)} (hx : CellA A S (.row 40 k24) x (.row l)) (hy : CellA A S (.row 40 k24) y (.row l)) : XCall Tryz.prog 11 [x, y] S fun v H' => v = .bool true ∧ Kept S.nx S H' := by
  obtain ⟨l2, ax, cx, e2, rfl, rx⟩ := hx.rowD
  cases e2
  have hb := rx.len
  obtain ⟨l2, ay, cy, e2, rfl, ry⟩ := hy.rowD
  cases e2
  refine x_enter (E := E) (n := 26) (rs := [.tmp 4]) (l := [(1, _), (0, _)]) (fn_own Tryz.func11 rfl rfl rfl) hA rfl ?_
  refine sx_seq ?_
  refine sx_region (E := E) ?_
  refine so_assign rfl rfl rfl ?_
  refine so_then ?_
  refine sx_seq ?_
  refine sx_seq ?_
  refine sx_region (E := E) ?_
  refine so_move rfl rfl rfl ?_
  refine so_lenL rfl rfl rfl rfl rfl rfl Tryz.underlying22 ?_
  refine so_move rfl rfl rfl ?_
  refine so_lenL rfl rfl rfl rfl rfl rfl Tryz.underlying22 ?_
  refine so_bin rfl rfl rfl rfl (by first | exact bin_neq_f (by first | rfl | assumption | omega) | exact bin_neq_t (by first | rfl | assumption | omega)) ?_
  refine so_then ?_
  refine sx_false rfl ?_
  refine sx_skip ?_
  refine sk_then ?_
  refine sx_seq ?_
  refine sx_seq ?_
  refine sx_region (E := E) ?_
  refine so_move rfl rfl rfl ?_
  refine so_lenL rfl rfl rfl rfl rfl rfl Tryz.underlying22 ?_
  refine so_move rfl rfl rfl ?_
  refine so_then ?_
  refine sx_block ?_
  refine sx_loop (σ := Nat) (fun k => l.length - k) (fun k => [(0, .slice ax l.length cx), (1, .slice ay l.length cy), (12, .int .i64 ((l.length : Nat) : Int)), (13, .int .i64 ((k : Nat) : Int))]) (fun _ => S) (fun _ => A) (fun _ => []) (fun k => k ≤ l.length) (0) (Nat.zero_le _) (by repeat (first | exact .nil | refine .cons rfl ?_)) rfl rfl (by repeat (first | exact List.nil_sublist _ | apply List.Sublist.cons_cons | apply List.Sublist.cons)) ?_
  intro s hJ t1
  replace hJ : s ≤ l.length := hJ
  refine sx_seq ?_
  rcases Nat.lt_or_ge s l.length with hk | hk
  · skip
    obtain ⟨px, xs, c, eqx, ix, hc, lx, kx⟩ := rx.at' s hk
    cases eqx
    obtain ⟨py, ys, c2, eqy, iy, hc2, ly, ky⟩ := ry.at' s hk
    cases eqy
    rw [hc] at hc2; cases hc2
    refine sx_region (E := E) ?_
    refine so_bin rfl rfl rfl rfl (by first | exact bin_lss_t (by omega) | exact bin_lss_f (by omega)) ?_
    refine so_then ?_
    refine sx_seq ?_
    refine sx_true rfl ?_
    refine sx_skip ?_
    refine sk_then ?_
    refine sx_seq ?_
    refine sx_block ?_
    refine sx_seq ?_
    refine sx_region (E := E) ?_
    refine so_move rfl rfl rfl ?_
    refine so_assign rfl rfl rfl ?_
    refine so_then ?_
    refine sx_seq ?_
    refine sx_draw (E := E) mixed [] _ (List.Sublist.refl _) (by kernel_rfl) (by kernel_rfl) (by decide) ?_
    refine so_move rfl rfl rfl ?_
    refine so_move rfl rfl rfl ?_
    first | refine so_indexO rfl rfl rfl rfl Tryz.underlying22 inf24 rfl (by omega) rfl ?_ | refine so_index rfl rfl rfl rfl Tryz.underlying22 inf24 rfl (by omega) ?_
    refine so_load rfl rfl rfl (by first | exact ld_ownA Tryz.underlying24 rfl inf24 rfl (by repeat (first | exact List.Mem.head _ | apply List.Mem.tail)) (by first | exact cellsOf_le rfl | exact Nat.le_of_ble_eq_true rfl | decide | omega) (by first | exact cellsOf_all | exact take_all rfl | exact cellsOf_part rfl | rfl) | exact ld_dataA Tryz.underlying24 rfl inf24 rfl (by first | assumption | exact InA.add (by assumption) | exact InA.add (InA.add (by assumption))) (by assumption)) ?_
    refine so_move rfl rfl rfl ?_
    refine so_move rfl rfl rfl ?_
    first | refine so_indexO rfl rfl rfl rfl Tryz.underlying22 inf24 rfl (by omega) rfl ?_ | refine so_index rfl rfl rfl rfl Tryz.underlying22 inf24 rfl (by omega) ?_
    refine so_load rfl rfl rfl (by first | exact ld_ownA Tryz.underlying24 rfl inf24 rfl (by repeat (first | exact List.Mem.head _ | apply List.Mem.tail)) (by first | exact cellsOf_le rfl | exact Nat.le_of_ble_eq_true rfl | decide | omega) (by first | exact cellsOf_all | exact take_all rfl | exact cellsOf_part rfl | rfl) | exact ld_dataA Tryz.underlying24 rfl inf24 rfl (by first | assumption | exact InA.add (by assumption) | exact InA.add (InA.add (by assumption))) (by assumption)) ?_
    refine so_bin rfl rfl rfl rfl (by first | exact (bin_aggsame Tryz.underlying24 rfl (by kernel_rfl) rfl kx ky).2) ?_
    refine so_then ?_
    refine sx_false rfl ?_
    refine sx_skip ?_
    refine sk_block ?_
    refine sk_then ?_
    refine sx_region (E := E) ?_
    refine so_bin rfl rfl rfl rfl (by first | exact bin_incr (by omega) | exact bin_add (wrap64 (by omega) (by omega)) | exact bin_add rfl) ?_
    refine so_move rfl rfl rfl ?_
    refine so_nil ?_
    exact sk_round (s + 1) (show l.length - (s + 1) < l.length - s by omega) (show s + 1 ≤ l.length by omega) (by repeat (first | exact .nil | refine .cons rfl ?_)) rfl rfl (by repeat (first | exact List.nil_sublist _ | apply List.Sublist.cons_cons | apply List.Sublist.cons))
  · skip
    refine sx_region (E := E) ?_
    refine so_bin rfl rfl rfl rfl (by first | exact bin_lss_t (by omega) | exact bin_lss_f (by omega)) ?_
    refine so_then ?_
    refine sx_seq ?_
    refine sx_false rfl ?_
    refine sx_exit ?_
    refine sk_then_exit ?_
    refine sk_loop_exit ?_
    refine sk_block_exit ?_
    refine sk_then ?_
    refine sx_seq ?_
    refine sx_region (E := E) ?_
    refine so_assign rfl rfl rfl ?_
    refine so_then ?_
    refine sx_ret ?_
    refine sk_return1 (.tmp rfl .nil) ?_
    exact fun H hH => ⟨rfl, hH.kept⟩

end Go.Proofs.YthnplnlhibalcaaGreatDoor
