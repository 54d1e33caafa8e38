/-
  Walks, laid by program.
-/
import Derived.Test.YtaedeadgbojmnaaB4
set_option linter.unusedVariables false
set_option linter.unusedSimpArgs false
set_option maxRecDepth 100000
namespace Go.Proofs.Ytaedeadgbojmnaa
open Go Go.AM

/-- a name as the document says -/
def nameB (l : List UInt8) : Bool := l.all (fun b => decide (33 ≤ b.toNat) && decide (b.toNat ≤ 126)) && (decide (1 ≤ l.length) && decide (l.length ≤ 32))
theorem nameB_bad {l : List UInt8} {k : Nat} {b : UInt8} (hb : l[k]? = some b) (h : b.toNat < 33 ∨ 126 < b.toNat) : nameB l = false := by
  have hm := List.mem_of_getElem? hb
  cases e : nameB l with
  | false => rfl
  | true =>
    simp only [nameB, Bool.and_eq_true, List.all_eq_true, decide_eq_true_eq] at e
    have := e.1 b hm
    omega
theorem nameB_len {l : List UInt8} (h : ∀ j b, j < l.length → l[j]? = some b → 33 ≤ b.toNat ∧ b.toNat ≤ 126) : nameB l = (decide (1 ≤ l.length) && decide (l.length ≤ 32)) := by
  have : (l.all fun b => decide (33 ≤ b.toNat) && decide (b.toNat ≤ 126)) = true := by
    rw [List.all_eq_true]
    intro b hb
    obtain ⟨j, hj⟩ := List.getElem?_of_mem hb
    have := h j b (lt_of_getElem? hj) hj
    simp [this.1, this.2]
  rw [nameB, this, Bool.true_and]
theorem byte3 (b : UInt8) : b.toNat < 33 ∨ (33 ≤ b.toNat ∧ b.toNat ≤ 126) ∨ 126 < b.toNat := by omega
theorem len3 (n : Nat) : n < 1 ∨ (1 ≤ n ∧ n ≤ 32) ∨ 32 < n := by omega
theorem isName_ok {S : AH} (q : ByteArray) (hs : q.data.toList.length ≤ 9223372036854775807) : XCall Try.prog 44 [.string q] S fun v H' => v = .bool (nameB q.data.toList) ∧ Kept S.nx S H' := by
  have ho := hs
  refine x_enter (E := E) (n := 28) (rs := [.tmp 2]) (l := [(0, _)]) (fn_own Try.func44 rfl rfl rfl) (A0 := fun _ => False) (fun j h => h.elim) rfl ?_
  refine sx_seq ?_
  refine sx_region (E := E) ?_
  refine so_assign rfl rfl rfl ?_
  refine so_then ?_
  refine sx_seq ?_
  refine sx_seq ?_
  refine sx_region (E := E) ?_
  refine so_move rfl rfl rfl ?_
  refine so_lenS rfl rfl rfl rfl rfl rfl Try.underlying9 ?_
  refine so_move rfl rfl rfl ?_
  refine so_then ?_
  refine sx_block ?_
  refine sx_loop (σ := Nat) (fun k => q.data.toList.length - k) (fun k => [(0, .string q), (5, .int .i64 ((q.data.toList.length : Nat) : Int)), (6, .int .i64 ((k : Nat) : Int))]) (fun _ => S) (fun _ => fun _ => False) (fun _ => []) (fun k => k ≤ q.data.toList.length ∧ (∀ j b, j < k → q.data.toList[j]? = some b → 33 ≤ b.toNat ∧ b.toNat ≤ 126)) (0) (⟨Nat.zero_le _, fun j b h => absurd h (Nat.not_lt_zero _)⟩) (by repeat (first | exact .nil | refine .cons rfl ?_)) rfl rfl (by repeat (first | exact List.nil_sublist _ | apply List.Sublist.cons_cons | apply List.Sublist.cons)) ?_
  intro s hJ t1
  obtain ⟨hJ, hg⟩ := hJ
  refine sx_seq ?_
  rcases Nat.lt_or_ge s q.data.toList.length with hk | hk
  · skip
    obtain ⟨b, hb⟩ : ∃ b, q.data.toList[s]? = some b := ⟨_, List.getElem?_eq_getElem hk⟩
    refine sx_region (E := E) ?_
    refine so_bin rfl rfl rfl rfl (by first | exact bin_lss_t (by omega) | exact bin_lss_f (by omega)) ?_
    refine so_then ?_
    refine sx_seq ?_
    refine sx_true rfl ?_
    refine sx_skip ?_
    refine sk_then ?_
    refine sx_seq ?_
    refine sx_block ?_
    refine sx_seq ?_
    refine sx_region (E := E) ?_
    refine so_move rfl rfl rfl ?_
    refine so_assign rfl rfl rfl ?_
    refine so_then ?_
    refine sx_seq ?_
    rcases byte3 b with hc | hc | hc
    · skip
      refine sx_region (E := E) ?_
      refine so_move rfl rfl rfl ?_
      refine so_move rfl rfl rfl ?_
      refine so_strAt rfl rfl rfl rfl Try.underlying9 (by assumption) ?_
      refine so_bin rfl rfl rfl rfl (by first | exact bin_lss_t (by omega) | exact bin_lss_f (by omega)) ?_
      refine so_move rfl rfl rfl ?_
      first | refine so_move rfl rfl rfl ?_ | refine so_skip rfl rfl rfl ?_
      first | refine so_move rfl rfl rfl ?_ | refine so_skip rfl rfl rfl ?_
      first | refine so_strAt rfl rfl rfl rfl Try.underlying9 (by assumption) ?_ | refine so_skip rfl rfl rfl ?_
      first | refine so_bin rfl rfl rfl rfl (by first | exact bin_gtr_t (by omega) | exact bin_gtr_f (by omega)) ?_ | refine so_skip rfl rfl rfl ?_
      first | refine so_pick_t rfl rfl rfl rfl ?_ | refine so_pick_f rfl rfl rfl rfl ?_
      refine so_then ?_
      refine sx_true rfl ?_
      refine sx_seq ?_
      refine sx_region (E := E) ?_
      refine so_assign rfl rfl rfl ?_
      refine so_then ?_
      refine sx_ret ?_
      refine sk_block_ret ?_
      refine sk_then_ret ?_
      refine sk_loop_ret ?_
      refine sk_block_ret ?_
      refine sk_then_ret ?_
      refine sk_return1 (.tmp rfl .nil) ?_
      exact fun H hH => ⟨by rw [nameB_bad hb (.inl hc)], hH.kept⟩
    · skip
      refine sx_region (E := E) ?_
      refine so_move rfl rfl rfl ?_
      refine so_move rfl rfl rfl ?_
      refine so_strAt rfl rfl rfl rfl Try.underlying9 (by assumption) ?_
      refine so_bin rfl rfl rfl rfl (by first | exact bin_lss_t (by omega) | exact bin_lss_f (by omega)) ?_
      refine so_move rfl rfl rfl ?_
      first | refine so_move rfl rfl rfl ?_ | refine so_skip rfl rfl rfl ?_
      first | refine so_move rfl rfl rfl ?_ | refine so_skip rfl rfl rfl ?_
      first | refine so_strAt rfl rfl rfl rfl Try.underlying9 (by assumption) ?_ | refine so_skip rfl rfl rfl ?_
      first | refine so_bin rfl rfl rfl rfl (by first | exact bin_gtr_t (by omega) | exact bin_gtr_f (by omega)) ?_ | refine so_skip rfl rfl rfl ?_
      first | refine so_pick_t rfl rfl rfl rfl ?_ | refine so_pick_f rfl rfl rfl rfl ?_
      refine so_then ?_
      refine sx_false rfl ?_
      refine sx_skip ?_
      refine sk_block ?_
      refine sk_then ?_
      refine sx_region (E := E) ?_
      refine so_bin rfl rfl rfl rfl (by first | exact bin_incr (by omega) | exact bin_add (wrap64 (by omega) (by omega)) | exact bin_add rfl) ?_
      refine so_move rfl rfl rfl ?_
      refine so_nil ?_
      refine sk_round (s + 1) (show q.data.toList.length - (s + 1) < q.data.toList.length - s by omega) ⟨by omega, fun j b2 hj hb2 => ?_⟩ (by repeat (first | exact .nil | refine .cons rfl ?_)) rfl rfl (by repeat (first | exact List.nil_sublist _ | apply List.Sublist.cons_cons | apply List.Sublist.cons))
      by_cases e : j = s
      · subst e; rw [hb] at hb2; cases hb2; exact hc
      · exact hg j b2 (by omega) hb2
    · skip
      refine sx_region (E := E) ?_
      refine so_move rfl rfl rfl ?_
      refine so_move rfl rfl rfl ?_
      refine so_strAt rfl rfl rfl rfl Try.underlying9 (by assumption) ?_
      refine so_bin rfl rfl rfl rfl (by first | exact bin_lss_t (by omega) | exact bin_lss_f (by omega)) ?_
      refine so_move rfl rfl rfl ?_
      first | refine so_move rfl rfl rfl ?_ | refine so_skip rfl rfl rfl ?_
      first | refine so_move rfl rfl rfl ?_ | refine so_skip rfl rfl rfl ?_
      first | refine so_strAt rfl rfl rfl rfl Try.underlying9 (by assumption) ?_ | refine so_skip rfl rfl rfl ?_
      first | refine so_bin rfl rfl rfl rfl (by first | exact bin_gtr_t (by omega) | exact bin_gtr_f (by omega)) ?_ | refine so_skip rfl rfl rfl ?_
      first | refine so_pick_t rfl rfl rfl rfl ?_ | refine so_pick_f rfl rfl rfl rfl ?_
      refine so_then ?_
      refine sx_true rfl ?_
      refine sx_seq ?_
      refine sx_region (E := E) ?_
      refine so_assign rfl rfl rfl ?_
      refine so_then ?_
      refine sx_ret ?_
      refine sk_block_ret ?_
      refine sk_then_ret ?_
      refine sk_loop_ret ?_
      refine sk_block_ret ?_
      refine sk_then_ret ?_
      refine sk_return1 (.tmp rfl .nil) ?_
      exact fun H hH => ⟨by rw [nameB_bad hb (.inr hc)], hH.kept⟩
  · skip
    refine sx_region (E := E) ?_
    refine so_bin rfl rfl rfl rfl (by first | exact bin_lss_t (by omega) | exact bin_lss_f (by omega)) ?_
    refine so_then ?_
    refine sx_seq ?_
    refine sx_false rfl ?_
    refine sx_exit ?_
    refine sk_then_exit ?_
    refine sk_loop_exit ?_
    refine sk_block_exit ?_
    refine sk_then ?_
    refine sx_seq ?_
    rcases len3 q.data.toList.length with hc | hc | hc
    · skip
      refine sx_region (E := E) ?_
      refine so_move rfl rfl rfl ?_
      refine so_lenS rfl rfl rfl rfl rfl rfl Try.underlying9 ?_
      refine so_bin rfl rfl rfl rfl (by first | exact bin_geq_t (by omega) | exact bin_geq_f (by omega)) ?_
      refine so_move rfl rfl rfl ?_
      first | refine so_move rfl rfl rfl ?_ | refine so_skip rfl rfl rfl ?_
      first | refine so_lenS rfl rfl rfl rfl rfl rfl Try.underlying9 ?_ | refine so_skip rfl rfl rfl ?_
      first | refine so_bin rfl rfl rfl rfl (by first | exact bin_leq_t (by omega) | exact bin_leq_f (by omega)) ?_ | refine so_skip rfl rfl rfl ?_
      first | refine so_pick_t rfl rfl rfl rfl ?_ | refine so_pick_f rfl rfl rfl rfl ?_
      refine so_assign rfl rfl rfl ?_
      refine so_then ?_
      refine sx_ret ?_
      refine sk_return1 (.tmp rfl .nil) ?_
      exact fun H hH => ⟨by rw [nameB_len fun j b h1 h2 => hg j b (by omega) h2, decide_eq_false (by omega)]; rfl, hH.kept⟩
    · skip
      refine sx_region (E := E) ?_
      refine so_move rfl rfl rfl ?_
      refine so_lenS rfl rfl rfl rfl rfl rfl Try.underlying9 ?_
      refine so_bin rfl rfl rfl rfl (by first | exact bin_geq_t (by omega) | exact bin_geq_f (by omega)) ?_
      refine so_move rfl rfl rfl ?_
      first | refine so_move rfl rfl rfl ?_ | refine so_skip rfl rfl rfl ?_
      first | refine so_lenS rfl rfl rfl rfl rfl rfl Try.underlying9 ?_ | refine so_skip rfl rfl rfl ?_
      first | refine so_bin rfl rfl rfl rfl (by first | exact bin_leq_t (by omega) | exact bin_leq_f (by omega)) ?_ | refine so_skip rfl rfl rfl ?_
      first | refine so_pick_t rfl rfl rfl rfl ?_ | refine so_pick_f rfl rfl rfl rfl ?_
      refine so_assign rfl rfl rfl ?_
      refine so_then ?_
      refine sx_ret ?_
      refine sk_return1 (.tmp rfl .nil) ?_
      exact fun H hH => ⟨by rw [nameB_len fun j b h1 h2 => hg j b (by omega) h2, decide_eq_true hc.1, decide_eq_true hc.2]; rfl, hH.kept⟩
    · skip
      refine sx_region (E := E) ?_
      refine so_move rfl rfl rfl ?_
      refine so_lenS rfl rfl rfl rfl rfl rfl Try.underlying9 ?_
      refine so_bin rfl rfl rfl rfl (by first | exact bin_geq_t (by omega) | exact bin_geq_f (by omega)) ?_
      refine so_move rfl rfl rfl ?_
      first | refine so_move rfl rfl rfl ?_ | refine so_skip rfl rfl rfl ?_
      first | refine so_lenS rfl rfl rfl rfl rfl rfl Try.underlying9 ?_ | refine so_skip rfl rfl rfl ?_
      first | refine so_bin rfl rfl rfl rfl (by first | exact bin_leq_t (by omega) | exact bin_leq_f (by omega)) ?_ | refine so_skip rfl rfl rfl ?_
      first | refine so_pick_t rfl rfl rfl rfl ?_ | refine so_pick_f rfl rfl rfl rfl ?_
      refine so_assign rfl rfl rfl ?_
      refine so_then ?_
      refine sx_ret ?_
      refine sk_return1 (.tmp rfl .nil) ?_
      exact fun H hH => ⟨by rw [nameB_len fun j b h1 h2 => hg j b (by omega) h2, decide_eq_false (p := q.data.toList.length ≤ 32) (by omega), Bool.and_false], hH.kept⟩

theorem named_ok {S : AH} (q : ByteArray) (hs : q.data.toList.length ≤ 9223372036854775807) : XCall Try.prog 48 [.string q] S fun v H' => v = .bool (nameB q.data.toList) ∧ Kept S.nx S H' := by
  have ho := hs
  refine x_enter (E := E) (n := 28) (rs := [.tmp 2]) (l := [(0, _)]) (fn_own Try.func48 rfl rfl rfl) (A0 := fun _ => False) (fun j h => h.elim) rfl ?_
  refine sx_seq ?_
  refine sx_region (E := E) ?_
  refine so_assign rfl rfl rfl ?_
  refine so_then ?_
  refine sx_seq ?_
  refine sx_seq ?_
  refine sx_region (E := E) ?_
  refine so_assign rfl rfl rfl ?_
  refine so_then ?_
  refine sx_block ?_
  refine sx_loop (σ := Nat) (fun k => q.data.toList.length - k) (fun k => [(0, .string q), (3, .int .i64 ((k : Nat) : Int))]) (fun _ => S) (fun _ => fun _ => False) (fun _ => []) (fun k => k ≤ q.data.toList.length ∧ (∀ j b, j < k → q.data.toList[j]? = some b → 33 ≤ b.toNat ∧ b.toNat ≤ 126)) (0) (⟨Nat.zero_le _, fun j b h => absurd h (Nat.not_lt_zero _)⟩) (by repeat (first | exact .nil | refine .cons rfl ?_)) rfl rfl (by repeat (first | exact List.nil_sublist _ | apply List.Sublist.cons_cons | apply List.Sublist.cons)) ?_
  intro s hJ t1
  obtain ⟨hJ, hg⟩ := hJ
  refine sx_seq ?_
  refine sx_seq ?_
  rcases Nat.lt_or_ge s q.data.toList.length with hk | hk
  · skip
    obtain ⟨b, hb⟩ : ∃ b, q.data.toList[s]? = some b := ⟨_, List.getElem?_eq_getElem hk⟩
    refine sx_region (E := E) ?_
    refine so_move rfl rfl rfl ?_
    refine so_move rfl rfl rfl ?_
    refine so_lenS rfl rfl rfl rfl rfl rfl Try.underlying9 ?_
    refine so_bin rfl rfl rfl rfl (by first | exact bin_lss_t (by omega) | exact bin_lss_f (by omega)) ?_
    refine so_then ?_
    refine sx_true rfl ?_
    refine sx_skip ?_
    refine sk_then ?_
    refine sx_seq ?_
    refine sx_block ?_
    refine sx_seq ?_
    rcases byte3 b with hc | hc | hc
    · skip
      refine sx_region (E := E) ?_
      refine so_move rfl rfl rfl ?_
      refine so_move rfl rfl rfl ?_
      refine so_strAt rfl rfl rfl rfl Try.underlying9 (by assumption) ?_
      refine so_bin rfl rfl rfl rfl (by first | exact bin_lss_t (by omega) | exact bin_lss_f (by omega)) ?_
      refine so_move rfl rfl rfl ?_
      first | refine so_move rfl rfl rfl ?_ | refine so_skip rfl rfl rfl ?_
      first | refine so_move rfl rfl rfl ?_ | refine so_skip rfl rfl rfl ?_
      first | refine so_strAt rfl rfl rfl rfl Try.underlying9 (by assumption) ?_ | refine so_skip rfl rfl rfl ?_
      first | refine so_bin rfl rfl rfl rfl (by first | exact bin_gtr_t (by omega) | exact bin_gtr_f (by omega)) ?_ | refine so_skip rfl rfl rfl ?_
      first | refine so_pick_t rfl rfl rfl rfl ?_ | refine so_pick_f rfl rfl rfl rfl ?_
      refine so_then ?_
      refine sx_true rfl ?_
      refine sx_seq ?_
      refine sx_region (E := E) ?_
      refine so_assign rfl rfl rfl ?_
      refine so_then ?_
      refine sx_ret ?_
      refine sk_block_ret ?_
      refine sk_then_ret ?_
      refine sk_loop_ret ?_
      refine sk_block_ret ?_
      refine sk_then_ret ?_
      refine sk_return1 (.tmp rfl .nil) ?_
      exact fun H hH => ⟨by rw [nameB_bad hb (.inl hc)], hH.kept⟩
    · skip
      refine sx_region (E := E) ?_
      refine so_move rfl rfl rfl ?_
      refine so_move rfl rfl rfl ?_
      refine so_strAt rfl rfl rfl rfl Try.underlying9 (by assumption) ?_
      refine so_bin rfl rfl rfl rfl (by first | exact bin_lss_t (by omega) | exact bin_lss_f (by omega)) ?_
      refine so_move rfl rfl rfl ?_
      first | refine so_move rfl rfl rfl ?_ | refine so_skip rfl rfl rfl ?_
      first | refine so_move rfl rfl rfl ?_ | refine so_skip rfl rfl rfl ?_
      first | refine so_strAt rfl rfl rfl rfl Try.underlying9 (by assumption) ?_ | refine so_skip rfl rfl rfl ?_
      first | refine so_bin rfl rfl rfl rfl (by first | exact bin_gtr_t (by omega) | exact bin_gtr_f (by omega)) ?_ | refine so_skip rfl rfl rfl ?_
      first | refine so_pick_t rfl rfl rfl rfl ?_ | refine so_pick_f rfl rfl rfl rfl ?_
      refine so_then ?_
      refine sx_false rfl ?_
      refine sx_skip ?_
      refine sk_block ?_
      refine sk_then ?_
      refine sx_region (E := E) ?_
      refine so_move rfl rfl rfl ?_
      refine so_bin rfl rfl rfl rfl (by first | exact bin_incr (by omega) | exact bin_add (wrap64 (by omega) (by omega)) | exact bin_add rfl) ?_
      refine so_assign rfl rfl rfl ?_
      refine so_nil ?_
      refine sk_round (s + 1) (show q.data.toList.length - (s + 1) < q.data.toList.length - s by omega) ⟨by omega, fun j b2 hj hb2 => ?_⟩ (by repeat (first | exact .nil | refine .cons rfl ?_)) rfl rfl (by repeat (first | exact List.nil_sublist _ | apply List.Sublist.cons_cons | apply List.Sublist.cons))
      by_cases e : j = s
      · subst e; rw [hb] at hb2; cases hb2; exact hc
      · exact hg j b2 (by omega) hb2
    · skip
      refine sx_region (E := E) ?_
      refine so_move rfl rfl rfl ?_
      refine so_move rfl rfl rfl ?_
      refine so_strAt rfl rfl rfl rfl Try.underlying9 (by assumption) ?_
      refine so_bin rfl rfl rfl rfl (by first | exact bin_lss_t (by omega) | exact bin_lss_f (by omega)) ?_
      refine so_move rfl rfl rfl ?_
      first | refine so_move rfl rfl rfl ?_ | refine so_skip rfl rfl rfl ?_
      first | refine so_move rfl rfl rfl ?_ | refine so_skip rfl rfl rfl ?_
      first | refine so_strAt rfl rfl rfl rfl Try.underlying9 (by assumption) ?_ | refine so_skip rfl rfl rfl ?_
      first | refine so_bin rfl rfl rfl rfl (by first | exact bin_gtr_t (by omega) | exact bin_gtr_f (by omega)) ?_ | refine so_skip rfl rfl rfl ?_
      first | refine so_pick_t rfl rfl rfl rfl ?_ | refine so_pick_f rfl rfl rfl rfl ?_
      refine so_then ?_
      refine sx_true rfl ?_
      refine sx_seq ?_
      refine sx_region (E := E) ?_
      refine so_assign rfl rfl rfl ?_
      refine so_then ?_
      refine sx_ret ?_
      refine sk_block_ret ?_
      refine sk_then_ret ?_
      refine sk_loop_ret ?_
      refine sk_block_ret ?_
      refine sk_then_ret ?_
      refine sk_return1 (.tmp rfl .nil) ?_
      exact fun H hH => ⟨by rw [nameB_bad hb (.inr hc)], hH.kept⟩
  · skip
    refine sx_region (E := E) ?_
    refine so_move rfl rfl rfl ?_
    refine so_move rfl rfl rfl ?_
    refine so_lenS rfl rfl rfl rfl rfl rfl Try.underlying9 ?_
    refine so_bin rfl rfl rfl rfl (by first | exact bin_lss_t (by omega) | exact bin_lss_f (by omega)) ?_
    refine so_then ?_
    refine sx_false rfl ?_
    refine sx_exit ?_
    refine sk_then_exit ?_
    refine sk_loop_exit ?_
    refine sk_block_exit ?_
    refine sk_then ?_
    refine sx_seq ?_
    rcases len3 q.data.toList.length with hc | hc | hc
    · skip
      refine sx_region (E := E) ?_
      refine so_move rfl rfl rfl ?_
      refine so_lenS rfl rfl rfl rfl rfl rfl Try.underlying9 ?_
      refine so_bin rfl rfl rfl rfl (by first | exact bin_gtr_t (by omega) | exact bin_gtr_f (by omega)) ?_
      refine so_move rfl rfl rfl ?_
      first | refine so_move rfl rfl rfl ?_ | refine so_skip rfl rfl rfl ?_
      first | refine so_lenS rfl rfl rfl rfl rfl rfl Try.underlying9 ?_ | refine so_skip rfl rfl rfl ?_
      first | refine so_bin rfl rfl rfl rfl (by first | exact bin_leq_t (by omega) | exact bin_leq_f (by omega)) ?_ | refine so_skip rfl rfl rfl ?_
      first | refine so_pick_t rfl rfl rfl rfl ?_ | refine so_pick_f rfl rfl rfl rfl ?_
      refine so_assign rfl rfl rfl ?_
      refine so_then ?_
      refine sx_ret ?_
      refine sk_return1 (.tmp rfl .nil) ?_
      exact fun H hH => ⟨by rw [nameB_len fun j b h1 h2 => hg j b (by omega) h2, decide_eq_false (by omega)]; rfl, hH.kept⟩
    · skip
      refine sx_region (E := E) ?_
      refine so_move rfl rfl rfl ?_
      refine so_lenS rfl rfl rfl rfl rfl rfl Try.underlying9 ?_
      refine so_bin rfl rfl rfl rfl (by first | exact bin_gtr_t (by omega) | exact bin_gtr_f (by omega)) ?_
      refine so_move rfl rfl rfl ?_
      first | refine so_move rfl rfl rfl ?_ | refine so_skip rfl rfl rfl ?_
      first | refine so_lenS rfl rfl rfl rfl rfl rfl Try.underlying9 ?_ | refine so_skip rfl rfl rfl ?_
      first | refine so_bin rfl rfl rfl rfl (by first | exact bin_leq_t (by omega) | exact bin_leq_f (by omega)) ?_ | refine so_skip rfl rfl rfl ?_
      first | refine so_pick_t rfl rfl rfl rfl ?_ | refine so_pick_f rfl rfl rfl rfl ?_
      refine so_assign rfl rfl rfl ?_
      refine so_then ?_
      refine sx_ret ?_
      refine sk_return1 (.tmp rfl .nil) ?_
      exact fun H hH => ⟨by rw [nameB_len fun j b h1 h2 => hg j b (by omega) h2, decide_eq_true hc.1, decide_eq_true hc.2]; rfl, hH.kept⟩
    · skip
      refine sx_region (E := E) ?_
      refine so_move rfl rfl rfl ?_
      refine so_lenS rfl rfl rfl rfl rfl rfl Try.underlying9 ?_
      refine so_bin rfl rfl rfl rfl (by first | exact bin_gtr_t (by omega) | exact bin_gtr_f (by omega)) ?_
      refine so_move rfl rfl rfl ?_
      first | refine so_move rfl rfl rfl ?_ | refine so_skip rfl rfl rfl ?_
      first | refine so_lenS rfl rfl rfl rfl rfl rfl Try.underlying9 ?_ | refine so_skip rfl rfl rfl ?_
      first | refine so_bin rfl rfl rfl rfl (by first | exact bin_leq_t (by omega) | exact bin_leq_f (by omega)) ?_ | refine so_skip rfl rfl rfl ?_
      first | refine so_pick_t rfl rfl rfl rfl ?_ | refine so_pick_f rfl rfl rfl rfl ?_
      refine so_assign rfl rfl rfl ?_
      refine so_then ?_
      refine sx_ret ?_
      refine sk_return1 (.tmp rfl .nil) ?_
      exact fun H hH => ⟨by rw [nameB_len fun j b h1 h2 => hg j b (by omega) h2, decide_eq_false (p := q.data.toList.length ≤ 32) (by omega), Bool.and_false], hH.kept⟩

end Go.Proofs.Ytaedeadgbojmnaa
