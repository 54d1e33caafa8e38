/-
  Walks, laid by program.
-/
import Derived.Test.YtaedeadgbojmnaaB6
set_option linter.unusedVariables false
set_option linter.unusedSimpArgs false
set_option maxRecDepth 100000
namespace Go.Proofs.Ytaedeadgbojmnaa
open Go Go.AM

/-- the cell of an edit that a field names; the parameters apart -/
def fieldOff (q : List UInt8) : Option Nat :=
  if q = [97] then some 83 else
  if q = [97, 116] then some 3 else
  if q = [98] then some 82 else
  if q = [100, 120] then some 74 else
  if q = [100, 121] then some 75 else
  if q = [103] then some 81 else
  if q = [104] then some 79 else
  if q = [105, 100] then some 1 else
  if q = [111, 112, 97, 99, 105, 116, 121] then some 15 else
  if q = [112, 97, 114, 101, 110, 116] then some 2 else
  if q = [114] then some 80 else
  if q = [116, 111] then some 5 else
  if q = [118, 97, 108, 117, 101] then some 4 else
  if q = [119] then some 78 else
  if q = [120] then some 76 else
  if q = [121] then some 77 else
  none
theorem bytes_eq {q : ByteArray} {l : List UInt8} (h : q.data.toList = l) : q = ⟨⟨l⟩⟩ := by
  subst h; rfl
theorem field_a {S : AH} {N : Nat} (hlt : N < S.nx) : XCall Try.prog 22 [.pointer (some ⟨2 * N + 1, 0, none⟩), .string ⟨⟨[97]⟩⟩] S fun v H' => v = .pointer (some ⟨2 * N + 1, 83, none⟩) ∧ Kept S.nx S H' := by
  refine x_enter (E := E) (n := 125) (rs := [.tmp 4]) (l := [(1, _), (0, _)]) (fn_own Try.func22 rfl rfl rfl) (A0 := fun j => j = N) (fun j h => by rw [h]; exact hlt) rfl ?_
  refine sx_seq ?_
  refine sx_region (E := E) ?_
  refine so_assign rfl rfl rfl ?_
  refine so_then ?_
  refine sx_seq ?_
  refine sx_seq ?_
  refine sx_region (E := E) ?_
  refine so_move rfl rfl rfl ?_
  refine so_then ?_
  refine sx_block ?_
  refine sx_seq ?_
  refine sx_region (E := E) ?_
  refine so_bin rfl rfl rfl rfl (by first | exact bin_seql_t (by first | rfl | assumption | decide) | exact bin_seql_f (by first | rfl | assumption | decide)) ?_
  refine so_assign rfl rfl rfl ?_
  refine so_then ?_
  refine sx_false rfl ?_
  refine sx_seq ?_
  refine sx_region (E := E) ?_
  refine so_bin rfl rfl rfl rfl (by first | exact bin_seql_t (by first | rfl | assumption | decide) | exact bin_seql_f (by first | rfl | assumption | decide)) ?_
  refine so_assign rfl rfl rfl ?_
  refine so_then ?_
  refine sx_false rfl ?_
  refine sx_seq ?_
  refine sx_region (E := E) ?_
  refine so_bin rfl rfl rfl rfl (by first | exact bin_seql_t (by first | rfl | assumption | decide) | exact bin_seql_f (by first | rfl | assumption | decide)) ?_
  refine so_assign rfl rfl rfl ?_
  refine so_then ?_
  refine sx_false rfl ?_
  refine sx_seq ?_
  refine sx_region (E := E) ?_
  refine so_bin rfl rfl rfl rfl (by first | exact bin_seql_t (by first | rfl | assumption | decide) | exact bin_seql_f (by first | rfl | assumption | decide)) ?_
  refine so_assign rfl rfl rfl ?_
  refine so_then ?_
  refine sx_false rfl ?_
  refine sx_seq ?_
  refine sx_region (E := E) ?_
  refine so_bin rfl rfl rfl rfl (by first | exact bin_seql_t (by first | rfl | assumption | decide) | exact bin_seql_f (by first | rfl | assumption | decide)) ?_
  refine so_assign rfl rfl rfl ?_
  refine so_then ?_
  refine sx_false rfl ?_
  refine sx_seq ?_
  refine sx_region (E := E) ?_
  refine so_bin rfl rfl rfl rfl (by first | exact bin_seql_t (by first | rfl | assumption | decide) | exact bin_seql_f (by first | rfl | assumption | decide)) ?_
  refine so_assign rfl rfl rfl ?_
  refine so_then ?_
  refine sx_false rfl ?_
  refine sx_seq ?_
  refine sx_region (E := E) ?_
  refine so_bin rfl rfl rfl rfl (by first | exact bin_seql_t (by first | rfl | assumption | decide) | exact bin_seql_f (by first | rfl | assumption | decide)) ?_
  refine so_assign rfl rfl rfl ?_
  refine so_then ?_
  refine sx_false rfl ?_
  refine sx_seq ?_
  refine sx_region (E := E) ?_
  refine so_bin rfl rfl rfl rfl (by first | exact bin_seql_t (by first | rfl | assumption | decide) | exact bin_seql_f (by first | rfl | assumption | decide)) ?_
  refine so_assign rfl rfl rfl ?_
  refine so_then ?_
  refine sx_false rfl ?_
  refine sx_seq ?_
  refine sx_region (E := E) ?_
  refine so_bin rfl rfl rfl rfl (by first | exact bin_seql_t (by first | rfl | assumption | decide) | exact bin_seql_f (by first | rfl | assumption | decide)) ?_
  refine so_assign rfl rfl rfl ?_
  refine so_then ?_
  refine sx_false rfl ?_
  refine sx_seq ?_
  refine sx_region (E := E) ?_
  refine so_bin rfl rfl rfl rfl (by first | exact bin_seql_t (by first | rfl | assumption | decide) | exact bin_seql_f (by first | rfl | assumption | decide)) ?_
  refine so_assign rfl rfl rfl ?_
  refine so_then ?_
  refine sx_false rfl ?_
  refine sx_seq ?_
  refine sx_region (E := E) ?_
  refine so_bin rfl rfl rfl rfl (by first | exact bin_seql_t (by first | rfl | assumption | decide) | exact bin_seql_f (by first | rfl | assumption | decide)) ?_
  refine so_assign rfl rfl rfl ?_
  refine so_then ?_
  refine sx_false rfl ?_
  refine sx_seq ?_
  refine sx_region (E := E) ?_
  refine so_bin rfl rfl rfl rfl (by first | exact bin_seql_t (by first | rfl | assumption | decide) | exact bin_seql_f (by first | rfl | assumption | decide)) ?_
  refine so_assign rfl rfl rfl ?_
  refine so_then ?_
  refine sx_false rfl ?_
  refine sx_seq ?_
  refine sx_region (E := E) ?_
  refine so_bin rfl rfl rfl rfl (by first | exact bin_seql_t (by first | rfl | assumption | decide) | exact bin_seql_f (by first | rfl | assumption | decide)) ?_
  refine so_assign rfl rfl rfl ?_
  refine so_then ?_
  refine sx_false rfl ?_
  refine sx_seq ?_
  refine sx_region (E := E) ?_
  refine so_bin rfl rfl rfl rfl (by first | exact bin_seql_t (by first | rfl | assumption | decide) | exact bin_seql_f (by first | rfl | assumption | decide)) ?_
  refine so_assign rfl rfl rfl ?_
  refine so_then ?_
  refine sx_false rfl ?_
  refine sx_seq ?_
  refine sx_region (E := E) ?_
  refine so_bin rfl rfl rfl rfl (by first | exact bin_seql_t (by first | rfl | assumption | decide) | exact bin_seql_f (by first | rfl | assumption | decide)) ?_
  refine so_assign rfl rfl rfl ?_
  refine so_then ?_
  refine sx_true rfl ?_
  refine sx_seq ?_
  refine sx_region (E := E) ?_
  refine so_move rfl rfl rfl ?_
  first | refine so_nilCheck rfl rfl rfl ?_ | refine so_nilCheckF rfl rfl rfl ?_
  refine so_fieldO (o' := 80) rfl rfl rfl Try.underlying48 rfl inf31 rfl rfl ?_
  refine so_fieldO (o' := 83) rfl rfl rfl Try.underlying31 rfl inf3 rfl rfl ?_
  refine so_assign rfl rfl rfl ?_
  refine so_then ?_
  refine sx_ret ?_
  refine sk_block_ret ?_
  refine sk_then_ret ?_
  refine sk_return1 (.tmp rfl .nil) ?_
  exact fun H hH => ⟨rfl, hH.kept⟩

theorem field_at {S : AH} {N : Nat} (hlt : N < S.nx) : XCall Try.prog 22 [.pointer (some ⟨2 * N + 1, 0, none⟩), .string ⟨⟨[97, 116]⟩⟩] S fun v H' => v = .pointer (some ⟨2 * N + 1, 3, none⟩) ∧ Kept S.nx S H' := by
  refine x_enter (E := E) (n := 125) (rs := [.tmp 4]) (l := [(1, _), (0, _)]) (fn_own Try.func22 rfl rfl rfl) (A0 := fun j => j = N) (fun j h => by rw [h]; exact hlt) rfl ?_
  refine sx_seq ?_
  refine sx_region (E := E) ?_
  refine so_assign rfl rfl rfl ?_
  refine so_then ?_
  refine sx_seq ?_
  refine sx_seq ?_
  refine sx_region (E := E) ?_
  refine so_move rfl rfl rfl ?_
  refine so_then ?_
  refine sx_block ?_
  refine sx_seq ?_
  refine sx_region (E := E) ?_
  refine so_bin rfl rfl rfl rfl (by first | exact bin_seql_t (by first | rfl | assumption | decide) | exact bin_seql_f (by first | rfl | assumption | decide)) ?_
  refine so_assign rfl rfl rfl ?_
  refine so_then ?_
  refine sx_true rfl ?_
  refine sx_seq ?_
  refine sx_region (E := E) ?_
  refine so_move rfl rfl rfl ?_
  first | refine so_nilCheck rfl rfl rfl ?_ | refine so_nilCheckF rfl rfl rfl ?_
  refine so_fieldO (o' := 3) rfl rfl rfl Try.underlying48 rfl inf3 rfl rfl ?_
  refine so_assign rfl rfl rfl ?_
  refine so_then ?_
  refine sx_ret ?_
  refine sk_block_ret ?_
  refine sk_then_ret ?_
  refine sk_return1 (.tmp rfl .nil) ?_
  exact fun H hH => ⟨rfl, hH.kept⟩

theorem field_b {S : AH} {N : Nat} (hlt : N < S.nx) : XCall Try.prog 22 [.pointer (some ⟨2 * N + 1, 0, none⟩), .string ⟨⟨[98]⟩⟩] S fun v H' => v = .pointer (some ⟨2 * N + 1, 82, none⟩) ∧ Kept S.nx S H' := by
  refine x_enter (E := E) (n := 125) (rs := [.tmp 4]) (l := [(1, _), (0, _)]) (fn_own Try.func22 rfl rfl rfl) (A0 := fun j => j = N) (fun j h => by rw [h]; exact hlt) rfl ?_
  refine sx_seq ?_
  refine sx_region (E := E) ?_
  refine so_assign rfl rfl rfl ?_
  refine so_then ?_
  refine sx_seq ?_
  refine sx_seq ?_
  refine sx_region (E := E) ?_
  refine so_move rfl rfl rfl ?_
  refine so_then ?_
  refine sx_block ?_
  refine sx_seq ?_
  refine sx_region (E := E) ?_
  refine so_bin rfl rfl rfl rfl (by first | exact bin_seql_t (by first | rfl | assumption | decide) | exact bin_seql_f (by first | rfl | assumption | decide)) ?_
  refine so_assign rfl rfl rfl ?_
  refine so_then ?_
  refine sx_false rfl ?_
  refine sx_seq ?_
  refine sx_region (E := E) ?_
  refine so_bin rfl rfl rfl rfl (by first | exact bin_seql_t (by first | rfl | assumption | decide) | exact bin_seql_f (by first | rfl | assumption | decide)) ?_
  refine so_assign rfl rfl rfl ?_
  refine so_then ?_
  refine sx_false rfl ?_
  refine sx_seq ?_
  refine sx_region (E := E) ?_
  refine so_bin rfl rfl rfl rfl (by first | exact bin_seql_t (by first | rfl | assumption | decide) | exact bin_seql_f (by first | rfl | assumption | decide)) ?_
  refine so_assign rfl rfl rfl ?_
  refine so_then ?_
  refine sx_false rfl ?_
  refine sx_seq ?_
  refine sx_region (E := E) ?_
  refine so_bin rfl rfl rfl rfl (by first | exact bin_seql_t (by first | rfl | assumption | decide) | exact bin_seql_f (by first | rfl | assumption | decide)) ?_
  refine so_assign rfl rfl rfl ?_
  refine so_then ?_
  refine sx_false rfl ?_
  refine sx_seq ?_
  refine sx_region (E := E) ?_
  refine so_bin rfl rfl rfl rfl (by first | exact bin_seql_t (by first | rfl | assumption | decide) | exact bin_seql_f (by first | rfl | assumption | decide)) ?_
  refine so_assign rfl rfl rfl ?_
  refine so_then ?_
  refine sx_false rfl ?_
  refine sx_seq ?_
  refine sx_region (E := E) ?_
  refine so_bin rfl rfl rfl rfl (by first | exact bin_seql_t (by first | rfl | assumption | decide) | exact bin_seql_f (by first | rfl | assumption | decide)) ?_
  refine so_assign rfl rfl rfl ?_
  refine so_then ?_
  refine sx_false rfl ?_
  refine sx_seq ?_
  refine sx_region (E := E) ?_
  refine so_bin rfl rfl rfl rfl (by first | exact bin_seql_t (by first | rfl | assumption | decide) | exact bin_seql_f (by first | rfl | assumption | decide)) ?_
  refine so_assign rfl rfl rfl ?_
  refine so_then ?_
  refine sx_false rfl ?_
  refine sx_seq ?_
  refine sx_region (E := E) ?_
  refine so_bin rfl rfl rfl rfl (by first | exact bin_seql_t (by first | rfl | assumption | decide) | exact bin_seql_f (by first | rfl | assumption | decide)) ?_
  refine so_assign rfl rfl rfl ?_
  refine so_then ?_
  refine sx_false rfl ?_
  refine sx_seq ?_
  refine sx_region (E := E) ?_
  refine so_bin rfl rfl rfl rfl (by first | exact bin_seql_t (by first | rfl | assumption | decide) | exact bin_seql_f (by first | rfl | assumption | decide)) ?_
  refine so_assign rfl rfl rfl ?_
  refine so_then ?_
  refine sx_false rfl ?_
  refine sx_seq ?_
  refine sx_region (E := E) ?_
  refine so_bin rfl rfl rfl rfl (by first | exact bin_seql_t (by first | rfl | assumption | decide) | exact bin_seql_f (by first | rfl | assumption | decide)) ?_
  refine so_assign rfl rfl rfl ?_
  refine so_then ?_
  refine sx_false rfl ?_
  refine sx_seq ?_
  refine sx_region (E := E) ?_
  refine so_bin rfl rfl rfl rfl (by first | exact bin_seql_t (by first | rfl | assumption | decide) | exact bin_seql_f (by first | rfl | assumption | decide)) ?_
  refine so_assign rfl rfl rfl ?_
  refine so_then ?_
  refine sx_false rfl ?_
  refine sx_seq ?_
  refine sx_region (E := E) ?_
  refine so_bin rfl rfl rfl rfl (by first | exact bin_seql_t (by first | rfl | assumption | decide) | exact bin_seql_f (by first | rfl | assumption | decide)) ?_
  refine so_assign rfl rfl rfl ?_
  refine so_then ?_
  refine sx_false rfl ?_
  refine sx_seq ?_
  refine sx_region (E := E) ?_
  refine so_bin rfl rfl rfl rfl (by first | exact bin_seql_t (by first | rfl | assumption | decide) | exact bin_seql_f (by first | rfl | assumption | decide)) ?_
  refine so_assign rfl rfl rfl ?_
  refine so_then ?_
  refine sx_false rfl ?_
  refine sx_seq ?_
  refine sx_region (E := E) ?_
  refine so_bin rfl rfl rfl rfl (by first | exact bin_seql_t (by first | rfl | assumption | decide) | exact bin_seql_f (by first | rfl | assumption | decide)) ?_
  refine so_assign rfl rfl rfl ?_
  refine so_then ?_
  refine sx_true rfl ?_
  refine sx_seq ?_
  refine sx_region (E := E) ?_
  refine so_move rfl rfl rfl ?_
  first | refine so_nilCheck rfl rfl rfl ?_ | refine so_nilCheckF rfl rfl rfl ?_
  refine so_fieldO (o' := 80) rfl rfl rfl Try.underlying48 rfl inf31 rfl rfl ?_
  refine so_fieldO (o' := 82) rfl rfl rfl Try.underlying31 rfl inf3 rfl rfl ?_
  refine so_assign rfl rfl rfl ?_
  refine so_then ?_
  refine sx_ret ?_
  refine sk_block_ret ?_
  refine sk_then_ret ?_
  refine sk_return1 (.tmp rfl .nil) ?_
  exact fun H hH => ⟨rfl, hH.kept⟩

theorem field_dx {S : AH} {N : Nat} (hlt : N < S.nx) : XCall Try.prog 22 [.pointer (some ⟨2 * N + 1, 0, none⟩), .string ⟨⟨[100, 120]⟩⟩] S fun v H' => v = .pointer (some ⟨2 * N + 1, 74, none⟩) ∧ Kept S.nx S H' := by
  refine x_enter (E := E) (n := 125) (rs := [.tmp 4]) (l := [(1, _), (0, _)]) (fn_own Try.func22 rfl rfl rfl) (A0 := fun j => j = N) (fun j h => by rw [h]; exact hlt) rfl ?_
  refine sx_seq ?_
  refine sx_region (E := E) ?_
  refine so_assign rfl rfl rfl ?_
  refine so_then ?_
  refine sx_seq ?_
  refine sx_seq ?_
  refine sx_region (E := E) ?_
  refine so_move rfl rfl rfl ?_
  refine so_then ?_
  refine sx_block ?_
  refine sx_seq ?_
  refine sx_region (E := E) ?_
  refine so_bin rfl rfl rfl rfl (by first | exact bin_seql_t (by first | rfl | assumption | decide) | exact bin_seql_f (by first | rfl | assumption | decide)) ?_
  refine so_assign rfl rfl rfl ?_
  refine so_then ?_
  refine sx_false rfl ?_
  refine sx_seq ?_
  refine sx_region (E := E) ?_
  refine so_bin rfl rfl rfl rfl (by first | exact bin_seql_t (by first | rfl | assumption | decide) | exact bin_seql_f (by first | rfl | assumption | decide)) ?_
  refine so_assign rfl rfl rfl ?_
  refine so_then ?_
  refine sx_false rfl ?_
  refine sx_seq ?_
  refine sx_region (E := E) ?_
  refine so_bin rfl rfl rfl rfl (by first | exact bin_seql_t (by first | rfl | assumption | decide) | exact bin_seql_f (by first | rfl | assumption | decide)) ?_
  refine so_assign rfl rfl rfl ?_
  refine so_then ?_
  refine sx_false rfl ?_
  refine sx_seq ?_
  refine sx_region (E := E) ?_
  refine so_bin rfl rfl rfl rfl (by first | exact bin_seql_t (by first | rfl | assumption | decide) | exact bin_seql_f (by first | rfl | assumption | decide)) ?_
  refine so_assign rfl rfl rfl ?_
  refine so_then ?_
  refine sx_false rfl ?_
  refine sx_seq ?_
  refine sx_region (E := E) ?_
  refine so_bin rfl rfl rfl rfl (by first | exact bin_seql_t (by first | rfl | assumption | decide) | exact bin_seql_f (by first | rfl | assumption | decide)) ?_
  refine so_assign rfl rfl rfl ?_
  refine so_then ?_
  refine sx_false rfl ?_
  refine sx_seq ?_
  refine sx_region (E := E) ?_
  refine so_bin rfl rfl rfl rfl (by first | exact bin_seql_t (by first | rfl | assumption | decide) | exact bin_seql_f (by first | rfl | assumption | decide)) ?_
  refine so_assign rfl rfl rfl ?_
  refine so_then ?_
  refine sx_false rfl ?_
  refine sx_seq ?_
  refine sx_region (E := E) ?_
  refine so_bin rfl rfl rfl rfl (by first | exact bin_seql_t (by first | rfl | assumption | decide) | exact bin_seql_f (by first | rfl | assumption | decide)) ?_
  refine so_assign rfl rfl rfl ?_
  refine so_then ?_
  refine sx_false rfl ?_
  refine sx_seq ?_
  refine sx_region (E := E) ?_
  refine so_bin rfl rfl rfl rfl (by first | exact bin_seql_t (by first | rfl | assumption | decide) | exact bin_seql_f (by first | rfl | assumption | decide)) ?_
  refine so_assign rfl rfl rfl ?_
  refine so_then ?_
  refine sx_false rfl ?_
  refine sx_seq ?_
  refine sx_region (E := E) ?_
  refine so_bin rfl rfl rfl rfl (by first | exact bin_seql_t (by first | rfl | assumption | decide) | exact bin_seql_f (by first | rfl | assumption | decide)) ?_
  refine so_assign rfl rfl rfl ?_
  refine so_then ?_
  refine sx_false rfl ?_
  refine sx_seq ?_
  refine sx_region (E := E) ?_
  refine so_bin rfl rfl rfl rfl (by first | exact bin_seql_t (by first | rfl | assumption | decide) | exact bin_seql_f (by first | rfl | assumption | decide)) ?_
  refine so_assign rfl rfl rfl ?_
  refine so_then ?_
  refine sx_true rfl ?_
  refine sx_seq ?_
  refine sx_region (E := E) ?_
  refine so_move rfl rfl rfl ?_
  first | refine so_nilCheck rfl rfl rfl ?_ | refine so_nilCheckF rfl rfl rfl ?_
  refine so_fieldO (o' := 74) rfl rfl rfl Try.underlying48 rfl inf44 rfl rfl ?_
  refine so_fieldO (o' := 74) rfl rfl rfl Try.underlying44 rfl inf3 rfl rfl ?_
  refine so_assign rfl rfl rfl ?_
  refine so_then ?_
  refine sx_ret ?_
  refine sk_block_ret ?_
  refine sk_then_ret ?_
  refine sk_return1 (.tmp rfl .nil) ?_
  exact fun H hH => ⟨rfl, hH.kept⟩

theorem field_dy {S : AH} {N : Nat} (hlt : N < S.nx) : XCall Try.prog 22 [.pointer (some ⟨2 * N + 1, 0, none⟩), .string ⟨⟨[100, 121]⟩⟩] S fun v H' => v = .pointer (some ⟨2 * N + 1, 75, none⟩) ∧ Kept S.nx S H' := by
  refine x_enter (E := E) (n := 125) (rs := [.tmp 4]) (l := [(1, _), (0, _)]) (fn_own Try.func22 rfl rfl rfl) (A0 := fun j => j = N) (fun j h => by rw [h]; exact hlt) rfl ?_
  refine sx_seq ?_
  refine sx_region (E := E) ?_
  refine so_assign rfl rfl rfl ?_
  refine so_then ?_
  refine sx_seq ?_
  refine sx_seq ?_
  refine sx_region (E := E) ?_
  refine so_move rfl rfl rfl ?_
  refine so_then ?_
  refine sx_block ?_
  refine sx_seq ?_
  refine sx_region (E := E) ?_
  refine so_bin rfl rfl rfl rfl (by first | exact bin_seql_t (by first | rfl | assumption | decide) | exact bin_seql_f (by first | rfl | assumption | decide)) ?_
  refine so_assign rfl rfl rfl ?_
  refine so_then ?_
  refine sx_false rfl ?_
  refine sx_seq ?_
  refine sx_region (E := E) ?_
  refine so_bin rfl rfl rfl rfl (by first | exact bin_seql_t (by first | rfl | assumption | decide) | exact bin_seql_f (by first | rfl | assumption | decide)) ?_
  refine so_assign rfl rfl rfl ?_
  refine so_then ?_
  refine sx_false rfl ?_
  refine sx_seq ?_
  refine sx_region (E := E) ?_
  refine so_bin rfl rfl rfl rfl (by first | exact bin_seql_t (by first | rfl | assumption | decide) | exact bin_seql_f (by first | rfl | assumption | decide)) ?_
  refine so_assign rfl rfl rfl ?_
  refine so_then ?_
  refine sx_false rfl ?_
  refine sx_seq ?_
  refine sx_region (E := E) ?_
  refine so_bin rfl rfl rfl rfl (by first | exact bin_seql_t (by first | rfl | assumption | decide) | exact bin_seql_f (by first | rfl | assumption | decide)) ?_
  refine so_assign rfl rfl rfl ?_
  refine so_then ?_
  refine sx_false rfl ?_
  refine sx_seq ?_
  refine sx_region (E := E) ?_
  refine so_bin rfl rfl rfl rfl (by first | exact bin_seql_t (by first | rfl | assumption | decide) | exact bin_seql_f (by first | rfl | assumption | decide)) ?_
  refine so_assign rfl rfl rfl ?_
  refine so_then ?_
  refine sx_false rfl ?_
  refine sx_seq ?_
  refine sx_region (E := E) ?_
  refine so_bin rfl rfl rfl rfl (by first | exact bin_seql_t (by first | rfl | assumption | decide) | exact bin_seql_f (by first | rfl | assumption | decide)) ?_
  refine so_assign rfl rfl rfl ?_
  refine so_then ?_
  refine sx_false rfl ?_
  refine sx_seq ?_
  refine sx_region (E := E) ?_
  refine so_bin rfl rfl rfl rfl (by first | exact bin_seql_t (by first | rfl | assumption | decide) | exact bin_seql_f (by first | rfl | assumption | decide)) ?_
  refine so_assign rfl rfl rfl ?_
  refine so_then ?_
  refine sx_false rfl ?_
  refine sx_seq ?_
  refine sx_region (E := E) ?_
  refine so_bin rfl rfl rfl rfl (by first | exact bin_seql_t (by first | rfl | assumption | decide) | exact bin_seql_f (by first | rfl | assumption | decide)) ?_
  refine so_assign rfl rfl rfl ?_
  refine so_then ?_
  refine sx_false rfl ?_
  refine sx_seq ?_
  refine sx_region (E := E) ?_
  refine so_bin rfl rfl rfl rfl (by first | exact bin_seql_t (by first | rfl | assumption | decide) | exact bin_seql_f (by first | rfl | assumption | decide)) ?_
  refine so_assign rfl rfl rfl ?_
  refine so_then ?_
  refine sx_false rfl ?_
  refine sx_seq ?_
  refine sx_region (E := E) ?_
  refine so_bin rfl rfl rfl rfl (by first | exact bin_seql_t (by first | rfl | assumption | decide) | exact bin_seql_f (by first | rfl | assumption | decide)) ?_
  refine so_assign rfl rfl rfl ?_
  refine so_then ?_
  refine sx_false rfl ?_
  refine sx_seq ?_
  refine sx_region (E := E) ?_
  refine so_bin rfl rfl rfl rfl (by first | exact bin_seql_t (by first | rfl | assumption | decide) | exact bin_seql_f (by first | rfl | assumption | decide)) ?_
  refine so_assign rfl rfl rfl ?_
  refine so_then ?_
  refine sx_true rfl ?_
  refine sx_seq ?_
  refine sx_region (E := E) ?_
  refine so_move rfl rfl rfl ?_
  first | refine so_nilCheck rfl rfl rfl ?_ | refine so_nilCheckF rfl rfl rfl ?_
  refine so_fieldO (o' := 74) rfl rfl rfl Try.underlying48 rfl inf44 rfl rfl ?_
  refine so_fieldO (o' := 75) rfl rfl rfl Try.underlying44 rfl inf3 rfl rfl ?_
  refine so_assign rfl rfl rfl ?_
  refine so_then ?_
  refine sx_ret ?_
  refine sk_block_ret ?_
  refine sk_then_ret ?_
  refine sk_return1 (.tmp rfl .nil) ?_
  exact fun H hH => ⟨rfl, hH.kept⟩

theorem field_g {S : AH} {N : Nat} (hlt : N < S.nx) : XCall Try.prog 22 [.pointer (some ⟨2 * N + 1, 0, none⟩), .string ⟨⟨[103]⟩⟩] S fun v H' => v = .pointer (some ⟨2 * N + 1, 81, none⟩) ∧ Kept S.nx S H' := by
  refine x_enter (E := E) (n := 125) (rs := [.tmp 4]) (l := [(1, _), (0, _)]) (fn_own Try.func22 rfl rfl rfl) (A0 := fun j => j = N) (fun j h => by rw [h]; exact hlt) rfl ?_
  refine sx_seq ?_
  refine sx_region (E := E) ?_
  refine so_assign rfl rfl rfl ?_
  refine so_then ?_
  refine sx_seq ?_
  refine sx_seq ?_
  refine sx_region (E := E) ?_
  refine so_move rfl rfl rfl ?_
  refine so_then ?_
  refine sx_block ?_
  refine sx_seq ?_
  refine sx_region (E := E) ?_
  refine so_bin rfl rfl rfl rfl (by first | exact bin_seql_t (by first | rfl | assumption | decide) | exact bin_seql_f (by first | rfl | assumption | decide)) ?_
  refine so_assign rfl rfl rfl ?_
  refine so_then ?_
  refine sx_false rfl ?_
  refine sx_seq ?_
  refine sx_region (E := E) ?_
  refine so_bin rfl rfl rfl rfl (by first | exact bin_seql_t (by first | rfl | assumption | decide) | exact bin_seql_f (by first | rfl | assumption | decide)) ?_
  refine so_assign rfl rfl rfl ?_
  refine so_then ?_
  refine sx_false rfl ?_
  refine sx_seq ?_
  refine sx_region (E := E) ?_
  refine so_bin rfl rfl rfl rfl (by first | exact bin_seql_t (by first | rfl | assumption | decide) | exact bin_seql_f (by first | rfl | assumption | decide)) ?_
  refine so_assign rfl rfl rfl ?_
  refine so_then ?_
  refine sx_false rfl ?_
  refine sx_seq ?_
  refine sx_region (E := E) ?_
  refine so_bin rfl rfl rfl rfl (by first | exact bin_seql_t (by first | rfl | assumption | decide) | exact bin_seql_f (by first | rfl | assumption | decide)) ?_
  refine so_assign rfl rfl rfl ?_
  refine so_then ?_
  refine sx_false rfl ?_
  refine sx_seq ?_
  refine sx_region (E := E) ?_
  refine so_bin rfl rfl rfl rfl (by first | exact bin_seql_t (by first | rfl | assumption | decide) | exact bin_seql_f (by first | rfl | assumption | decide)) ?_
  refine so_assign rfl rfl rfl ?_
  refine so_then ?_
  refine sx_false rfl ?_
  refine sx_seq ?_
  refine sx_region (E := E) ?_
  refine so_bin rfl rfl rfl rfl (by first | exact bin_seql_t (by first | rfl | assumption | decide) | exact bin_seql_f (by first | rfl | assumption | decide)) ?_
  refine so_assign rfl rfl rfl ?_
  refine so_then ?_
  refine sx_false rfl ?_
  refine sx_seq ?_
  refine sx_region (E := E) ?_
  refine so_bin rfl rfl rfl rfl (by first | exact bin_seql_t (by first | rfl | assumption | decide) | exact bin_seql_f (by first | rfl | assumption | decide)) ?_
  refine so_assign rfl rfl rfl ?_
  refine so_then ?_
  refine sx_false rfl ?_
  refine sx_seq ?_
  refine sx_region (E := E) ?_
  refine so_bin rfl rfl rfl rfl (by first | exact bin_seql_t (by first | rfl | assumption | decide) | exact bin_seql_f (by first | rfl | assumption | decide)) ?_
  refine so_assign rfl rfl rfl ?_
  refine so_then ?_
  refine sx_false rfl ?_
  refine sx_seq ?_
  refine sx_region (E := E) ?_
  refine so_bin rfl rfl rfl rfl (by first | exact bin_seql_t (by first | rfl | assumption | decide) | exact bin_seql_f (by first | rfl | assumption | decide)) ?_
  refine so_assign rfl rfl rfl ?_
  refine so_then ?_
  refine sx_false rfl ?_
  refine sx_seq ?_
  refine sx_region (E := E) ?_
  refine so_bin rfl rfl rfl rfl (by first | exact bin_seql_t (by first | rfl | assumption | decide) | exact bin_seql_f (by first | rfl | assumption | decide)) ?_
  refine so_assign rfl rfl rfl ?_
  refine so_then ?_
  refine sx_false rfl ?_
  refine sx_seq ?_
  refine sx_region (E := E) ?_
  refine so_bin rfl rfl rfl rfl (by first | exact bin_seql_t (by first | rfl | assumption | decide) | exact bin_seql_f (by first | rfl | assumption | decide)) ?_
  refine so_assign rfl rfl rfl ?_
  refine so_then ?_
  refine sx_false rfl ?_
  refine sx_seq ?_
  refine sx_region (E := E) ?_
  refine so_bin rfl rfl rfl rfl (by first | exact bin_seql_t (by first | rfl | assumption | decide) | exact bin_seql_f (by first | rfl | assumption | decide)) ?_
  refine so_assign rfl rfl rfl ?_
  refine so_then ?_
  refine sx_false rfl ?_
  refine sx_seq ?_
  refine sx_region (E := E) ?_
  refine so_bin rfl rfl rfl rfl (by first | exact bin_seql_t (by first | rfl | assumption | decide) | exact bin_seql_f (by first | rfl | assumption | decide)) ?_
  refine so_assign rfl rfl rfl ?_
  refine so_then ?_
  refine sx_true rfl ?_
  refine sx_seq ?_
  refine sx_region (E := E) ?_
  refine so_move rfl rfl rfl ?_
  first | refine so_nilCheck rfl rfl rfl ?_ | refine so_nilCheckF rfl rfl rfl ?_
  refine so_fieldO (o' := 80) rfl rfl rfl Try.underlying48 rfl inf31 rfl rfl ?_
  refine so_fieldO (o' := 81) rfl rfl rfl Try.underlying31 rfl inf3 rfl rfl ?_
  refine so_assign rfl rfl rfl ?_
  refine so_then ?_
  refine sx_ret ?_
  refine sk_block_ret ?_
  refine sk_then_ret ?_
  refine sk_return1 (.tmp rfl .nil) ?_
  exact fun H hH => ⟨rfl, hH.kept⟩

theorem field_h {S : AH} {N : Nat} (hlt : N < S.nx) : XCall Try.prog 22 [.pointer (some ⟨2 * N + 1, 0, none⟩), .string ⟨⟨[104]⟩⟩] S fun v H' => v = .pointer (some ⟨2 * N + 1, 79, none⟩) ∧ Kept S.nx S H' := by
  refine x_enter (E := E) (n := 125) (rs := [.tmp 4]) (l := [(1, _), (0, _)]) (fn_own Try.func22 rfl rfl rfl) (A0 := fun j => j = N) (fun j h => by rw [h]; exact hlt) rfl ?_
  refine sx_seq ?_
  refine sx_region (E := E) ?_
  refine so_assign rfl rfl rfl ?_
  refine so_then ?_
  refine sx_seq ?_
  refine sx_seq ?_
  refine sx_region (E := E) ?_
  refine so_move rfl rfl rfl ?_
  refine so_then ?_
  refine sx_block ?_
  refine sx_seq ?_
  refine sx_region (E := E) ?_
  refine so_bin rfl rfl rfl rfl (by first | exact bin_seql_t (by first | rfl | assumption | decide) | exact bin_seql_f (by first | rfl | assumption | decide)) ?_
  refine so_assign rfl rfl rfl ?_
  refine so_then ?_
  refine sx_false rfl ?_
  refine sx_seq ?_
  refine sx_region (E := E) ?_
  refine so_bin rfl rfl rfl rfl (by first | exact bin_seql_t (by first | rfl | assumption | decide) | exact bin_seql_f (by first | rfl | assumption | decide)) ?_
  refine so_assign rfl rfl rfl ?_
  refine so_then ?_
  refine sx_false rfl ?_
  refine sx_seq ?_
  refine sx_region (E := E) ?_
  refine so_bin rfl rfl rfl rfl (by first | exact bin_seql_t (by first | rfl | assumption | decide) | exact bin_seql_f (by first | rfl | assumption | decide)) ?_
  refine so_assign rfl rfl rfl ?_
  refine so_then ?_
  refine sx_false rfl ?_
  refine sx_seq ?_
  refine sx_region (E := E) ?_
  refine so_bin rfl rfl rfl rfl (by first | exact bin_seql_t (by first | rfl | assumption | decide) | exact bin_seql_f (by first | rfl | assumption | decide)) ?_
  refine so_assign rfl rfl rfl ?_
  refine so_then ?_
  refine sx_false rfl ?_
  refine sx_seq ?_
  refine sx_region (E := E) ?_
  refine so_bin rfl rfl rfl rfl (by first | exact bin_seql_t (by first | rfl | assumption | decide) | exact bin_seql_f (by first | rfl | assumption | decide)) ?_
  refine so_assign rfl rfl rfl ?_
  refine so_then ?_
  refine sx_false rfl ?_
  refine sx_seq ?_
  refine sx_region (E := E) ?_
  refine so_bin rfl rfl rfl rfl (by first | exact bin_seql_t (by first | rfl | assumption | decide) | exact bin_seql_f (by first | rfl | assumption | decide)) ?_
  refine so_assign rfl rfl rfl ?_
  refine so_then ?_
  refine sx_false rfl ?_
  refine sx_seq ?_
  refine sx_region (E := E) ?_
  refine so_bin rfl rfl rfl rfl (by first | exact bin_seql_t (by first | rfl | assumption | decide) | exact bin_seql_f (by first | rfl | assumption | decide)) ?_
  refine so_assign rfl rfl rfl ?_
  refine so_then ?_
  refine sx_false rfl ?_
  refine sx_seq ?_
  refine sx_region (E := E) ?_
  refine so_bin rfl rfl rfl rfl (by first | exact bin_seql_t (by first | rfl | assumption | decide) | exact bin_seql_f (by first | rfl | assumption | decide)) ?_
  refine so_assign rfl rfl rfl ?_
  refine so_then ?_
  refine sx_false rfl ?_
  refine sx_seq ?_
  refine sx_region (E := E) ?_
  refine so_bin rfl rfl rfl rfl (by first | exact bin_seql_t (by first | rfl | assumption | decide) | exact bin_seql_f (by first | rfl | assumption | decide)) ?_
  refine so_assign rfl rfl rfl ?_
  refine so_then ?_
  refine sx_true rfl ?_
  refine sx_seq ?_
  refine sx_region (E := E) ?_
  refine so_move rfl rfl rfl ?_
  first | refine so_nilCheck rfl rfl rfl ?_ | refine so_nilCheckF rfl rfl rfl ?_
  refine so_fieldO (o' := 76) rfl rfl rfl Try.underlying48 rfl inf46 rfl rfl ?_
  refine so_fieldO (o' := 79) rfl rfl rfl Try.underlying46 rfl inf3 rfl rfl ?_
  refine so_assign rfl rfl rfl ?_
  refine so_then ?_
  refine sx_ret ?_
  refine sk_block_ret ?_
  refine sk_then_ret ?_
  refine sk_return1 (.tmp rfl .nil) ?_
  exact fun H hH => ⟨rfl, hH.kept⟩

theorem field_id {S : AH} {N : Nat} (hlt : N < S.nx) : XCall Try.prog 22 [.pointer (some ⟨2 * N + 1, 0, none⟩), .string ⟨⟨[105, 100]⟩⟩] S fun v H' => v = .pointer (some ⟨2 * N + 1, 1, none⟩) ∧ Kept S.nx S H' := by
  refine x_enter (E := E) (n := 125) (rs := [.tmp 4]) (l := [(1, _), (0, _)]) (fn_own Try.func22 rfl rfl rfl) (A0 := fun j => j = N) (fun j h => by rw [h]; exact hlt) rfl ?_
  refine sx_seq ?_
  refine sx_region (E := E) ?_
  refine so_assign rfl rfl rfl ?_
  refine so_then ?_
  refine sx_seq ?_
  refine sx_seq ?_
  refine sx_region (E := E) ?_
  refine so_move rfl rfl rfl ?_
  refine so_then ?_
  refine sx_block ?_
  refine sx_seq ?_
  refine sx_region (E := E) ?_
  refine so_bin rfl rfl rfl rfl (by first | exact bin_seql_t (by first | rfl | assumption | decide) | exact bin_seql_f (by first | rfl | assumption | decide)) ?_
  refine so_assign rfl rfl rfl ?_
  refine so_then ?_
  refine sx_false rfl ?_
  refine sx_seq ?_
  refine sx_region (E := E) ?_
  refine so_bin rfl rfl rfl rfl (by first | exact bin_seql_t (by first | rfl | assumption | decide) | exact bin_seql_f (by first | rfl | assumption | decide)) ?_
  refine so_assign rfl rfl rfl ?_
  refine so_then ?_
  refine sx_true rfl ?_
  refine sx_seq ?_
  refine sx_region (E := E) ?_
  refine so_move rfl rfl rfl ?_
  first | refine so_nilCheck rfl rfl rfl ?_ | refine so_nilCheckF rfl rfl rfl ?_
  refine so_fieldO (o' := 1) rfl rfl rfl Try.underlying48 rfl inf3 rfl rfl ?_
  refine so_assign rfl rfl rfl ?_
  refine so_then ?_
  refine sx_ret ?_
  refine sk_block_ret ?_
  refine sk_then_ret ?_
  refine sk_return1 (.tmp rfl .nil) ?_
  exact fun H hH => ⟨rfl, hH.kept⟩

theorem field_opacity {S : AH} {N : Nat} (hlt : N < S.nx) : XCall Try.prog 22 [.pointer (some ⟨2 * N + 1, 0, none⟩), .string ⟨⟨[111, 112, 97, 99, 105, 116, 121]⟩⟩] S fun v H' => v = .pointer (some ⟨2 * N + 1, 15, none⟩) ∧ Kept S.nx S H' := by
  refine x_enter (E := E) (n := 125) (rs := [.tmp 4]) (l := [(1, _), (0, _)]) (fn_own Try.func22 rfl rfl rfl) (A0 := fun j => j = N) (fun j h => by rw [h]; exact hlt) rfl ?_
  refine sx_seq ?_
  refine sx_region (E := E) ?_
  refine so_assign rfl rfl rfl ?_
  refine so_then ?_
  refine sx_seq ?_
  refine sx_seq ?_
  refine sx_region (E := E) ?_
  refine so_move rfl rfl rfl ?_
  refine so_then ?_
  refine sx_block ?_
  refine sx_seq ?_
  refine sx_region (E := E) ?_
  refine so_bin rfl rfl rfl rfl (by first | exact bin_seql_t (by first | rfl | assumption | decide) | exact bin_seql_f (by first | rfl | assumption | decide)) ?_
  refine so_assign rfl rfl rfl ?_
  refine so_then ?_
  refine sx_false rfl ?_
  refine sx_seq ?_
  refine sx_region (E := E) ?_
  refine so_bin rfl rfl rfl rfl (by first | exact bin_seql_t (by first | rfl | assumption | decide) | exact bin_seql_f (by first | rfl | assumption | decide)) ?_
  refine so_assign rfl rfl rfl ?_
  refine so_then ?_
  refine sx_false rfl ?_
  refine sx_seq ?_
  refine sx_region (E := E) ?_
  refine so_bin rfl rfl rfl rfl (by first | exact bin_seql_t (by first | rfl | assumption | decide) | exact bin_seql_f (by first | rfl | assumption | decide)) ?_
  refine so_assign rfl rfl rfl ?_
  refine so_then ?_
  refine sx_false rfl ?_
  refine sx_seq ?_
  refine sx_region (E := E) ?_
  refine so_bin rfl rfl rfl rfl (by first | exact bin_seql_t (by first | rfl | assumption | decide) | exact bin_seql_f (by first | rfl | assumption | decide)) ?_
  refine so_assign rfl rfl rfl ?_
  refine so_then ?_
  refine sx_false rfl ?_
  refine sx_seq ?_
  refine sx_region (E := E) ?_
  refine so_bin rfl rfl rfl rfl (by first | exact bin_seql_t (by first | rfl | assumption | decide) | exact bin_seql_f (by first | rfl | assumption | decide)) ?_
  refine so_assign rfl rfl rfl ?_
  refine so_then ?_
  refine sx_false rfl ?_
  refine sx_seq ?_
  refine sx_region (E := E) ?_
  refine so_bin rfl rfl rfl rfl (by first | exact bin_seql_t (by first | rfl | assumption | decide) | exact bin_seql_f (by first | rfl | assumption | decide)) ?_
  refine so_assign rfl rfl rfl ?_
  refine so_then ?_
  refine sx_false rfl ?_
  refine sx_seq ?_
  refine sx_region (E := E) ?_
  refine so_bin rfl rfl rfl rfl (by first | exact bin_seql_t (by first | rfl | assumption | decide) | exact bin_seql_f (by first | rfl | assumption | decide)) ?_
  refine so_assign rfl rfl rfl ?_
  refine so_then ?_
  refine sx_false rfl ?_
  refine sx_seq ?_
  refine sx_region (E := E) ?_
  refine so_bin rfl rfl rfl rfl (by first | exact bin_seql_t (by first | rfl | assumption | decide) | exact bin_seql_f (by first | rfl | assumption | decide)) ?_
  refine so_assign rfl rfl rfl ?_
  refine so_then ?_
  refine sx_false rfl ?_
  refine sx_seq ?_
  refine sx_region (E := E) ?_
  refine so_bin rfl rfl rfl rfl (by first | exact bin_seql_t (by first | rfl | assumption | decide) | exact bin_seql_f (by first | rfl | assumption | decide)) ?_
  refine so_assign rfl rfl rfl ?_
  refine so_then ?_
  refine sx_false rfl ?_
  refine sx_seq ?_
  refine sx_region (E := E) ?_
  refine so_bin rfl rfl rfl rfl (by first | exact bin_seql_t (by first | rfl | assumption | decide) | exact bin_seql_f (by first | rfl | assumption | decide)) ?_
  refine so_assign rfl rfl rfl ?_
  refine so_then ?_
  refine sx_false rfl ?_
  refine sx_seq ?_
  refine sx_region (E := E) ?_
  refine so_bin rfl rfl rfl rfl (by first | exact bin_seql_t (by first | rfl | assumption | decide) | exact bin_seql_f (by first | rfl | assumption | decide)) ?_
  refine so_assign rfl rfl rfl ?_
  refine so_then ?_
  refine sx_false rfl ?_
  refine sx_seq ?_
  refine sx_region (E := E) ?_
  refine so_bin rfl rfl rfl rfl (by first | exact bin_seql_t (by first | rfl | assumption | decide) | exact bin_seql_f (by first | rfl | assumption | decide)) ?_
  refine so_assign rfl rfl rfl ?_
  refine so_then ?_
  refine sx_false rfl ?_
  refine sx_seq ?_
  refine sx_region (E := E) ?_
  refine so_bin rfl rfl rfl rfl (by first | exact bin_seql_t (by first | rfl | assumption | decide) | exact bin_seql_f (by first | rfl | assumption | decide)) ?_
  refine so_assign rfl rfl rfl ?_
  refine so_then ?_
  refine sx_false rfl ?_
  refine sx_seq ?_
  refine sx_region (E := E) ?_
  refine so_bin rfl rfl rfl rfl (by first | exact bin_seql_t (by first | rfl | assumption | decide) | exact bin_seql_f (by first | rfl | assumption | decide)) ?_
  refine so_assign rfl rfl rfl ?_
  refine so_then ?_
  refine sx_false rfl ?_
  refine sx_seq ?_
  refine sx_region (E := E) ?_
  refine so_bin rfl rfl rfl rfl (by first | exact bin_seql_t (by first | rfl | assumption | decide) | exact bin_seql_f (by first | rfl | assumption | decide)) ?_
  refine so_assign rfl rfl rfl ?_
  refine so_then ?_
  refine sx_false rfl ?_
  refine sx_seq ?_
  refine sx_region (E := E) ?_
  refine so_bin rfl rfl rfl rfl (by first | exact bin_seql_t (by first | rfl | assumption | decide) | exact bin_seql_f (by first | rfl | assumption | decide)) ?_
  refine so_assign rfl rfl rfl ?_
  refine so_then ?_
  refine sx_true rfl ?_
  refine sx_seq ?_
  refine sx_region (E := E) ?_
  refine so_move rfl rfl rfl ?_
  first | refine so_nilCheck rfl rfl rfl ?_ | refine so_nilCheckF rfl rfl rfl ?_
  refine so_fieldO (o' := 8) rfl rfl rfl Try.underlying48 rfl inf38 rfl rfl ?_
  refine so_fieldO (o' := 15) rfl rfl rfl Try.underlying38 rfl inf3 rfl rfl ?_
  refine so_assign rfl rfl rfl ?_
  refine so_then ?_
  refine sx_ret ?_
  refine sk_block_ret ?_
  refine sk_then_ret ?_
  refine sk_return1 (.tmp rfl .nil) ?_
  exact fun H hH => ⟨rfl, hH.kept⟩

theorem field_parent {S : AH} {N : Nat} (hlt : N < S.nx) : XCall Try.prog 22 [.pointer (some ⟨2 * N + 1, 0, none⟩), .string ⟨⟨[112, 97, 114, 101, 110, 116]⟩⟩] S fun v H' => v = .pointer (some ⟨2 * N + 1, 2, none⟩) ∧ Kept S.nx S H' := by
  refine x_enter (E := E) (n := 125) (rs := [.tmp 4]) (l := [(1, _), (0, _)]) (fn_own Try.func22 rfl rfl rfl) (A0 := fun j => j = N) (fun j h => by rw [h]; exact hlt) rfl ?_
  refine sx_seq ?_
  refine sx_region (E := E) ?_
  refine so_assign rfl rfl rfl ?_
  refine so_then ?_
  refine sx_seq ?_
  refine sx_seq ?_
  refine sx_region (E := E) ?_
  refine so_move rfl rfl rfl ?_
  refine so_then ?_
  refine sx_block ?_
  refine sx_seq ?_
  refine sx_region (E := E) ?_
  refine so_bin rfl rfl rfl rfl (by first | exact bin_seql_t (by first | rfl | assumption | decide) | exact bin_seql_f (by first | rfl | assumption | decide)) ?_
  refine so_assign rfl rfl rfl ?_
  refine so_then ?_
  refine sx_false rfl ?_
  refine sx_seq ?_
  refine sx_region (E := E) ?_
  refine so_bin rfl rfl rfl rfl (by first | exact bin_seql_t (by first | rfl | assumption | decide) | exact bin_seql_f (by first | rfl | assumption | decide)) ?_
  refine so_assign rfl rfl rfl ?_
  refine so_then ?_
  refine sx_false rfl ?_
  refine sx_seq ?_
  refine sx_region (E := E) ?_
  refine so_bin rfl rfl rfl rfl (by first | exact bin_seql_t (by first | rfl | assumption | decide) | exact bin_seql_f (by first | rfl | assumption | decide)) ?_
  refine so_assign rfl rfl rfl ?_
  refine so_then ?_
  refine sx_true rfl ?_
  refine sx_seq ?_
  refine sx_region (E := E) ?_
  refine so_move rfl rfl rfl ?_
  first | refine so_nilCheck rfl rfl rfl ?_ | refine so_nilCheckF rfl rfl rfl ?_
  refine so_fieldO (o' := 2) rfl rfl rfl Try.underlying48 rfl inf3 rfl rfl ?_
  refine so_assign rfl rfl rfl ?_
  refine so_then ?_
  refine sx_ret ?_
  refine sk_block_ret ?_
  refine sk_then_ret ?_
  refine sk_return1 (.tmp rfl .nil) ?_
  exact fun H hH => ⟨rfl, hH.kept⟩

theorem field_r {S : AH} {N : Nat} (hlt : N < S.nx) : XCall Try.prog 22 [.pointer (some ⟨2 * N + 1, 0, none⟩), .string ⟨⟨[114]⟩⟩] S fun v H' => v = .pointer (some ⟨2 * N + 1, 80, none⟩) ∧ Kept S.nx S H' := by
  refine x_enter (E := E) (n := 125) (rs := [.tmp 4]) (l := [(1, _), (0, _)]) (fn_own Try.func22 rfl rfl rfl) (A0 := fun j => j = N) (fun j h => by rw [h]; exact hlt) rfl ?_
  refine sx_seq ?_
  refine sx_region (E := E) ?_
  refine so_assign rfl rfl rfl ?_
  refine so_then ?_
  refine sx_seq ?_
  refine sx_seq ?_
  refine sx_region (E := E) ?_
  refine so_move rfl rfl rfl ?_
  refine so_then ?_
  refine sx_block ?_
  refine sx_seq ?_
  refine sx_region (E := E) ?_
  refine so_bin rfl rfl rfl rfl (by first | exact bin_seql_t (by first | rfl | assumption | decide) | exact bin_seql_f (by first | rfl | assumption | decide)) ?_
  refine so_assign rfl rfl rfl ?_
  refine so_then ?_
  refine sx_false rfl ?_
  refine sx_seq ?_
  refine sx_region (E := E) ?_
  refine so_bin rfl rfl rfl rfl (by first | exact bin_seql_t (by first | rfl | assumption | decide) | exact bin_seql_f (by first | rfl | assumption | decide)) ?_
  refine so_assign rfl rfl rfl ?_
  refine so_then ?_
  refine sx_false rfl ?_
  refine sx_seq ?_
  refine sx_region (E := E) ?_
  refine so_bin rfl rfl rfl rfl (by first | exact bin_seql_t (by first | rfl | assumption | decide) | exact bin_seql_f (by first | rfl | assumption | decide)) ?_
  refine so_assign rfl rfl rfl ?_
  refine so_then ?_
  refine sx_false rfl ?_
  refine sx_seq ?_
  refine sx_region (E := E) ?_
  refine so_bin rfl rfl rfl rfl (by first | exact bin_seql_t (by first | rfl | assumption | decide) | exact bin_seql_f (by first | rfl | assumption | decide)) ?_
  refine so_assign rfl rfl rfl ?_
  refine so_then ?_
  refine sx_false rfl ?_
  refine sx_seq ?_
  refine sx_region (E := E) ?_
  refine so_bin rfl rfl rfl rfl (by first | exact bin_seql_t (by first | rfl | assumption | decide) | exact bin_seql_f (by first | rfl | assumption | decide)) ?_
  refine so_assign rfl rfl rfl ?_
  refine so_then ?_
  refine sx_false rfl ?_
  refine sx_seq ?_
  refine sx_region (E := E) ?_
  refine so_bin rfl rfl rfl rfl (by first | exact bin_seql_t (by first | rfl | assumption | decide) | exact bin_seql_f (by first | rfl | assumption | decide)) ?_
  refine so_assign rfl rfl rfl ?_
  refine so_then ?_
  refine sx_false rfl ?_
  refine sx_seq ?_
  refine sx_region (E := E) ?_
  refine so_bin rfl rfl rfl rfl (by first | exact bin_seql_t (by first | rfl | assumption | decide) | exact bin_seql_f (by first | rfl | assumption | decide)) ?_
  refine so_assign rfl rfl rfl ?_
  refine so_then ?_
  refine sx_false rfl ?_
  refine sx_seq ?_
  refine sx_region (E := E) ?_
  refine so_bin rfl rfl rfl rfl (by first | exact bin_seql_t (by first | rfl | assumption | decide) | exact bin_seql_f (by first | rfl | assumption | decide)) ?_
  refine so_assign rfl rfl rfl ?_
  refine so_then ?_
  refine sx_false rfl ?_
  refine sx_seq ?_
  refine sx_region (E := E) ?_
  refine so_bin rfl rfl rfl rfl (by first | exact bin_seql_t (by first | rfl | assumption | decide) | exact bin_seql_f (by first | rfl | assumption | decide)) ?_
  refine so_assign rfl rfl rfl ?_
  refine so_then ?_
  refine sx_false rfl ?_
  refine sx_seq ?_
  refine sx_region (E := E) ?_
  refine so_bin rfl rfl rfl rfl (by first | exact bin_seql_t (by first | rfl | assumption | decide) | exact bin_seql_f (by first | rfl | assumption | decide)) ?_
  refine so_assign rfl rfl rfl ?_
  refine so_then ?_
  refine sx_false rfl ?_
  refine sx_seq ?_
  refine sx_region (E := E) ?_
  refine so_bin rfl rfl rfl rfl (by first | exact bin_seql_t (by first | rfl | assumption | decide) | exact bin_seql_f (by first | rfl | assumption | decide)) ?_
  refine so_assign rfl rfl rfl ?_
  refine so_then ?_
  refine sx_false rfl ?_
  refine sx_seq ?_
  refine sx_region (E := E) ?_
  refine so_bin rfl rfl rfl rfl (by first | exact bin_seql_t (by first | rfl | assumption | decide) | exact bin_seql_f (by first | rfl | assumption | decide)) ?_
  refine so_assign rfl rfl rfl ?_
  refine so_then ?_
  refine sx_true rfl ?_
  refine sx_seq ?_
  refine sx_region (E := E) ?_
  refine so_move rfl rfl rfl ?_
  first | refine so_nilCheck rfl rfl rfl ?_ | refine so_nilCheckF rfl rfl rfl ?_
  refine so_fieldO (o' := 80) rfl rfl rfl Try.underlying48 rfl inf31 rfl rfl ?_
  refine so_fieldO (o' := 80) rfl rfl rfl Try.underlying31 rfl inf3 rfl rfl ?_
  refine so_assign rfl rfl rfl ?_
  refine so_then ?_
  refine sx_ret ?_
  refine sk_block_ret ?_
  refine sk_then_ret ?_
  refine sk_return1 (.tmp rfl .nil) ?_
  exact fun H hH => ⟨rfl, hH.kept⟩

theorem field_to {S : AH} {N : Nat} (hlt : N < S.nx) : XCall Try.prog 22 [.pointer (some ⟨2 * N + 1, 0, none⟩), .string ⟨⟨[116, 111]⟩⟩] S fun v H' => v = .pointer (some ⟨2 * N + 1, 5, none⟩) ∧ Kept S.nx S H' := by
  refine x_enter (E := E) (n := 125) (rs := [.tmp 4]) (l := [(1, _), (0, _)]) (fn_own Try.func22 rfl rfl rfl) (A0 := fun j => j = N) (fun j h => by rw [h]; exact hlt) rfl ?_
  refine sx_seq ?_
  refine sx_region (E := E) ?_
  refine so_assign rfl rfl rfl ?_
  refine so_then ?_
  refine sx_seq ?_
  refine sx_seq ?_
  refine sx_region (E := E) ?_
  refine so_move rfl rfl rfl ?_
  refine so_then ?_
  refine sx_block ?_
  refine sx_seq ?_
  refine sx_region (E := E) ?_
  refine so_bin rfl rfl rfl rfl (by first | exact bin_seql_t (by first | rfl | assumption | decide) | exact bin_seql_f (by first | rfl | assumption | decide)) ?_
  refine so_assign rfl rfl rfl ?_
  refine so_then ?_
  refine sx_false rfl ?_
  refine sx_seq ?_
  refine sx_region (E := E) ?_
  refine so_bin rfl rfl rfl rfl (by first | exact bin_seql_t (by first | rfl | assumption | decide) | exact bin_seql_f (by first | rfl | assumption | decide)) ?_
  refine so_assign rfl rfl rfl ?_
  refine so_then ?_
  refine sx_false rfl ?_
  refine sx_seq ?_
  refine sx_region (E := E) ?_
  refine so_bin rfl rfl rfl rfl (by first | exact bin_seql_t (by first | rfl | assumption | decide) | exact bin_seql_f (by first | rfl | assumption | decide)) ?_
  refine so_assign rfl rfl rfl ?_
  refine so_then ?_
  refine sx_false rfl ?_
  refine sx_seq ?_
  refine sx_region (E := E) ?_
  refine so_bin rfl rfl rfl rfl (by first | exact bin_seql_t (by first | rfl | assumption | decide) | exact bin_seql_f (by first | rfl | assumption | decide)) ?_
  refine so_assign rfl rfl rfl ?_
  refine so_then ?_
  refine sx_true rfl ?_
  refine sx_seq ?_
  refine sx_region (E := E) ?_
  refine so_move rfl rfl rfl ?_
  first | refine so_nilCheck rfl rfl rfl ?_ | refine so_nilCheckF rfl rfl rfl ?_
  refine so_fieldO (o' := 5) rfl rfl rfl Try.underlying48 rfl inf3 rfl rfl ?_
  refine so_assign rfl rfl rfl ?_
  refine so_then ?_
  refine sx_ret ?_
  refine sk_block_ret ?_
  refine sk_then_ret ?_
  refine sk_return1 (.tmp rfl .nil) ?_
  exact fun H hH => ⟨rfl, hH.kept⟩

theorem field_value {S : AH} {N : Nat} (hlt : N < S.nx) : XCall Try.prog 22 [.pointer (some ⟨2 * N + 1, 0, none⟩), .string ⟨⟨[118, 97, 108, 117, 101]⟩⟩] S fun v H' => v = .pointer (some ⟨2 * N + 1, 4, none⟩) ∧ Kept S.nx S H' := by
  refine x_enter (E := E) (n := 125) (rs := [.tmp 4]) (l := [(1, _), (0, _)]) (fn_own Try.func22 rfl rfl rfl) (A0 := fun j => j = N) (fun j h => by rw [h]; exact hlt) rfl ?_
  refine sx_seq ?_
  refine sx_region (E := E) ?_
  refine so_assign rfl rfl rfl ?_
  refine so_then ?_
  refine sx_seq ?_
  refine sx_seq ?_
  refine sx_region (E := E) ?_
  refine so_move rfl rfl rfl ?_
  refine so_then ?_
  refine sx_block ?_
  refine sx_seq ?_
  refine sx_region (E := E) ?_
  refine so_bin rfl rfl rfl rfl (by first | exact bin_seql_t (by first | rfl | assumption | decide) | exact bin_seql_f (by first | rfl | assumption | decide)) ?_
  refine so_assign rfl rfl rfl ?_
  refine so_then ?_
  refine sx_false rfl ?_
  refine sx_seq ?_
  refine sx_region (E := E) ?_
  refine so_bin rfl rfl rfl rfl (by first | exact bin_seql_t (by first | rfl | assumption | decide) | exact bin_seql_f (by first | rfl | assumption | decide)) ?_
  refine so_assign rfl rfl rfl ?_
  refine so_then ?_
  refine sx_false rfl ?_
  refine sx_seq ?_
  refine sx_region (E := E) ?_
  refine so_bin rfl rfl rfl rfl (by first | exact bin_seql_t (by first | rfl | assumption | decide) | exact bin_seql_f (by first | rfl | assumption | decide)) ?_
  refine so_assign rfl rfl rfl ?_
  refine so_then ?_
  refine sx_false rfl ?_
  refine sx_seq ?_
  refine sx_region (E := E) ?_
  refine so_bin rfl rfl rfl rfl (by first | exact bin_seql_t (by first | rfl | assumption | decide) | exact bin_seql_f (by first | rfl | assumption | decide)) ?_
  refine so_assign rfl rfl rfl ?_
  refine so_then ?_
  refine sx_false rfl ?_
  refine sx_seq ?_
  refine sx_region (E := E) ?_
  refine so_bin rfl rfl rfl rfl (by first | exact bin_seql_t (by first | rfl | assumption | decide) | exact bin_seql_f (by first | rfl | assumption | decide)) ?_
  refine so_assign rfl rfl rfl ?_
  refine so_then ?_
  refine sx_true rfl ?_
  refine sx_seq ?_
  refine sx_region (E := E) ?_
  refine so_move rfl rfl rfl ?_
  first | refine so_nilCheck rfl rfl rfl ?_ | refine so_nilCheckF rfl rfl rfl ?_
  refine so_fieldO (o' := 4) rfl rfl rfl Try.underlying48 rfl inf3 rfl rfl ?_
  refine so_assign rfl rfl rfl ?_
  refine so_then ?_
  refine sx_ret ?_
  refine sk_block_ret ?_
  refine sk_then_ret ?_
  refine sk_return1 (.tmp rfl .nil) ?_
  exact fun H hH => ⟨rfl, hH.kept⟩

theorem field_w {S : AH} {N : Nat} (hlt : N < S.nx) : XCall Try.prog 22 [.pointer (some ⟨2 * N + 1, 0, none⟩), .string ⟨⟨[119]⟩⟩] S fun v H' => v = .pointer (some ⟨2 * N + 1, 78, none⟩) ∧ Kept S.nx S H' := by
  refine x_enter (E := E) (n := 125) (rs := [.tmp 4]) (l := [(1, _), (0, _)]) (fn_own Try.func22 rfl rfl rfl) (A0 := fun j => j = N) (fun j h => by rw [h]; exact hlt) rfl ?_
  refine sx_seq ?_
  refine sx_region (E := E) ?_
  refine so_assign rfl rfl rfl ?_
  refine so_then ?_
  refine sx_seq ?_
  refine sx_seq ?_
  refine sx_region (E := E) ?_
  refine so_move rfl rfl rfl ?_
  refine so_then ?_
  refine sx_block ?_
  refine sx_seq ?_
  refine sx_region (E := E) ?_
  refine so_bin rfl rfl rfl rfl (by first | exact bin_seql_t (by first | rfl | assumption | decide) | exact bin_seql_f (by first | rfl | assumption | decide)) ?_
  refine so_assign rfl rfl rfl ?_
  refine so_then ?_
  refine sx_false rfl ?_
  refine sx_seq ?_
  refine sx_region (E := E) ?_
  refine so_bin rfl rfl rfl rfl (by first | exact bin_seql_t (by first | rfl | assumption | decide) | exact bin_seql_f (by first | rfl | assumption | decide)) ?_
  refine so_assign rfl rfl rfl ?_
  refine so_then ?_
  refine sx_false rfl ?_
  refine sx_seq ?_
  refine sx_region (E := E) ?_
  refine so_bin rfl rfl rfl rfl (by first | exact bin_seql_t (by first | rfl | assumption | decide) | exact bin_seql_f (by first | rfl | assumption | decide)) ?_
  refine so_assign rfl rfl rfl ?_
  refine so_then ?_
  refine sx_false rfl ?_
  refine sx_seq ?_
  refine sx_region (E := E) ?_
  refine so_bin rfl rfl rfl rfl (by first | exact bin_seql_t (by first | rfl | assumption | decide) | exact bin_seql_f (by first | rfl | assumption | decide)) ?_
  refine so_assign rfl rfl rfl ?_
  refine so_then ?_
  refine sx_false rfl ?_
  refine sx_seq ?_
  refine sx_region (E := E) ?_
  refine so_bin rfl rfl rfl rfl (by first | exact bin_seql_t (by first | rfl | assumption | decide) | exact bin_seql_f (by first | rfl | assumption | decide)) ?_
  refine so_assign rfl rfl rfl ?_
  refine so_then ?_
  refine sx_false rfl ?_
  refine sx_seq ?_
  refine sx_region (E := E) ?_
  refine so_bin rfl rfl rfl rfl (by first | exact bin_seql_t (by first | rfl | assumption | decide) | exact bin_seql_f (by first | rfl | assumption | decide)) ?_
  refine so_assign rfl rfl rfl ?_
  refine so_then ?_
  refine sx_false rfl ?_
  refine sx_seq ?_
  refine sx_region (E := E) ?_
  refine so_bin rfl rfl rfl rfl (by first | exact bin_seql_t (by first | rfl | assumption | decide) | exact bin_seql_f (by first | rfl | assumption | decide)) ?_
  refine so_assign rfl rfl rfl ?_
  refine so_then ?_
  refine sx_false rfl ?_
  refine sx_seq ?_
  refine sx_region (E := E) ?_
  refine so_bin rfl rfl rfl rfl (by first | exact bin_seql_t (by first | rfl | assumption | decide) | exact bin_seql_f (by first | rfl | assumption | decide)) ?_
  refine so_assign rfl rfl rfl ?_
  refine so_then ?_
  refine sx_true rfl ?_
  refine sx_seq ?_
  refine sx_region (E := E) ?_
  refine so_move rfl rfl rfl ?_
  first | refine so_nilCheck rfl rfl rfl ?_ | refine so_nilCheckF rfl rfl rfl ?_
  refine so_fieldO (o' := 76) rfl rfl rfl Try.underlying48 rfl inf46 rfl rfl ?_
  refine so_fieldO (o' := 78) rfl rfl rfl Try.underlying46 rfl inf3 rfl rfl ?_
  refine so_assign rfl rfl rfl ?_
  refine so_then ?_
  refine sx_ret ?_
  refine sk_block_ret ?_
  refine sk_then_ret ?_
  refine sk_return1 (.tmp rfl .nil) ?_
  exact fun H hH => ⟨rfl, hH.kept⟩

theorem field_x {S : AH} {N : Nat} (hlt : N < S.nx) : XCall Try.prog 22 [.pointer (some ⟨2 * N + 1, 0, none⟩), .string ⟨⟨[120]⟩⟩] S fun v H' => v = .pointer (some ⟨2 * N + 1, 76, none⟩) ∧ Kept S.nx S H' := by
  refine x_enter (E := E) (n := 125) (rs := [.tmp 4]) (l := [(1, _), (0, _)]) (fn_own Try.func22 rfl rfl rfl) (A0 := fun j => j = N) (fun j h => by rw [h]; exact hlt) rfl ?_
  refine sx_seq ?_
  refine sx_region (E := E) ?_
  refine so_assign rfl rfl rfl ?_
  refine so_then ?_
  refine sx_seq ?_
  refine sx_seq ?_
  refine sx_region (E := E) ?_
  refine so_move rfl rfl rfl ?_
  refine so_then ?_
  refine sx_block ?_
  refine sx_seq ?_
  refine sx_region (E := E) ?_
  refine so_bin rfl rfl rfl rfl (by first | exact bin_seql_t (by first | rfl | assumption | decide) | exact bin_seql_f (by first | rfl | assumption | decide)) ?_
  refine so_assign rfl rfl rfl ?_
  refine so_then ?_
  refine sx_false rfl ?_
  refine sx_seq ?_
  refine sx_region (E := E) ?_
  refine so_bin rfl rfl rfl rfl (by first | exact bin_seql_t (by first | rfl | assumption | decide) | exact bin_seql_f (by first | rfl | assumption | decide)) ?_
  refine so_assign rfl rfl rfl ?_
  refine so_then ?_
  refine sx_false rfl ?_
  refine sx_seq ?_
  refine sx_region (E := E) ?_
  refine so_bin rfl rfl rfl rfl (by first | exact bin_seql_t (by first | rfl | assumption | decide) | exact bin_seql_f (by first | rfl | assumption | decide)) ?_
  refine so_assign rfl rfl rfl ?_
  refine so_then ?_
  refine sx_false rfl ?_
  refine sx_seq ?_
  refine sx_region (E := E) ?_
  refine so_bin rfl rfl rfl rfl (by first | exact bin_seql_t (by first | rfl | assumption | decide) | exact bin_seql_f (by first | rfl | assumption | decide)) ?_
  refine so_assign rfl rfl rfl ?_
  refine so_then ?_
  refine sx_false rfl ?_
  refine sx_seq ?_
  refine sx_region (E := E) ?_
  refine so_bin rfl rfl rfl rfl (by first | exact bin_seql_t (by first | rfl | assumption | decide) | exact bin_seql_f (by first | rfl | assumption | decide)) ?_
  refine so_assign rfl rfl rfl ?_
  refine so_then ?_
  refine sx_false rfl ?_
  refine sx_seq ?_
  refine sx_region (E := E) ?_
  refine so_bin rfl rfl rfl rfl (by first | exact bin_seql_t (by first | rfl | assumption | decide) | exact bin_seql_f (by first | rfl | assumption | decide)) ?_
  refine so_assign rfl rfl rfl ?_
  refine so_then ?_
  refine sx_true rfl ?_
  refine sx_seq ?_
  refine sx_region (E := E) ?_
  refine so_move rfl rfl rfl ?_
  first | refine so_nilCheck rfl rfl rfl ?_ | refine so_nilCheckF rfl rfl rfl ?_
  refine so_fieldO (o' := 76) rfl rfl rfl Try.underlying48 rfl inf46 rfl rfl ?_
  refine so_fieldO (o' := 76) rfl rfl rfl Try.underlying46 rfl inf3 rfl rfl ?_
  refine so_assign rfl rfl rfl ?_
  refine so_then ?_
  refine sx_ret ?_
  refine sk_block_ret ?_
  refine sk_then_ret ?_
  refine sk_return1 (.tmp rfl .nil) ?_
  exact fun H hH => ⟨rfl, hH.kept⟩

theorem field_y {S : AH} {N : Nat} (hlt : N < S.nx) : XCall Try.prog 22 [.pointer (some ⟨2 * N + 1, 0, none⟩), .string ⟨⟨[121]⟩⟩] S fun v H' => v = .pointer (some ⟨2 * N + 1, 77, none⟩) ∧ Kept S.nx S H' := by
  refine x_enter (E := E) (n := 125) (rs := [.tmp 4]) (l := [(1, _), (0, _)]) (fn_own Try.func22 rfl rfl rfl) (A0 := fun j => j = N) (fun j h => by rw [h]; exact hlt) rfl ?_
  refine sx_seq ?_
  refine sx_region (E := E) ?_
  refine so_assign rfl rfl rfl ?_
  refine so_then ?_
  refine sx_seq ?_
  refine sx_seq ?_
  refine sx_region (E := E) ?_
  refine so_move rfl rfl rfl ?_
  refine so_then ?_
  refine sx_block ?_
  refine sx_seq ?_
  refine sx_region (E := E) ?_
  refine so_bin rfl rfl rfl rfl (by first | exact bin_seql_t (by first | rfl | assumption | decide) | exact bin_seql_f (by first | rfl | assumption | decide)) ?_
  refine so_assign rfl rfl rfl ?_
  refine so_then ?_
  refine sx_false rfl ?_
  refine sx_seq ?_
  refine sx_region (E := E) ?_
  refine so_bin rfl rfl rfl rfl (by first | exact bin_seql_t (by first | rfl | assumption | decide) | exact bin_seql_f (by first | rfl | assumption | decide)) ?_
  refine so_assign rfl rfl rfl ?_
  refine so_then ?_
  refine sx_false rfl ?_
  refine sx_seq ?_
  refine sx_region (E := E) ?_
  refine so_bin rfl rfl rfl rfl (by first | exact bin_seql_t (by first | rfl | assumption | decide) | exact bin_seql_f (by first | rfl | assumption | decide)) ?_
  refine so_assign rfl rfl rfl ?_
  refine so_then ?_
  refine sx_false rfl ?_
  refine sx_seq ?_
  refine sx_region (E := E) ?_
  refine so_bin rfl rfl rfl rfl (by first | exact bin_seql_t (by first | rfl | assumption | decide) | exact bin_seql_f (by first | rfl | assumption | decide)) ?_
  refine so_assign rfl rfl rfl ?_
  refine so_then ?_
  refine sx_false rfl ?_
  refine sx_seq ?_
  refine sx_region (E := E) ?_
  refine so_bin rfl rfl rfl rfl (by first | exact bin_seql_t (by first | rfl | assumption | decide) | exact bin_seql_f (by first | rfl | assumption | decide)) ?_
  refine so_assign rfl rfl rfl ?_
  refine so_then ?_
  refine sx_false rfl ?_
  refine sx_seq ?_
  refine sx_region (E := E) ?_
  refine so_bin rfl rfl rfl rfl (by first | exact bin_seql_t (by first | rfl | assumption | decide) | exact bin_seql_f (by first | rfl | assumption | decide)) ?_
  refine so_assign rfl rfl rfl ?_
  refine so_then ?_
  refine sx_false rfl ?_
  refine sx_seq ?_
  refine sx_region (E := E) ?_
  refine so_bin rfl rfl rfl rfl (by first | exact bin_seql_t (by first | rfl | assumption | decide) | exact bin_seql_f (by first | rfl | assumption | decide)) ?_
  refine so_assign rfl rfl rfl ?_
  refine so_then ?_
  refine sx_true rfl ?_
  refine sx_seq ?_
  refine sx_region (E := E) ?_
  refine so_move rfl rfl rfl ?_
  first | refine so_nilCheck rfl rfl rfl ?_ | refine so_nilCheckF rfl rfl rfl ?_
  refine so_fieldO (o' := 76) rfl rfl rfl Try.underlying48 rfl inf46 rfl rfl ?_
  refine so_fieldO (o' := 77) rfl rfl rfl Try.underlying46 rfl inf3 rfl rfl ?_
  refine so_assign rfl rfl rfl ?_
  refine so_then ?_
  refine sx_ret ?_
  refine sk_block_ret ?_
  refine sk_then_ret ?_
  refine sk_return1 (.tmp rfl .nil) ?_
  exact fun H hH => ⟨rfl, hH.kept⟩


theorem field_ok {S : AH} {N : Nat} (hlt : N < S.nx) {q : ByteArray} {fo : Nat} (h : fieldOff q.data.toList = some fo) : XCall Try.prog 22 [.pointer (some ⟨2 * N + 1, 0, none⟩), .string q] S fun v H' => v = .pointer (some ⟨2 * N + 1, fo, none⟩) ∧ Kept S.nx S H' := by
  unfold fieldOff at h
  by_cases e0 : q.data.toList = [97]
  · rw [if_pos e0] at h; cases h; rw [bytes_eq e0]; exact field_a hlt
  rw [if_neg e0] at h
  by_cases e1 : q.data.toList = [97, 116]
  · rw [if_pos e1] at h; cases h; rw [bytes_eq e1]; exact field_at hlt
  rw [if_neg e1] at h
  by_cases e2 : q.data.toList = [98]
  · rw [if_pos e2] at h; cases h; rw [bytes_eq e2]; exact field_b hlt
  rw [if_neg e2] at h
  by_cases e3 : q.data.toList = [100, 120]
  · rw [if_pos e3] at h; cases h; rw [bytes_eq e3]; exact field_dx hlt
  rw [if_neg e3] at h
  by_cases e4 : q.data.toList = [100, 121]
  · rw [if_pos e4] at h; cases h; rw [bytes_eq e4]; exact field_dy hlt
  rw [if_neg e4] at h
  by_cases e5 : q.data.toList = [103]
  · rw [if_pos e5] at h; cases h; rw [bytes_eq e5]; exact field_g hlt
  rw [if_neg e5] at h
  by_cases e6 : q.data.toList = [104]
  · rw [if_pos e6] at h; cases h; rw [bytes_eq e6]; exact field_h hlt
  rw [if_neg e6] at h
  by_cases e7 : q.data.toList = [105, 100]
  · rw [if_pos e7] at h; cases h; rw [bytes_eq e7]; exact field_id hlt
  rw [if_neg e7] at h
  by_cases e8 : q.data.toList = [111, 112, 97, 99, 105, 116, 121]
  · rw [if_pos e8] at h; cases h; rw [bytes_eq e8]; exact field_opacity hlt
  rw [if_neg e8] at h
  by_cases e9 : q.data.toList = [112, 97, 114, 101, 110, 116]
  · rw [if_pos e9] at h; cases h; rw [bytes_eq e9]; exact field_parent hlt
  rw [if_neg e9] at h
  by_cases e10 : q.data.toList = [114]
  · rw [if_pos e10] at h; cases h; rw [bytes_eq e10]; exact field_r hlt
  rw [if_neg e10] at h
  by_cases e11 : q.data.toList = [116, 111]
  · rw [if_pos e11] at h; cases h; rw [bytes_eq e11]; exact field_to hlt
  rw [if_neg e11] at h
  by_cases e12 : q.data.toList = [118, 97, 108, 117, 101]
  · rw [if_pos e12] at h; cases h; rw [bytes_eq e12]; exact field_value hlt
  rw [if_neg e12] at h
  by_cases e13 : q.data.toList = [119]
  · rw [if_pos e13] at h; cases h; rw [bytes_eq e13]; exact field_w hlt
  rw [if_neg e13] at h
  by_cases e14 : q.data.toList = [120]
  · rw [if_pos e14] at h; cases h; rw [bytes_eq e14]; exact field_x hlt
  rw [if_neg e14] at h
  by_cases e15 : q.data.toList = [121]
  · rw [if_pos e15] at h; cases h; rw [bytes_eq e15]; exact field_y hlt
  rw [if_neg e15] at h
  cases h
theorem field_param0_lt {S : AH} {N sz np cap : Nat} {cs : List Value} {ex : Bool} {pa : Addr} (hlt : N < S.nx) (hN : S.tr.get N = some (.cells cs sz ex)) (h35 : cs[35]? = some (.slice (some pa) np cap)) (hk : 0 < np) : XCall Try.prog 22 [.pointer (some ⟨2 * N + 1, 0, none⟩), .string ⟨⟨[112, 97, 114, 97, 109, 48]⟩⟩] S fun v H' => v = .pointer (some (pa.add (0 * 1))) ∧ Kept S.nx S H' := by
  refine x_enter (E := E) (n := 125) (rs := [.tmp 4]) (l := [(1, _), (0, _)]) (fn_own Try.func22 rfl rfl rfl) (A0 := fun j => j = N) (fun j h => by rw [h]; exact hlt) rfl ?_
  refine sx_seq ?_
  refine sx_region (E := E) ?_
  refine so_assign rfl rfl rfl ?_
  refine so_then ?_
  refine sx_seq ?_
  refine sx_seq ?_
  refine sx_region (E := E) ?_
  refine so_move rfl rfl rfl ?_
  refine so_then ?_
  refine sx_block ?_
  refine sx_seq ?_
  refine sx_region (E := E) ?_
  refine so_bin rfl rfl rfl rfl (by first | exact bin_seql_t (by first | rfl | assumption | decide) | exact bin_seql_f (by first | rfl | assumption | decide)) ?_
  refine so_assign rfl rfl rfl ?_
  refine so_then ?_
  refine sx_false rfl ?_
  refine sx_seq ?_
  refine sx_region (E := E) ?_
  refine so_bin rfl rfl rfl rfl (by first | exact bin_seql_t (by first | rfl | assumption | decide) | exact bin_seql_f (by first | rfl | assumption | decide)) ?_
  refine so_assign rfl rfl rfl ?_
  refine so_then ?_
  refine sx_false rfl ?_
  refine sx_seq ?_
  refine sx_region (E := E) ?_
  refine so_bin rfl rfl rfl rfl (by first | exact bin_seql_t (by first | rfl | assumption | decide) | exact bin_seql_f (by first | rfl | assumption | decide)) ?_
  refine so_assign rfl rfl rfl ?_
  refine so_then ?_
  refine sx_false rfl ?_
  refine sx_seq ?_
  refine sx_region (E := E) ?_
  refine so_bin rfl rfl rfl rfl (by first | exact bin_seql_t (by first | rfl | assumption | decide) | exact bin_seql_f (by first | rfl | assumption | decide)) ?_
  refine so_assign rfl rfl rfl ?_
  refine so_then ?_
  refine sx_false rfl ?_
  refine sx_seq ?_
  refine sx_region (E := E) ?_
  refine so_bin rfl rfl rfl rfl (by first | exact bin_seql_t (by first | rfl | assumption | decide) | exact bin_seql_f (by first | rfl | assumption | decide)) ?_
  refine so_assign rfl rfl rfl ?_
  refine so_then ?_
  refine sx_false rfl ?_
  refine sx_seq ?_
  refine sx_region (E := E) ?_
  refine so_bin rfl rfl rfl rfl (by first | exact bin_seql_t (by first | rfl | assumption | decide) | exact bin_seql_f (by first | rfl | assumption | decide)) ?_
  refine so_assign rfl rfl rfl ?_
  refine so_then ?_
  refine sx_false rfl ?_
  refine sx_seq ?_
  refine sx_region (E := E) ?_
  refine so_bin rfl rfl rfl rfl (by first | exact bin_seql_t (by first | rfl | assumption | decide) | exact bin_seql_f (by first | rfl | assumption | decide)) ?_
  refine so_assign rfl rfl rfl ?_
  refine so_then ?_
  refine sx_false rfl ?_
  refine sx_seq ?_
  refine sx_region (E := E) ?_
  refine so_bin rfl rfl rfl rfl (by first | exact bin_seql_t (by first | rfl | assumption | decide) | exact bin_seql_f (by first | rfl | assumption | decide)) ?_
  refine so_assign rfl rfl rfl ?_
  refine so_then ?_
  refine sx_false rfl ?_
  refine sx_seq ?_
  refine sx_region (E := E) ?_
  refine so_bin rfl rfl rfl rfl (by first | exact bin_seql_t (by first | rfl | assumption | decide) | exact bin_seql_f (by first | rfl | assumption | decide)) ?_
  refine so_assign rfl rfl rfl ?_
  refine so_then ?_
  refine sx_false rfl ?_
  refine sx_seq ?_
  refine sx_region (E := E) ?_
  refine so_bin rfl rfl rfl rfl (by first | exact bin_seql_t (by first | rfl | assumption | decide) | exact bin_seql_f (by first | rfl | assumption | decide)) ?_
  refine so_assign rfl rfl rfl ?_
  refine so_then ?_
  refine sx_false rfl ?_
  refine sx_seq ?_
  refine sx_region (E := E) ?_
  refine so_bin rfl rfl rfl rfl (by first | exact bin_seql_t (by first | rfl | assumption | decide) | exact bin_seql_f (by first | rfl | assumption | decide)) ?_
  refine so_assign rfl rfl rfl ?_
  refine so_then ?_
  refine sx_false rfl ?_
  refine sx_seq ?_
  refine sx_region (E := E) ?_
  refine so_bin rfl rfl rfl rfl (by first | exact bin_seql_t (by first | rfl | assumption | decide) | exact bin_seql_f (by first | rfl | assumption | decide)) ?_
  refine so_assign rfl rfl rfl ?_
  refine so_then ?_
  refine sx_false rfl ?_
  refine sx_seq ?_
  refine sx_region (E := E) ?_
  refine so_bin rfl rfl rfl rfl (by first | exact bin_seql_t (by first | rfl | assumption | decide) | exact bin_seql_f (by first | rfl | assumption | decide)) ?_
  refine so_assign rfl rfl rfl ?_
  refine so_then ?_
  refine sx_false rfl ?_
  refine sx_seq ?_
  refine sx_region (E := E) ?_
  refine so_bin rfl rfl rfl rfl (by first | exact bin_seql_t (by first | rfl | assumption | decide) | exact bin_seql_f (by first | rfl | assumption | decide)) ?_
  refine so_assign rfl rfl rfl ?_
  refine so_then ?_
  refine sx_false rfl ?_
  refine sx_seq ?_
  refine sx_region (E := E) ?_
  refine so_bin rfl rfl rfl rfl (by first | exact bin_seql_t (by first | rfl | assumption | decide) | exact bin_seql_f (by first | rfl | assumption | decide)) ?_
  refine so_assign rfl rfl rfl ?_
  refine so_then ?_
  refine sx_false rfl ?_
  refine sx_seq ?_
  refine sx_region (E := E) ?_
  refine so_bin rfl rfl rfl rfl (by first | exact bin_seql_t (by first | rfl | assumption | decide) | exact bin_seql_f (by first | rfl | assumption | decide)) ?_
  refine so_assign rfl rfl rfl ?_
  refine so_then ?_
  refine sx_false rfl ?_
  refine sx_seq ?_
  refine sx_seq ?_
  refine sx_region (E := E) ?_
  refine so_bin rfl rfl rfl rfl (by first | exact bin_seql_t (by first | rfl | assumption | decide) | exact bin_seql_f (by first | rfl | assumption | decide)) ?_
  refine so_assign rfl rfl rfl ?_
  refine so_then ?_
  refine sx_true rfl ?_
  refine sx_skip ?_
  refine sk_then ?_
  refine sx_true rfl ?_
  refine sx_seq ?_
  refine sx_region (E := E) ?_
  refine so_move rfl rfl rfl ?_
  refine so_move rfl rfl rfl ?_
  refine so_lenS rfl rfl rfl rfl rfl rfl Try.underlying9 ?_
  refine so_bin rfl rfl rfl rfl (by first | exact bin_sub (c := ((5 : Nat) : Int)) (by decide) | exact bin_decr (by omega) | exact bin_sub (wrap64 (by omega) (by omega)) | exact bin_sub rfl) ?_
  refine so_strAt (j := 5) rfl rfl rfl rfl Try.underlying9 rfl ?_
  refine so_bin rfl rfl rfl rfl (by first | exact bin_sub (c := ((0 : Nat) : Int)) (by decide) | exact bin_decr (by omega) | exact bin_sub (wrap64 (by omega) (by omega)) | exact bin_sub rfl) ?_
  refine so_convI (b := ((0 : Nat) : Int)) rfl rfl rfl Try.underlying5 Try.underlying3 (by decide) ?_
  refine so_assign rfl rfl rfl ?_
  refine so_then ?_
  refine sx_seq ?_
  refine sx_region (E := E) ?_
  refine so_move rfl rfl rfl ?_
  refine so_move rfl rfl rfl ?_
  first | refine so_nilCheck rfl rfl rfl ?_ | refine so_nilCheckF rfl rfl rfl ?_
  refine so_fieldO (o' := 8) rfl rfl rfl Try.underlying48 rfl inf38 rfl rfl ?_
  refine so_fieldO (o' := 35) rfl rfl rfl Try.underlying38 rfl inf22 rfl rfl ?_
  refine so_load rfl rfl rfl (by first | exact ld_data Try.underlying22 rfl (InA.own rfl) ((aload_own hN _ _).trans h35) | exact ld_own Try.underlying22 rfl (by repeat (first | exact List.Mem.head _ | apply List.Mem.tail)) (by first | exact cellsOf_get rfl | rfl) | exact ld_data Try.underlying22 rfl (by first | assumption | exact InA.add (by assumption) | exact InA.add (InA.add (by assumption))) (by assumption)) ?_
  refine so_lenL rfl rfl rfl rfl rfl rfl Try.underlying22 ?_
  refine so_bin rfl rfl rfl rfl (by first | exact bin_lss_t (by omega) | exact bin_lss_f (by omega)) ?_
  refine so_then ?_
  refine sx_true rfl ?_
  refine sx_seq ?_
  refine sx_region (E := E) ?_
  refine so_move rfl rfl rfl ?_
  first | refine so_nilCheck rfl rfl rfl ?_ | refine so_nilCheckF rfl rfl rfl ?_
  refine so_fieldO (o' := 8) rfl rfl rfl Try.underlying48 rfl inf38 rfl rfl ?_
  refine so_fieldO (o' := 35) rfl rfl rfl Try.underlying38 rfl inf22 rfl rfl ?_
  refine so_load rfl rfl rfl (by first | exact ld_data Try.underlying22 rfl (InA.own rfl) ((aload_own hN _ _).trans h35) | exact ld_own Try.underlying22 rfl (by repeat (first | exact List.Mem.head _ | apply List.Mem.tail)) (by first | exact cellsOf_get rfl | rfl) | exact ld_data Try.underlying22 rfl (by first | assumption | exact InA.add (by assumption) | exact InA.add (InA.add (by assumption))) (by assumption)) ?_
  refine so_move rfl rfl rfl ?_
  refine so_index rfl rfl rfl rfl Try.underlying22 inf3 rfl hk ?_
  refine so_assign rfl rfl rfl ?_
  refine so_then ?_
  refine sx_ret ?_
  refine sk_block_ret ?_
  refine sk_then_ret ?_
  refine sk_return1 (.tmp rfl .nil) ?_
  exact fun H hH => ⟨rfl, hH.kept⟩

theorem field_param0_ge {S : AH} {N sz np cap : Nat} {cs : List Value} {ex : Bool} {pa : Option Addr} (hlt : N < S.nx) (hN : S.tr.get N = some (.cells cs sz ex)) (h35 : cs[35]? = some (.slice pa np cap)) (hk : np ≤ 0) : XCall Try.prog 22 [.pointer (some ⟨2 * N + 1, 0, none⟩), .string ⟨⟨[112, 97, 114, 97, 109, 48]⟩⟩] S fun v H' => v = .pointer none ∧ Kept S.nx S H' := by
  refine x_enter (E := E) (n := 125) (rs := [.tmp 4]) (l := [(1, _), (0, _)]) (fn_own Try.func22 rfl rfl rfl) (A0 := fun j => j = N) (fun j h => by rw [h]; exact hlt) rfl ?_
  refine sx_seq ?_
  refine sx_region (E := E) ?_
  refine so_assign rfl rfl rfl ?_
  refine so_then ?_
  refine sx_seq ?_
  refine sx_seq ?_
  refine sx_region (E := E) ?_
  refine so_move rfl rfl rfl ?_
  refine so_then ?_
  refine sx_block ?_
  refine sx_seq ?_
  refine sx_region (E := E) ?_
  refine so_bin rfl rfl rfl rfl (by first | exact bin_seql_t (by first | rfl | assumption | decide) | exact bin_seql_f (by first | rfl | assumption | decide)) ?_
  refine so_assign rfl rfl rfl ?_
  refine so_then ?_
  refine sx_false rfl ?_
  refine sx_seq ?_
  refine sx_region (E := E) ?_
  refine so_bin rfl rfl rfl rfl (by first | exact bin_seql_t (by first | rfl | assumption | decide) | exact bin_seql_f (by first | rfl | assumption | decide)) ?_
  refine so_assign rfl rfl rfl ?_
  refine so_then ?_
  refine sx_false rfl ?_
  refine sx_seq ?_
  refine sx_region (E := E) ?_
  refine so_bin rfl rfl rfl rfl (by first | exact bin_seql_t (by first | rfl | assumption | decide) | exact bin_seql_f (by first | rfl | assumption | decide)) ?_
  refine so_assign rfl rfl rfl ?_
  refine so_then ?_
  refine sx_false rfl ?_
  refine sx_seq ?_
  refine sx_region (E := E) ?_
  refine so_bin rfl rfl rfl rfl (by first | exact bin_seql_t (by first | rfl | assumption | decide) | exact bin_seql_f (by first | rfl | assumption | decide)) ?_
  refine so_assign rfl rfl rfl ?_
  refine so_then ?_
  refine sx_false rfl ?_
  refine sx_seq ?_
  refine sx_region (E := E) ?_
  refine so_bin rfl rfl rfl rfl (by first | exact bin_seql_t (by first | rfl | assumption | decide) | exact bin_seql_f (by first | rfl | assumption | decide)) ?_
  refine so_assign rfl rfl rfl ?_
  refine so_then ?_
  refine sx_false rfl ?_
  refine sx_seq ?_
  refine sx_region (E := E) ?_
  refine so_bin rfl rfl rfl rfl (by first | exact bin_seql_t (by first | rfl | assumption | decide) | exact bin_seql_f (by first | rfl | assumption | decide)) ?_
  refine so_assign rfl rfl rfl ?_
  refine so_then ?_
  refine sx_false rfl ?_
  refine sx_seq ?_
  refine sx_region (E := E) ?_
  refine so_bin rfl rfl rfl rfl (by first | exact bin_seql_t (by first | rfl | assumption | decide) | exact bin_seql_f (by first | rfl | assumption | decide)) ?_
  refine so_assign rfl rfl rfl ?_
  refine so_then ?_
  refine sx_false rfl ?_
  refine sx_seq ?_
  refine sx_region (E := E) ?_
  refine so_bin rfl rfl rfl rfl (by first | exact bin_seql_t (by first | rfl | assumption | decide) | exact bin_seql_f (by first | rfl | assumption | decide)) ?_
  refine so_assign rfl rfl rfl ?_
  refine so_then ?_
  refine sx_false rfl ?_
  refine sx_seq ?_
  refine sx_region (E := E) ?_
  refine so_bin rfl rfl rfl rfl (by first | exact bin_seql_t (by first | rfl | assumption | decide) | exact bin_seql_f (by first | rfl | assumption | decide)) ?_
  refine so_assign rfl rfl rfl ?_
  refine so_then ?_
  refine sx_false rfl ?_
  refine sx_seq ?_
  refine sx_region (E := E) ?_
  refine so_bin rfl rfl rfl rfl (by first | exact bin_seql_t (by first | rfl | assumption | decide) | exact bin_seql_f (by first | rfl | assumption | decide)) ?_
  refine so_assign rfl rfl rfl ?_
  refine so_then ?_
  refine sx_false rfl ?_
  refine sx_seq ?_
  refine sx_region (E := E) ?_
  refine so_bin rfl rfl rfl rfl (by first | exact bin_seql_t (by first | rfl | assumption | decide) | exact bin_seql_f (by first | rfl | assumption | decide)) ?_
  refine so_assign rfl rfl rfl ?_
  refine so_then ?_
  refine sx_false rfl ?_
  refine sx_seq ?_
  refine sx_region (E := E) ?_
  refine so_bin rfl rfl rfl rfl (by first | exact bin_seql_t (by first | rfl | assumption | decide) | exact bin_seql_f (by first | rfl | assumption | decide)) ?_
  refine so_assign rfl rfl rfl ?_
  refine so_then ?_
  refine sx_false rfl ?_
  refine sx_seq ?_
  refine sx_region (E := E) ?_
  refine so_bin rfl rfl rfl rfl (by first | exact bin_seql_t (by first | rfl | assumption | decide) | exact bin_seql_f (by first | rfl | assumption | decide)) ?_
  refine so_assign rfl rfl rfl ?_
  refine so_then ?_
  refine sx_false rfl ?_
  refine sx_seq ?_
  refine sx_region (E := E) ?_
  refine so_bin rfl rfl rfl rfl (by first | exact bin_seql_t (by first | rfl | assumption | decide) | exact bin_seql_f (by first | rfl | assumption | decide)) ?_
  refine so_assign rfl rfl rfl ?_
  refine so_then ?_
  refine sx_false rfl ?_
  refine sx_seq ?_
  refine sx_region (E := E) ?_
  refine so_bin rfl rfl rfl rfl (by first | exact bin_seql_t (by first | rfl | assumption | decide) | exact bin_seql_f (by first | rfl | assumption | decide)) ?_
  refine so_assign rfl rfl rfl ?_
  refine so_then ?_
  refine sx_false rfl ?_
  refine sx_seq ?_
  refine sx_region (E := E) ?_
  refine so_bin rfl rfl rfl rfl (by first | exact bin_seql_t (by first | rfl | assumption | decide) | exact bin_seql_f (by first | rfl | assumption | decide)) ?_
  refine so_assign rfl rfl rfl ?_
  refine so_then ?_
  refine sx_false rfl ?_
  refine sx_seq ?_
  refine sx_seq ?_
  refine sx_region (E := E) ?_
  refine so_bin rfl rfl rfl rfl (by first | exact bin_seql_t (by first | rfl | assumption | decide) | exact bin_seql_f (by first | rfl | assumption | decide)) ?_
  refine so_assign rfl rfl rfl ?_
  refine so_then ?_
  refine sx_true rfl ?_
  refine sx_skip ?_
  refine sk_then ?_
  refine sx_true rfl ?_
  refine sx_seq ?_
  refine sx_region (E := E) ?_
  refine so_move rfl rfl rfl ?_
  refine so_move rfl rfl rfl ?_
  refine so_lenS rfl rfl rfl rfl rfl rfl Try.underlying9 ?_
  refine so_bin rfl rfl rfl rfl (by first | exact bin_sub (c := ((5 : Nat) : Int)) (by decide) | exact bin_decr (by omega) | exact bin_sub (wrap64 (by omega) (by omega)) | exact bin_sub rfl) ?_
  refine so_strAt (j := 5) rfl rfl rfl rfl Try.underlying9 rfl ?_
  refine so_bin rfl rfl rfl rfl (by first | exact bin_sub (c := ((0 : Nat) : Int)) (by decide) | exact bin_decr (by omega) | exact bin_sub (wrap64 (by omega) (by omega)) | exact bin_sub rfl) ?_
  refine so_convI (b := ((0 : Nat) : Int)) rfl rfl rfl Try.underlying5 Try.underlying3 (by decide) ?_
  refine so_assign rfl rfl rfl ?_
  refine so_then ?_
  refine sx_seq ?_
  refine sx_region (E := E) ?_
  refine so_move rfl rfl rfl ?_
  refine so_move rfl rfl rfl ?_
  first | refine so_nilCheck rfl rfl rfl ?_ | refine so_nilCheckF rfl rfl rfl ?_
  refine so_fieldO (o' := 8) rfl rfl rfl Try.underlying48 rfl inf38 rfl rfl ?_
  refine so_fieldO (o' := 35) rfl rfl rfl Try.underlying38 rfl inf22 rfl rfl ?_
  refine so_load rfl rfl rfl (by first | exact ld_data Try.underlying22 rfl (InA.own rfl) ((aload_own hN _ _).trans h35) | exact ld_own Try.underlying22 rfl (by repeat (first | exact List.Mem.head _ | apply List.Mem.tail)) (by first | exact cellsOf_get rfl | rfl) | exact ld_data Try.underlying22 rfl (by first | assumption | exact InA.add (by assumption) | exact InA.add (InA.add (by assumption))) (by assumption)) ?_
  refine so_lenL rfl rfl rfl rfl rfl rfl Try.underlying22 ?_
  refine so_bin rfl rfl rfl rfl (by first | exact bin_lss_t (by omega) | exact bin_lss_f (by omega)) ?_
  refine so_then ?_
  refine sx_false rfl ?_
  refine sx_skip ?_
  refine sk_block ?_
  refine sk_then ?_
  refine sx_seq ?_
  refine sx_region (E := E) ?_
  refine so_assign rfl rfl rfl ?_
  refine so_then ?_
  refine sx_ret ?_
  refine sk_return1 (.tmp rfl .nil) ?_
  exact fun H hH => ⟨rfl, hH.kept⟩

theorem field_param1_lt {S : AH} {N sz np cap : Nat} {cs : List Value} {ex : Bool} {pa : Addr} (hlt : N < S.nx) (hN : S.tr.get N = some (.cells cs sz ex)) (h35 : cs[35]? = some (.slice (some pa) np cap)) (hk : 1 < np) : XCall Try.prog 22 [.pointer (some ⟨2 * N + 1, 0, none⟩), .string ⟨⟨[112, 97, 114, 97, 109, 49]⟩⟩] S fun v H' => v = .pointer (some (pa.add (1 * 1))) ∧ Kept S.nx S H' := by
  refine x_enter (E := E) (n := 125) (rs := [.tmp 4]) (l := [(1, _), (0, _)]) (fn_own Try.func22 rfl rfl rfl) (A0 := fun j => j = N) (fun j h => by rw [h]; exact hlt) rfl ?_
  refine sx_seq ?_
  refine sx_region (E := E) ?_
  refine so_assign rfl rfl rfl ?_
  refine so_then ?_
  refine sx_seq ?_
  refine sx_seq ?_
  refine sx_region (E := E) ?_
  refine so_move rfl rfl rfl ?_
  refine so_then ?_
  refine sx_block ?_
  refine sx_seq ?_
  refine sx_region (E := E) ?_
  refine so_bin rfl rfl rfl rfl (by first | exact bin_seql_t (by first | rfl | assumption | decide) | exact bin_seql_f (by first | rfl | assumption | decide)) ?_
  refine so_assign rfl rfl rfl ?_
  refine so_then ?_
  refine sx_false rfl ?_
  refine sx_seq ?_
  refine sx_region (E := E) ?_
  refine so_bin rfl rfl rfl rfl (by first | exact bin_seql_t (by first | rfl | assumption | decide) | exact bin_seql_f (by first | rfl | assumption | decide)) ?_
  refine so_assign rfl rfl rfl ?_
  refine so_then ?_
  refine sx_false rfl ?_
  refine sx_seq ?_
  refine sx_region (E := E) ?_
  refine so_bin rfl rfl rfl rfl (by first | exact bin_seql_t (by first | rfl | assumption | decide) | exact bin_seql_f (by first | rfl | assumption | decide)) ?_
  refine so_assign rfl rfl rfl ?_
  refine so_then ?_
  refine sx_false rfl ?_
  refine sx_seq ?_
  refine sx_region (E := E) ?_
  refine so_bin rfl rfl rfl rfl (by first | exact bin_seql_t (by first | rfl | assumption | decide) | exact bin_seql_f (by first | rfl | assumption | decide)) ?_
  refine so_assign rfl rfl rfl ?_
  refine so_then ?_
  refine sx_false rfl ?_
  refine sx_seq ?_
  refine sx_region (E := E) ?_
  refine so_bin rfl rfl rfl rfl (by first | exact bin_seql_t (by first | rfl | assumption | decide) | exact bin_seql_f (by first | rfl | assumption | decide)) ?_
  refine so_assign rfl rfl rfl ?_
  refine so_then ?_
  refine sx_false rfl ?_
  refine sx_seq ?_
  refine sx_region (E := E) ?_
  refine so_bin rfl rfl rfl rfl (by first | exact bin_seql_t (by first | rfl | assumption | decide) | exact bin_seql_f (by first | rfl | assumption | decide)) ?_
  refine so_assign rfl rfl rfl ?_
  refine so_then ?_
  refine sx_false rfl ?_
  refine sx_seq ?_
  refine sx_region (E := E) ?_
  refine so_bin rfl rfl rfl rfl (by first | exact bin_seql_t (by first | rfl | assumption | decide) | exact bin_seql_f (by first | rfl | assumption | decide)) ?_
  refine so_assign rfl rfl rfl ?_
  refine so_then ?_
  refine sx_false rfl ?_
  refine sx_seq ?_
  refine sx_region (E := E) ?_
  refine so_bin rfl rfl rfl rfl (by first | exact bin_seql_t (by first | rfl | assumption | decide) | exact bin_seql_f (by first | rfl | assumption | decide)) ?_
  refine so_assign rfl rfl rfl ?_
  refine so_then ?_
  refine sx_false rfl ?_
  refine sx_seq ?_
  refine sx_region (E := E) ?_
  refine so_bin rfl rfl rfl rfl (by first | exact bin_seql_t (by first | rfl | assumption | decide) | exact bin_seql_f (by first | rfl | assumption | decide)) ?_
  refine so_assign rfl rfl rfl ?_
  refine so_then ?_
  refine sx_false rfl ?_
  refine sx_seq ?_
  refine sx_region (E := E) ?_
  refine so_bin rfl rfl rfl rfl (by first | exact bin_seql_t (by first | rfl | assumption | decide) | exact bin_seql_f (by first | rfl | assumption | decide)) ?_
  refine so_assign rfl rfl rfl ?_
  refine so_then ?_
  refine sx_false rfl ?_
  refine sx_seq ?_
  refine sx_region (E := E) ?_
  refine so_bin rfl rfl rfl rfl (by first | exact bin_seql_t (by first | rfl | assumption | decide) | exact bin_seql_f (by first | rfl | assumption | decide)) ?_
  refine so_assign rfl rfl rfl ?_
  refine so_then ?_
  refine sx_false rfl ?_
  refine sx_seq ?_
  refine sx_region (E := E) ?_
  refine so_bin rfl rfl rfl rfl (by first | exact bin_seql_t (by first | rfl | assumption | decide) | exact bin_seql_f (by first | rfl | assumption | decide)) ?_
  refine so_assign rfl rfl rfl ?_
  refine so_then ?_
  refine sx_false rfl ?_
  refine sx_seq ?_
  refine sx_region (E := E) ?_
  refine so_bin rfl rfl rfl rfl (by first | exact bin_seql_t (by first | rfl | assumption | decide) | exact bin_seql_f (by first | rfl | assumption | decide)) ?_
  refine so_assign rfl rfl rfl ?_
  refine so_then ?_
  refine sx_false rfl ?_
  refine sx_seq ?_
  refine sx_region (E := E) ?_
  refine so_bin rfl rfl rfl rfl (by first | exact bin_seql_t (by first | rfl | assumption | decide) | exact bin_seql_f (by first | rfl | assumption | decide)) ?_
  refine so_assign rfl rfl rfl ?_
  refine so_then ?_
  refine sx_false rfl ?_
  refine sx_seq ?_
  refine sx_region (E := E) ?_
  refine so_bin rfl rfl rfl rfl (by first | exact bin_seql_t (by first | rfl | assumption | decide) | exact bin_seql_f (by first | rfl | assumption | decide)) ?_
  refine so_assign rfl rfl rfl ?_
  refine so_then ?_
  refine sx_false rfl ?_
  refine sx_seq ?_
  refine sx_region (E := E) ?_
  refine so_bin rfl rfl rfl rfl (by first | exact bin_seql_t (by first | rfl | assumption | decide) | exact bin_seql_f (by first | rfl | assumption | decide)) ?_
  refine so_assign rfl rfl rfl ?_
  refine so_then ?_
  refine sx_false rfl ?_
  refine sx_seq ?_
  refine sx_seq ?_
  refine sx_region (E := E) ?_
  refine so_bin rfl rfl rfl rfl (by first | exact bin_seql_t (by first | rfl | assumption | decide) | exact bin_seql_f (by first | rfl | assumption | decide)) ?_
  refine so_assign rfl rfl rfl ?_
  refine so_then ?_
  refine sx_false rfl ?_
  refine sx_seq ?_
  refine sx_region (E := E) ?_
  refine so_bin rfl rfl rfl rfl (by first | exact bin_seql_t (by first | rfl | assumption | decide) | exact bin_seql_f (by first | rfl | assumption | decide)) ?_
  refine so_assign rfl rfl rfl ?_
  refine so_then ?_
  refine sx_true rfl ?_
  refine sx_skip ?_
  refine sk_then ?_
  refine sx_true rfl ?_
  refine sx_seq ?_
  refine sx_region (E := E) ?_
  refine so_move rfl rfl rfl ?_
  refine so_move rfl rfl rfl ?_
  refine so_lenS rfl rfl rfl rfl rfl rfl Try.underlying9 ?_
  refine so_bin rfl rfl rfl rfl (by first | exact bin_sub (c := ((5 : Nat) : Int)) (by decide) | exact bin_decr (by omega) | exact bin_sub (wrap64 (by omega) (by omega)) | exact bin_sub rfl) ?_
  refine so_strAt (j := 5) rfl rfl rfl rfl Try.underlying9 rfl ?_
  refine so_bin rfl rfl rfl rfl (by first | exact bin_sub (c := ((1 : Nat) : Int)) (by decide) | exact bin_decr (by omega) | exact bin_sub (wrap64 (by omega) (by omega)) | exact bin_sub rfl) ?_
  refine so_convI (b := ((1 : Nat) : Int)) rfl rfl rfl Try.underlying5 Try.underlying3 (by decide) ?_
  refine so_assign rfl rfl rfl ?_
  refine so_then ?_
  refine sx_seq ?_
  refine sx_region (E := E) ?_
  refine so_move rfl rfl rfl ?_
  refine so_move rfl rfl rfl ?_
  first | refine so_nilCheck rfl rfl rfl ?_ | refine so_nilCheckF rfl rfl rfl ?_
  refine so_fieldO (o' := 8) rfl rfl rfl Try.underlying48 rfl inf38 rfl rfl ?_
  refine so_fieldO (o' := 35) rfl rfl rfl Try.underlying38 rfl inf22 rfl rfl ?_
  refine so_load rfl rfl rfl (by first | exact ld_data Try.underlying22 rfl (InA.own rfl) ((aload_own hN _ _).trans h35) | exact ld_own Try.underlying22 rfl (by repeat (first | exact List.Mem.head _ | apply List.Mem.tail)) (by first | exact cellsOf_get rfl | rfl) | exact ld_data Try.underlying22 rfl (by first | assumption | exact InA.add (by assumption) | exact InA.add (InA.add (by assumption))) (by assumption)) ?_
  refine so_lenL rfl rfl rfl rfl rfl rfl Try.underlying22 ?_
  refine so_bin rfl rfl rfl rfl (by first | exact bin_lss_t (by omega) | exact bin_lss_f (by omega)) ?_
  refine so_then ?_
  refine sx_true rfl ?_
  refine sx_seq ?_
  refine sx_region (E := E) ?_
  refine so_move rfl rfl rfl ?_
  first | refine so_nilCheck rfl rfl rfl ?_ | refine so_nilCheckF rfl rfl rfl ?_
  refine so_fieldO (o' := 8) rfl rfl rfl Try.underlying48 rfl inf38 rfl rfl ?_
  refine so_fieldO (o' := 35) rfl rfl rfl Try.underlying38 rfl inf22 rfl rfl ?_
  refine so_load rfl rfl rfl (by first | exact ld_data Try.underlying22 rfl (InA.own rfl) ((aload_own hN _ _).trans h35) | exact ld_own Try.underlying22 rfl (by repeat (first | exact List.Mem.head _ | apply List.Mem.tail)) (by first | exact cellsOf_get rfl | rfl) | exact ld_data Try.underlying22 rfl (by first | assumption | exact InA.add (by assumption) | exact InA.add (InA.add (by assumption))) (by assumption)) ?_
  refine so_move rfl rfl rfl ?_
  refine so_index rfl rfl rfl rfl Try.underlying22 inf3 rfl hk ?_
  refine so_assign rfl rfl rfl ?_
  refine so_then ?_
  refine sx_ret ?_
  refine sk_block_ret ?_
  refine sk_then_ret ?_
  refine sk_return1 (.tmp rfl .nil) ?_
  exact fun H hH => ⟨rfl, hH.kept⟩

theorem field_param1_ge {S : AH} {N sz np cap : Nat} {cs : List Value} {ex : Bool} {pa : Option Addr} (hlt : N < S.nx) (hN : S.tr.get N = some (.cells cs sz ex)) (h35 : cs[35]? = some (.slice pa np cap)) (hk : np ≤ 1) : XCall Try.prog 22 [.pointer (some ⟨2 * N + 1, 0, none⟩), .string ⟨⟨[112, 97, 114, 97, 109, 49]⟩⟩] S fun v H' => v = .pointer none ∧ Kept S.nx S H' := by
  refine x_enter (E := E) (n := 125) (rs := [.tmp 4]) (l := [(1, _), (0, _)]) (fn_own Try.func22 rfl rfl rfl) (A0 := fun j => j = N) (fun j h => by rw [h]; exact hlt) rfl ?_
  refine sx_seq ?_
  refine sx_region (E := E) ?_
  refine so_assign rfl rfl rfl ?_
  refine so_then ?_
  refine sx_seq ?_
  refine sx_seq ?_
  refine sx_region (E := E) ?_
  refine so_move rfl rfl rfl ?_
  refine so_then ?_
  refine sx_block ?_
  refine sx_seq ?_
  refine sx_region (E := E) ?_
  refine so_bin rfl rfl rfl rfl (by first | exact bin_seql_t (by first | rfl | assumption | decide) | exact bin_seql_f (by first | rfl | assumption | decide)) ?_
  refine so_assign rfl rfl rfl ?_
  refine so_then ?_
  refine sx_false rfl ?_
  refine sx_seq ?_
  refine sx_region (E := E) ?_
  refine so_bin rfl rfl rfl rfl (by first | exact bin_seql_t (by first | rfl | assumption | decide) | exact bin_seql_f (by first | rfl | assumption | decide)) ?_
  refine so_assign rfl rfl rfl ?_
  refine so_then ?_
  refine sx_false rfl ?_
  refine sx_seq ?_
  refine sx_region (E := E) ?_
  refine so_bin rfl rfl rfl rfl (by first | exact bin_seql_t (by first | rfl | assumption | decide) | exact bin_seql_f (by first | rfl | assumption | decide)) ?_
  refine so_assign rfl rfl rfl ?_
  refine so_then ?_
  refine sx_false rfl ?_
  refine sx_seq ?_
  refine sx_region (E := E) ?_
  refine so_bin rfl rfl rfl rfl (by first | exact bin_seql_t (by first | rfl | assumption | decide) | exact bin_seql_f (by first | rfl | assumption | decide)) ?_
  refine so_assign rfl rfl rfl ?_
  refine so_then ?_
  refine sx_false rfl ?_
  refine sx_seq ?_
  refine sx_region (E := E) ?_
  refine so_bin rfl rfl rfl rfl (by first | exact bin_seql_t (by first | rfl | assumption | decide) | exact bin_seql_f (by first | rfl | assumption | decide)) ?_
  refine so_assign rfl rfl rfl ?_
  refine so_then ?_
  refine sx_false rfl ?_
  refine sx_seq ?_
  refine sx_region (E := E) ?_
  refine so_bin rfl rfl rfl rfl (by first | exact bin_seql_t (by first | rfl | assumption | decide) | exact bin_seql_f (by first | rfl | assumption | decide)) ?_
  refine so_assign rfl rfl rfl ?_
  refine so_then ?_
  refine sx_false rfl ?_
  refine sx_seq ?_
  refine sx_region (E := E) ?_
  refine so_bin rfl rfl rfl rfl (by first | exact bin_seql_t (by first | rfl | assumption | decide) | exact bin_seql_f (by first | rfl | assumption | decide)) ?_
  refine so_assign rfl rfl rfl ?_
  refine so_then ?_
  refine sx_false rfl ?_
  refine sx_seq ?_
  refine sx_region (E := E) ?_
  refine so_bin rfl rfl rfl rfl (by first | exact bin_seql_t (by first | rfl | assumption | decide) | exact bin_seql_f (by first | rfl | assumption | decide)) ?_
  refine so_assign rfl rfl rfl ?_
  refine so_then ?_
  refine sx_false rfl ?_
  refine sx_seq ?_
  refine sx_region (E := E) ?_
  refine so_bin rfl rfl rfl rfl (by first | exact bin_seql_t (by first | rfl | assumption | decide) | exact bin_seql_f (by first | rfl | assumption | decide)) ?_
  refine so_assign rfl rfl rfl ?_
  refine so_then ?_
  refine sx_false rfl ?_
  refine sx_seq ?_
  refine sx_region (E := E) ?_
  refine so_bin rfl rfl rfl rfl (by first | exact bin_seql_t (by first | rfl | assumption | decide) | exact bin_seql_f (by first | rfl | assumption | decide)) ?_
  refine so_assign rfl rfl rfl ?_
  refine so_then ?_
  refine sx_false rfl ?_
  refine sx_seq ?_
  refine sx_region (E := E) ?_
  refine so_bin rfl rfl rfl rfl (by first | exact bin_seql_t (by first | rfl | assumption | decide) | exact bin_seql_f (by first | rfl | assumption | decide)) ?_
  refine so_assign rfl rfl rfl ?_
  refine so_then ?_
  refine sx_false rfl ?_
  refine sx_seq ?_
  refine sx_region (E := E) ?_
  refine so_bin rfl rfl rfl rfl (by first | exact bin_seql_t (by first | rfl | assumption | decide) | exact bin_seql_f (by first | rfl | assumption | decide)) ?_
  refine so_assign rfl rfl rfl ?_
  refine so_then ?_
  refine sx_false rfl ?_
  refine sx_seq ?_
  refine sx_region (E := E) ?_
  refine so_bin rfl rfl rfl rfl (by first | exact bin_seql_t (by first | rfl | assumption | decide) | exact bin_seql_f (by first | rfl | assumption | decide)) ?_
  refine so_assign rfl rfl rfl ?_
  refine so_then ?_
  refine sx_false rfl ?_
  refine sx_seq ?_
  refine sx_region (E := E) ?_
  refine so_bin rfl rfl rfl rfl (by first | exact bin_seql_t (by first | rfl | assumption | decide) | exact bin_seql_f (by first | rfl | assumption | decide)) ?_
  refine so_assign rfl rfl rfl ?_
  refine so_then ?_
  refine sx_false rfl ?_
  refine sx_seq ?_
  refine sx_region (E := E) ?_
  refine so_bin rfl rfl rfl rfl (by first | exact bin_seql_t (by first | rfl | assumption | decide) | exact bin_seql_f (by first | rfl | assumption | decide)) ?_
  refine so_assign rfl rfl rfl ?_
  refine so_then ?_
  refine sx_false rfl ?_
  refine sx_seq ?_
  refine sx_region (E := E) ?_
  refine so_bin rfl rfl rfl rfl (by first | exact bin_seql_t (by first | rfl | assumption | decide) | exact bin_seql_f (by first | rfl | assumption | decide)) ?_
  refine so_assign rfl rfl rfl ?_
  refine so_then ?_
  refine sx_false rfl ?_
  refine sx_seq ?_
  refine sx_seq ?_
  refine sx_region (E := E) ?_
  refine so_bin rfl rfl rfl rfl (by first | exact bin_seql_t (by first | rfl | assumption | decide) | exact bin_seql_f (by first | rfl | assumption | decide)) ?_
  refine so_assign rfl rfl rfl ?_
  refine so_then ?_
  refine sx_false rfl ?_
  refine sx_seq ?_
  refine sx_region (E := E) ?_
  refine so_bin rfl rfl rfl rfl (by first | exact bin_seql_t (by first | rfl | assumption | decide) | exact bin_seql_f (by first | rfl | assumption | decide)) ?_
  refine so_assign rfl rfl rfl ?_
  refine so_then ?_
  refine sx_true rfl ?_
  refine sx_skip ?_
  refine sk_then ?_
  refine sx_true rfl ?_
  refine sx_seq ?_
  refine sx_region (E := E) ?_
  refine so_move rfl rfl rfl ?_
  refine so_move rfl rfl rfl ?_
  refine so_lenS rfl rfl rfl rfl rfl rfl Try.underlying9 ?_
  refine so_bin rfl rfl rfl rfl (by first | exact bin_sub (c := ((5 : Nat) : Int)) (by decide) | exact bin_decr (by omega) | exact bin_sub (wrap64 (by omega) (by omega)) | exact bin_sub rfl) ?_
  refine so_strAt (j := 5) rfl rfl rfl rfl Try.underlying9 rfl ?_
  refine so_bin rfl rfl rfl rfl (by first | exact bin_sub (c := ((1 : Nat) : Int)) (by decide) | exact bin_decr (by omega) | exact bin_sub (wrap64 (by omega) (by omega)) | exact bin_sub rfl) ?_
  refine so_convI (b := ((1 : Nat) : Int)) rfl rfl rfl Try.underlying5 Try.underlying3 (by decide) ?_
  refine so_assign rfl rfl rfl ?_
  refine so_then ?_
  refine sx_seq ?_
  refine sx_region (E := E) ?_
  refine so_move rfl rfl rfl ?_
  refine so_move rfl rfl rfl ?_
  first | refine so_nilCheck rfl rfl rfl ?_ | refine so_nilCheckF rfl rfl rfl ?_
  refine so_fieldO (o' := 8) rfl rfl rfl Try.underlying48 rfl inf38 rfl rfl ?_
  refine so_fieldO (o' := 35) rfl rfl rfl Try.underlying38 rfl inf22 rfl rfl ?_
  refine so_load rfl rfl rfl (by first | exact ld_data Try.underlying22 rfl (InA.own rfl) ((aload_own hN _ _).trans h35) | exact ld_own Try.underlying22 rfl (by repeat (first | exact List.Mem.head _ | apply List.Mem.tail)) (by first | exact cellsOf_get rfl | rfl) | exact ld_data Try.underlying22 rfl (by first | assumption | exact InA.add (by assumption) | exact InA.add (InA.add (by assumption))) (by assumption)) ?_
  refine so_lenL rfl rfl rfl rfl rfl rfl Try.underlying22 ?_
  refine so_bin rfl rfl rfl rfl (by first | exact bin_lss_t (by omega) | exact bin_lss_f (by omega)) ?_
  refine so_then ?_
  refine sx_false rfl ?_
  refine sx_skip ?_
  refine sk_block ?_
  refine sk_then ?_
  refine sx_seq ?_
  refine sx_region (E := E) ?_
  refine so_assign rfl rfl rfl ?_
  refine so_then ?_
  refine sx_ret ?_
  refine sk_return1 (.tmp rfl .nil) ?_
  exact fun H hH => ⟨rfl, hH.kept⟩

theorem field_param2_lt {S : AH} {N sz np cap : Nat} {cs : List Value} {ex : Bool} {pa : Addr} (hlt : N < S.nx) (hN : S.tr.get N = some (.cells cs sz ex)) (h35 : cs[35]? = some (.slice (some pa) np cap)) (hk : 2 < np) : XCall Try.prog 22 [.pointer (some ⟨2 * N + 1, 0, none⟩), .string ⟨⟨[112, 97, 114, 97, 109, 50]⟩⟩] S fun v H' => v = .pointer (some (pa.add (2 * 1))) ∧ Kept S.nx S H' := by
  refine x_enter (E := E) (n := 125) (rs := [.tmp 4]) (l := [(1, _), (0, _)]) (fn_own Try.func22 rfl rfl rfl) (A0 := fun j => j = N) (fun j h => by rw [h]; exact hlt) rfl ?_
  refine sx_seq ?_
  refine sx_region (E := E) ?_
  refine so_assign rfl rfl rfl ?_
  refine so_then ?_
  refine sx_seq ?_
  refine sx_seq ?_
  refine sx_region (E := E) ?_
  refine so_move rfl rfl rfl ?_
  refine so_then ?_
  refine sx_block ?_
  refine sx_seq ?_
  refine sx_region (E := E) ?_
  refine so_bin rfl rfl rfl rfl (by first | exact bin_seql_t (by first | rfl | assumption | decide) | exact bin_seql_f (by first | rfl | assumption | decide)) ?_
  refine so_assign rfl rfl rfl ?_
  refine so_then ?_
  refine sx_false rfl ?_
  refine sx_seq ?_
  refine sx_region (E := E) ?_
  refine so_bin rfl rfl rfl rfl (by first | exact bin_seql_t (by first | rfl | assumption | decide) | exact bin_seql_f (by first | rfl | assumption | decide)) ?_
  refine so_assign rfl rfl rfl ?_
  refine so_then ?_
  refine sx_false rfl ?_
  refine sx_seq ?_
  refine sx_region (E := E) ?_
  refine so_bin rfl rfl rfl rfl (by first | exact bin_seql_t (by first | rfl | assumption | decide) | exact bin_seql_f (by first | rfl | assumption | decide)) ?_
  refine so_assign rfl rfl rfl ?_
  refine so_then ?_
  refine sx_false rfl ?_
  refine sx_seq ?_
  refine sx_region (E := E) ?_
  refine so_bin rfl rfl rfl rfl (by first | exact bin_seql_t (by first | rfl | assumption | decide) | exact bin_seql_f (by first | rfl | assumption | decide)) ?_
  refine so_assign rfl rfl rfl ?_
  refine so_then ?_
  refine sx_false rfl ?_
  refine sx_seq ?_
  refine sx_region (E := E) ?_
  refine so_bin rfl rfl rfl rfl (by first | exact bin_seql_t (by first | rfl | assumption | decide) | exact bin_seql_f (by first | rfl | assumption | decide)) ?_
  refine so_assign rfl rfl rfl ?_
  refine so_then ?_
  refine sx_false rfl ?_
  refine sx_seq ?_
  refine sx_region (E := E) ?_
  refine so_bin rfl rfl rfl rfl (by first | exact bin_seql_t (by first | rfl | assumption | decide) | exact bin_seql_f (by first | rfl | assumption | decide)) ?_
  refine so_assign rfl rfl rfl ?_
  refine so_then ?_
  refine sx_false rfl ?_
  refine sx_seq ?_
  refine sx_region (E := E) ?_
  refine so_bin rfl rfl rfl rfl (by first | exact bin_seql_t (by first | rfl | assumption | decide) | exact bin_seql_f (by first | rfl | assumption | decide)) ?_
  refine so_assign rfl rfl rfl ?_
  refine so_then ?_
  refine sx_false rfl ?_
  refine sx_seq ?_
  refine sx_region (E := E) ?_
  refine so_bin rfl rfl rfl rfl (by first | exact bin_seql_t (by first | rfl | assumption | decide) | exact bin_seql_f (by first | rfl | assumption | decide)) ?_
  refine so_assign rfl rfl rfl ?_
  refine so_then ?_
  refine sx_false rfl ?_
  refine sx_seq ?_
  refine sx_region (E := E) ?_
  refine so_bin rfl rfl rfl rfl (by first | exact bin_seql_t (by first | rfl | assumption | decide) | exact bin_seql_f (by first | rfl | assumption | decide)) ?_
  refine so_assign rfl rfl rfl ?_
  refine so_then ?_
  refine sx_false rfl ?_
  refine sx_seq ?_
  refine sx_region (E := E) ?_
  refine so_bin rfl rfl rfl rfl (by first | exact bin_seql_t (by first | rfl | assumption | decide) | exact bin_seql_f (by first | rfl | assumption | decide)) ?_
  refine so_assign rfl rfl rfl ?_
  refine so_then ?_
  refine sx_false rfl ?_
  refine sx_seq ?_
  refine sx_region (E := E) ?_
  refine so_bin rfl rfl rfl rfl (by first | exact bin_seql_t (by first | rfl | assumption | decide) | exact bin_seql_f (by first | rfl | assumption | decide)) ?_
  refine so_assign rfl rfl rfl ?_
  refine so_then ?_
  refine sx_false rfl ?_
  refine sx_seq ?_
  refine sx_region (E := E) ?_
  refine so_bin rfl rfl rfl rfl (by first | exact bin_seql_t (by first | rfl | assumption | decide) | exact bin_seql_f (by first | rfl | assumption | decide)) ?_
  refine so_assign rfl rfl rfl ?_
  refine so_then ?_
  refine sx_false rfl ?_
  refine sx_seq ?_
  refine sx_region (E := E) ?_
  refine so_bin rfl rfl rfl rfl (by first | exact bin_seql_t (by first | rfl | assumption | decide) | exact bin_seql_f (by first | rfl | assumption | decide)) ?_
  refine so_assign rfl rfl rfl ?_
  refine so_then ?_
  refine sx_false rfl ?_
  refine sx_seq ?_
  refine sx_region (E := E) ?_
  refine so_bin rfl rfl rfl rfl (by first | exact bin_seql_t (by first | rfl | assumption | decide) | exact bin_seql_f (by first | rfl | assumption | decide)) ?_
  refine so_assign rfl rfl rfl ?_
  refine so_then ?_
  refine sx_false rfl ?_
  refine sx_seq ?_
  refine sx_region (E := E) ?_
  refine so_bin rfl rfl rfl rfl (by first | exact bin_seql_t (by first | rfl | assumption | decide) | exact bin_seql_f (by first | rfl | assumption | decide)) ?_
  refine so_assign rfl rfl rfl ?_
  refine so_then ?_
  refine sx_false rfl ?_
  refine sx_seq ?_
  refine sx_region (E := E) ?_
  refine so_bin rfl rfl rfl rfl (by first | exact bin_seql_t (by first | rfl | assumption | decide) | exact bin_seql_f (by first | rfl | assumption | decide)) ?_
  refine so_assign rfl rfl rfl ?_
  refine so_then ?_
  refine sx_false rfl ?_
  refine sx_seq ?_
  refine sx_seq ?_
  refine sx_region (E := E) ?_
  refine so_bin rfl rfl rfl rfl (by first | exact bin_seql_t (by first | rfl | assumption | decide) | exact bin_seql_f (by first | rfl | assumption | decide)) ?_
  refine so_assign rfl rfl rfl ?_
  refine so_then ?_
  refine sx_false rfl ?_
  refine sx_seq ?_
  refine sx_region (E := E) ?_
  refine so_bin rfl rfl rfl rfl (by first | exact bin_seql_t (by first | rfl | assumption | decide) | exact bin_seql_f (by first | rfl | assumption | decide)) ?_
  refine so_assign rfl rfl rfl ?_
  refine so_then ?_
  refine sx_false rfl ?_
  refine sx_seq ?_
  refine sx_region (E := E) ?_
  refine so_bin rfl rfl rfl rfl (by first | exact bin_seql_t (by first | rfl | assumption | decide) | exact bin_seql_f (by first | rfl | assumption | decide)) ?_
  refine so_assign rfl rfl rfl ?_
  refine so_then ?_
  refine sx_true rfl ?_
  refine sx_skip ?_
  refine sk_then ?_
  refine sx_true rfl ?_
  refine sx_seq ?_
  refine sx_region (E := E) ?_
  refine so_move rfl rfl rfl ?_
  refine so_move rfl rfl rfl ?_
  refine so_lenS rfl rfl rfl rfl rfl rfl Try.underlying9 ?_
  refine so_bin rfl rfl rfl rfl (by first | exact bin_sub (c := ((5 : Nat) : Int)) (by decide) | exact bin_decr (by omega) | exact bin_sub (wrap64 (by omega) (by omega)) | exact bin_sub rfl) ?_
  refine so_strAt (j := 5) rfl rfl rfl rfl Try.underlying9 rfl ?_
  refine so_bin rfl rfl rfl rfl (by first | exact bin_sub (c := ((2 : Nat) : Int)) (by decide) | exact bin_decr (by omega) | exact bin_sub (wrap64 (by omega) (by omega)) | exact bin_sub rfl) ?_
  refine so_convI (b := ((2 : Nat) : Int)) rfl rfl rfl Try.underlying5 Try.underlying3 (by decide) ?_
  refine so_assign rfl rfl rfl ?_
  refine so_then ?_
  refine sx_seq ?_
  refine sx_region (E := E) ?_
  refine so_move rfl rfl rfl ?_
  refine so_move rfl rfl rfl ?_
  first | refine so_nilCheck rfl rfl rfl ?_ | refine so_nilCheckF rfl rfl rfl ?_
  refine so_fieldO (o' := 8) rfl rfl rfl Try.underlying48 rfl inf38 rfl rfl ?_
  refine so_fieldO (o' := 35) rfl rfl rfl Try.underlying38 rfl inf22 rfl rfl ?_
  refine so_load rfl rfl rfl (by first | exact ld_data Try.underlying22 rfl (InA.own rfl) ((aload_own hN _ _).trans h35) | exact ld_own Try.underlying22 rfl (by repeat (first | exact List.Mem.head _ | apply List.Mem.tail)) (by first | exact cellsOf_get rfl | rfl) | exact ld_data Try.underlying22 rfl (by first | assumption | exact InA.add (by assumption) | exact InA.add (InA.add (by assumption))) (by assumption)) ?_
  refine so_lenL rfl rfl rfl rfl rfl rfl Try.underlying22 ?_
  refine so_bin rfl rfl rfl rfl (by first | exact bin_lss_t (by omega) | exact bin_lss_f (by omega)) ?_
  refine so_then ?_
  refine sx_true rfl ?_
  refine sx_seq ?_
  refine sx_region (E := E) ?_
  refine so_move rfl rfl rfl ?_
  first | refine so_nilCheck rfl rfl rfl ?_ | refine so_nilCheckF rfl rfl rfl ?_
  refine so_fieldO (o' := 8) rfl rfl rfl Try.underlying48 rfl inf38 rfl rfl ?_
  refine so_fieldO (o' := 35) rfl rfl rfl Try.underlying38 rfl inf22 rfl rfl ?_
  refine so_load rfl rfl rfl (by first | exact ld_data Try.underlying22 rfl (InA.own rfl) ((aload_own hN _ _).trans h35) | exact ld_own Try.underlying22 rfl (by repeat (first | exact List.Mem.head _ | apply List.Mem.tail)) (by first | exact cellsOf_get rfl | rfl) | exact ld_data Try.underlying22 rfl (by first | assumption | exact InA.add (by assumption) | exact InA.add (InA.add (by assumption))) (by assumption)) ?_
  refine so_move rfl rfl rfl ?_
  refine so_index rfl rfl rfl rfl Try.underlying22 inf3 rfl hk ?_
  refine so_assign rfl rfl rfl ?_
  refine so_then ?_
  refine sx_ret ?_
  refine sk_block_ret ?_
  refine sk_then_ret ?_
  refine sk_return1 (.tmp rfl .nil) ?_
  exact fun H hH => ⟨rfl, hH.kept⟩

theorem field_param2_ge {S : AH} {N sz np cap : Nat} {cs : List Value} {ex : Bool} {pa : Option Addr} (hlt : N < S.nx) (hN : S.tr.get N = some (.cells cs sz ex)) (h35 : cs[35]? = some (.slice pa np cap)) (hk : np ≤ 2) : XCall Try.prog 22 [.pointer (some ⟨2 * N + 1, 0, none⟩), .string ⟨⟨[112, 97, 114, 97, 109, 50]⟩⟩] S fun v H' => v = .pointer none ∧ Kept S.nx S H' := by
  refine x_enter (E := E) (n := 125) (rs := [.tmp 4]) (l := [(1, _), (0, _)]) (fn_own Try.func22 rfl rfl rfl) (A0 := fun j => j = N) (fun j h => by rw [h]; exact hlt) rfl ?_
  refine sx_seq ?_
  refine sx_region (E := E) ?_
  refine so_assign rfl rfl rfl ?_
  refine so_then ?_
  refine sx_seq ?_
  refine sx_seq ?_
  refine sx_region (E := E) ?_
  refine so_move rfl rfl rfl ?_
  refine so_then ?_
  refine sx_block ?_
  refine sx_seq ?_
  refine sx_region (E := E) ?_
  refine so_bin rfl rfl rfl rfl (by first | exact bin_seql_t (by first | rfl | assumption | decide) | exact bin_seql_f (by first | rfl | assumption | decide)) ?_
  refine so_assign rfl rfl rfl ?_
  refine so_then ?_
  refine sx_false rfl ?_
  refine sx_seq ?_
  refine sx_region (E := E) ?_
  refine so_bin rfl rfl rfl rfl (by first | exact bin_seql_t (by first | rfl | assumption | decide) | exact bin_seql_f (by first | rfl | assumption | decide)) ?_
  refine so_assign rfl rfl rfl ?_
  refine so_then ?_
  refine sx_false rfl ?_
  refine sx_seq ?_
  refine sx_region (E := E) ?_
  refine so_bin rfl rfl rfl rfl (by first | exact bin_seql_t (by first | rfl | assumption | decide) | exact bin_seql_f (by first | rfl | assumption | decide)) ?_
  refine so_assign rfl rfl rfl ?_
  refine so_then ?_
  refine sx_false rfl ?_
  refine sx_seq ?_
  refine sx_region (E := E) ?_
  refine so_bin rfl rfl rfl rfl (by first | exact bin_seql_t (by first | rfl | assumption | decide) | exact bin_seql_f (by first | rfl | assumption | decide)) ?_
  refine so_assign rfl rfl rfl ?_
  refine so_then ?_
  refine sx_false rfl ?_
  refine sx_seq ?_
  refine sx_region (E := E) ?_
  refine so_bin rfl rfl rfl rfl (by first | exact bin_seql_t (by first | rfl | assumption | decide) | exact bin_seql_f (by first | rfl | assumption | decide)) ?_
  refine so_assign rfl rfl rfl ?_
  refine so_then ?_
  refine sx_false rfl ?_
  refine sx_seq ?_
  refine sx_region (E := E) ?_
  refine so_bin rfl rfl rfl rfl (by first | exact bin_seql_t (by first | rfl | assumption | decide) | exact bin_seql_f (by first | rfl | assumption | decide)) ?_
  refine so_assign rfl rfl rfl ?_
  refine so_then ?_
  refine sx_false rfl ?_
  refine sx_seq ?_
  refine sx_region (E := E) ?_
  refine so_bin rfl rfl rfl rfl (by first | exact bin_seql_t (by first | rfl | assumption | decide) | exact bin_seql_f (by first | rfl | assumption | decide)) ?_
  refine so_assign rfl rfl rfl ?_
  refine so_then ?_
  refine sx_false rfl ?_
  refine sx_seq ?_
  refine sx_region (E := E) ?_
  refine so_bin rfl rfl rfl rfl (by first | exact bin_seql_t (by first | rfl | assumption | decide) | exact bin_seql_f (by first | rfl | assumption | decide)) ?_
  refine so_assign rfl rfl rfl ?_
  refine so_then ?_
  refine sx_false rfl ?_
  refine sx_seq ?_
  refine sx_region (E := E) ?_
  refine so_bin rfl rfl rfl rfl (by first | exact bin_seql_t (by first | rfl | assumption | decide) | exact bin_seql_f (by first | rfl | assumption | decide)) ?_
  refine so_assign rfl rfl rfl ?_
  refine so_then ?_
  refine sx_false rfl ?_
  refine sx_seq ?_
  refine sx_region (E := E) ?_
  refine so_bin rfl rfl rfl rfl (by first | exact bin_seql_t (by first | rfl | assumption | decide) | exact bin_seql_f (by first | rfl | assumption | decide)) ?_
  refine so_assign rfl rfl rfl ?_
  refine so_then ?_
  refine sx_false rfl ?_
  refine sx_seq ?_
  refine sx_region (E := E) ?_
  refine so_bin rfl rfl rfl rfl (by first | exact bin_seql_t (by first | rfl | assumption | decide) | exact bin_seql_f (by first | rfl | assumption | decide)) ?_
  refine so_assign rfl rfl rfl ?_
  refine so_then ?_
  refine sx_false rfl ?_
  refine sx_seq ?_
  refine sx_region (E := E) ?_
  refine so_bin rfl rfl rfl rfl (by first | exact bin_seql_t (by first | rfl | assumption | decide) | exact bin_seql_f (by first | rfl | assumption | decide)) ?_
  refine so_assign rfl rfl rfl ?_
  refine so_then ?_
  refine sx_false rfl ?_
  refine sx_seq ?_
  refine sx_region (E := E) ?_
  refine so_bin rfl rfl rfl rfl (by first | exact bin_seql_t (by first | rfl | assumption | decide) | exact bin_seql_f (by first | rfl | assumption | decide)) ?_
  refine so_assign rfl rfl rfl ?_
  refine so_then ?_
  refine sx_false rfl ?_
  refine sx_seq ?_
  refine sx_region (E := E) ?_
  refine so_bin rfl rfl rfl rfl (by first | exact bin_seql_t (by first | rfl | assumption | decide) | exact bin_seql_f (by first | rfl | assumption | decide)) ?_
  refine so_assign rfl rfl rfl ?_
  refine so_then ?_
  refine sx_false rfl ?_
  refine sx_seq ?_
  refine sx_region (E := E) ?_
  refine so_bin rfl rfl rfl rfl (by first | exact bin_seql_t (by first | rfl | assumption | decide) | exact bin_seql_f (by first | rfl | assumption | decide)) ?_
  refine so_assign rfl rfl rfl ?_
  refine so_then ?_
  refine sx_false rfl ?_
  refine sx_seq ?_
  refine sx_region (E := E) ?_
  refine so_bin rfl rfl rfl rfl (by first | exact bin_seql_t (by first | rfl | assumption | decide) | exact bin_seql_f (by first | rfl | assumption | decide)) ?_
  refine so_assign rfl rfl rfl ?_
  refine so_then ?_
  refine sx_false rfl ?_
  refine sx_seq ?_
  refine sx_seq ?_
  refine sx_region (E := E) ?_
  refine so_bin rfl rfl rfl rfl (by first | exact bin_seql_t (by first | rfl | assumption | decide) | exact bin_seql_f (by first | rfl | assumption | decide)) ?_
  refine so_assign rfl rfl rfl ?_
  refine so_then ?_
  refine sx_false rfl ?_
  refine sx_seq ?_
  refine sx_region (E := E) ?_
  refine so_bin rfl rfl rfl rfl (by first | exact bin_seql_t (by first | rfl | assumption | decide) | exact bin_seql_f (by first | rfl | assumption | decide)) ?_
  refine so_assign rfl rfl rfl ?_
  refine so_then ?_
  refine sx_false rfl ?_
  refine sx_seq ?_
  refine sx_region (E := E) ?_
  refine so_bin rfl rfl rfl rfl (by first | exact bin_seql_t (by first | rfl | assumption | decide) | exact bin_seql_f (by first | rfl | assumption | decide)) ?_
  refine so_assign rfl rfl rfl ?_
  refine so_then ?_
  refine sx_true rfl ?_
  refine sx_skip ?_
  refine sk_then ?_
  refine sx_true rfl ?_
  refine sx_seq ?_
  refine sx_region (E := E) ?_
  refine so_move rfl rfl rfl ?_
  refine so_move rfl rfl rfl ?_
  refine so_lenS rfl rfl rfl rfl rfl rfl Try.underlying9 ?_
  refine so_bin rfl rfl rfl rfl (by first | exact bin_sub (c := ((5 : Nat) : Int)) (by decide) | exact bin_decr (by omega) | exact bin_sub (wrap64 (by omega) (by omega)) | exact bin_sub rfl) ?_
  refine so_strAt (j := 5) rfl rfl rfl rfl Try.underlying9 rfl ?_
  refine so_bin rfl rfl rfl rfl (by first | exact bin_sub (c := ((2 : Nat) : Int)) (by decide) | exact bin_decr (by omega) | exact bin_sub (wrap64 (by omega) (by omega)) | exact bin_sub rfl) ?_
  refine so_convI (b := ((2 : Nat) : Int)) rfl rfl rfl Try.underlying5 Try.underlying3 (by decide) ?_
  refine so_assign rfl rfl rfl ?_
  refine so_then ?_
  refine sx_seq ?_
  refine sx_region (E := E) ?_
  refine so_move rfl rfl rfl ?_
  refine so_move rfl rfl rfl ?_
  first | refine so_nilCheck rfl rfl rfl ?_ | refine so_nilCheckF rfl rfl rfl ?_
  refine so_fieldO (o' := 8) rfl rfl rfl Try.underlying48 rfl inf38 rfl rfl ?_
  refine so_fieldO (o' := 35) rfl rfl rfl Try.underlying38 rfl inf22 rfl rfl ?_
  refine so_load rfl rfl rfl (by first | exact ld_data Try.underlying22 rfl (InA.own rfl) ((aload_own hN _ _).trans h35) | exact ld_own Try.underlying22 rfl (by repeat (first | exact List.Mem.head _ | apply List.Mem.tail)) (by first | exact cellsOf_get rfl | rfl) | exact ld_data Try.underlying22 rfl (by first | assumption | exact InA.add (by assumption) | exact InA.add (InA.add (by assumption))) (by assumption)) ?_
  refine so_lenL rfl rfl rfl rfl rfl rfl Try.underlying22 ?_
  refine so_bin rfl rfl rfl rfl (by first | exact bin_lss_t (by omega) | exact bin_lss_f (by omega)) ?_
  refine so_then ?_
  refine sx_false rfl ?_
  refine sx_skip ?_
  refine sk_block ?_
  refine sk_then ?_
  refine sx_seq ?_
  refine sx_region (E := E) ?_
  refine so_assign rfl rfl rfl ?_
  refine so_then ?_
  refine sx_ret ?_
  refine sk_return1 (.tmp rfl .nil) ?_
  exact fun H hH => ⟨rfl, hH.kept⟩

theorem field_param3_lt {S : AH} {N sz np cap : Nat} {cs : List Value} {ex : Bool} {pa : Addr} (hlt : N < S.nx) (hN : S.tr.get N = some (.cells cs sz ex)) (h35 : cs[35]? = some (.slice (some pa) np cap)) (hk : 3 < np) : XCall Try.prog 22 [.pointer (some ⟨2 * N + 1, 0, none⟩), .string ⟨⟨[112, 97, 114, 97, 109, 51]⟩⟩] S fun v H' => v = .pointer (some (pa.add (3 * 1))) ∧ Kept S.nx S H' := by
  refine x_enter (E := E) (n := 125) (rs := [.tmp 4]) (l := [(1, _), (0, _)]) (fn_own Try.func22 rfl rfl rfl) (A0 := fun j => j = N) (fun j h => by rw [h]; exact hlt) rfl ?_
  refine sx_seq ?_
  refine sx_region (E := E) ?_
  refine so_assign rfl rfl rfl ?_
  refine so_then ?_
  refine sx_seq ?_
  refine sx_seq ?_
  refine sx_region (E := E) ?_
  refine so_move rfl rfl rfl ?_
  refine so_then ?_
  refine sx_block ?_
  refine sx_seq ?_
  refine sx_region (E := E) ?_
  refine so_bin rfl rfl rfl rfl (by first | exact bin_seql_t (by first | rfl | assumption | decide) | exact bin_seql_f (by first | rfl | assumption | decide)) ?_
  refine so_assign rfl rfl rfl ?_
  refine so_then ?_
  refine sx_false rfl ?_
  refine sx_seq ?_
  refine sx_region (E := E) ?_
  refine so_bin rfl rfl rfl rfl (by first | exact bin_seql_t (by first | rfl | assumption | decide) | exact bin_seql_f (by first | rfl | assumption | decide)) ?_
  refine so_assign rfl rfl rfl ?_
  refine so_then ?_
  refine sx_false rfl ?_
  refine sx_seq ?_
  refine sx_region (E := E) ?_
  refine so_bin rfl rfl rfl rfl (by first | exact bin_seql_t (by first | rfl | assumption | decide) | exact bin_seql_f (by first | rfl | assumption | decide)) ?_
  refine so_assign rfl rfl rfl ?_
  refine so_then ?_
  refine sx_false rfl ?_
  refine sx_seq ?_
  refine sx_region (E := E) ?_
  refine so_bin rfl rfl rfl rfl (by first | exact bin_seql_t (by first | rfl | assumption | decide) | exact bin_seql_f (by first | rfl | assumption | decide)) ?_
  refine so_assign rfl rfl rfl ?_
  refine so_then ?_
  refine sx_false rfl ?_
  refine sx_seq ?_
  refine sx_region (E := E) ?_
  refine so_bin rfl rfl rfl rfl (by first | exact bin_seql_t (by first | rfl | assumption | decide) | exact bin_seql_f (by first | rfl | assumption | decide)) ?_
  refine so_assign rfl rfl rfl ?_
  refine so_then ?_
  refine sx_false rfl ?_
  refine sx_seq ?_
  refine sx_region (E := E) ?_
  refine so_bin rfl rfl rfl rfl (by first | exact bin_seql_t (by first | rfl | assumption | decide) | exact bin_seql_f (by first | rfl | assumption | decide)) ?_
  refine so_assign rfl rfl rfl ?_
  refine so_then ?_
  refine sx_false rfl ?_
  refine sx_seq ?_
  refine sx_region (E := E) ?_
  refine so_bin rfl rfl rfl rfl (by first | exact bin_seql_t (by first | rfl | assumption | decide) | exact bin_seql_f (by first | rfl | assumption | decide)) ?_
  refine so_assign rfl rfl rfl ?_
  refine so_then ?_
  refine sx_false rfl ?_
  refine sx_seq ?_
  refine sx_region (E := E) ?_
  refine so_bin rfl rfl rfl rfl (by first | exact bin_seql_t (by first | rfl | assumption | decide) | exact bin_seql_f (by first | rfl | assumption | decide)) ?_
  refine so_assign rfl rfl rfl ?_
  refine so_then ?_
  refine sx_false rfl ?_
  refine sx_seq ?_
  refine sx_region (E := E) ?_
  refine so_bin rfl rfl rfl rfl (by first | exact bin_seql_t (by first | rfl | assumption | decide) | exact bin_seql_f (by first | rfl | assumption | decide)) ?_
  refine so_assign rfl rfl rfl ?_
  refine so_then ?_
  refine sx_false rfl ?_
  refine sx_seq ?_
  refine sx_region (E := E) ?_
  refine so_bin rfl rfl rfl rfl (by first | exact bin_seql_t (by first | rfl | assumption | decide) | exact bin_seql_f (by first | rfl | assumption | decide)) ?_
  refine so_assign rfl rfl rfl ?_
  refine so_then ?_
  refine sx_false rfl ?_
  refine sx_seq ?_
  refine sx_region (E := E) ?_
  refine so_bin rfl rfl rfl rfl (by first | exact bin_seql_t (by first | rfl | assumption | decide) | exact bin_seql_f (by first | rfl | assumption | decide)) ?_
  refine so_assign rfl rfl rfl ?_
  refine so_then ?_
  refine sx_false rfl ?_
  refine sx_seq ?_
  refine sx_region (E := E) ?_
  refine so_bin rfl rfl rfl rfl (by first | exact bin_seql_t (by first | rfl | assumption | decide) | exact bin_seql_f (by first | rfl | assumption | decide)) ?_
  refine so_assign rfl rfl rfl ?_
  refine so_then ?_
  refine sx_false rfl ?_
  refine sx_seq ?_
  refine sx_region (E := E) ?_
  refine so_bin rfl rfl rfl rfl (by first | exact bin_seql_t (by first | rfl | assumption | decide) | exact bin_seql_f (by first | rfl | assumption | decide)) ?_
  refine so_assign rfl rfl rfl ?_
  refine so_then ?_
  refine sx_false rfl ?_
  refine sx_seq ?_
  refine sx_region (E := E) ?_
  refine so_bin rfl rfl rfl rfl (by first | exact bin_seql_t (by first | rfl | assumption | decide) | exact bin_seql_f (by first | rfl | assumption | decide)) ?_
  refine so_assign rfl rfl rfl ?_
  refine so_then ?_
  refine sx_false rfl ?_
  refine sx_seq ?_
  refine sx_region (E := E) ?_
  refine so_bin rfl rfl rfl rfl (by first | exact bin_seql_t (by first | rfl | assumption | decide) | exact bin_seql_f (by first | rfl | assumption | decide)) ?_
  refine so_assign rfl rfl rfl ?_
  refine so_then ?_
  refine sx_false rfl ?_
  refine sx_seq ?_
  refine sx_region (E := E) ?_
  refine so_bin rfl rfl rfl rfl (by first | exact bin_seql_t (by first | rfl | assumption | decide) | exact bin_seql_f (by first | rfl | assumption | decide)) ?_
  refine so_assign rfl rfl rfl ?_
  refine so_then ?_
  refine sx_false rfl ?_
  refine sx_seq ?_
  refine sx_seq ?_
  refine sx_region (E := E) ?_
  refine so_bin rfl rfl rfl rfl (by first | exact bin_seql_t (by first | rfl | assumption | decide) | exact bin_seql_f (by first | rfl | assumption | decide)) ?_
  refine so_assign rfl rfl rfl ?_
  refine so_then ?_
  refine sx_false rfl ?_
  refine sx_seq ?_
  refine sx_region (E := E) ?_
  refine so_bin rfl rfl rfl rfl (by first | exact bin_seql_t (by first | rfl | assumption | decide) | exact bin_seql_f (by first | rfl | assumption | decide)) ?_
  refine so_assign rfl rfl rfl ?_
  refine so_then ?_
  refine sx_false rfl ?_
  refine sx_seq ?_
  refine sx_region (E := E) ?_
  refine so_bin rfl rfl rfl rfl (by first | exact bin_seql_t (by first | rfl | assumption | decide) | exact bin_seql_f (by first | rfl | assumption | decide)) ?_
  refine so_assign rfl rfl rfl ?_
  refine so_then ?_
  refine sx_false rfl ?_
  refine sx_region (E := E) ?_
  refine so_bin rfl rfl rfl rfl (by first | exact bin_seql_t (by first | rfl | assumption | decide) | exact bin_seql_f (by first | rfl | assumption | decide)) ?_
  refine so_assign rfl rfl rfl ?_
  refine so_then ?_
  refine sx_true rfl ?_
  refine sx_seq ?_
  refine sx_region (E := E) ?_
  refine so_move rfl rfl rfl ?_
  refine so_move rfl rfl rfl ?_
  refine so_lenS rfl rfl rfl rfl rfl rfl Try.underlying9 ?_
  refine so_bin rfl rfl rfl rfl (by first | exact bin_sub (c := ((5 : Nat) : Int)) (by decide) | exact bin_decr (by omega) | exact bin_sub (wrap64 (by omega) (by omega)) | exact bin_sub rfl) ?_
  refine so_strAt (j := 5) rfl rfl rfl rfl Try.underlying9 rfl ?_
  refine so_bin rfl rfl rfl rfl (by first | exact bin_sub (c := ((3 : Nat) : Int)) (by decide) | exact bin_decr (by omega) | exact bin_sub (wrap64 (by omega) (by omega)) | exact bin_sub rfl) ?_
  refine so_convI (b := ((3 : Nat) : Int)) rfl rfl rfl Try.underlying5 Try.underlying3 (by decide) ?_
  refine so_assign rfl rfl rfl ?_
  refine so_then ?_
  refine sx_seq ?_
  refine sx_region (E := E) ?_
  refine so_move rfl rfl rfl ?_
  refine so_move rfl rfl rfl ?_
  first | refine so_nilCheck rfl rfl rfl ?_ | refine so_nilCheckF rfl rfl rfl ?_
  refine so_fieldO (o' := 8) rfl rfl rfl Try.underlying48 rfl inf38 rfl rfl ?_
  refine so_fieldO (o' := 35) rfl rfl rfl Try.underlying38 rfl inf22 rfl rfl ?_
  refine so_load rfl rfl rfl (by first | exact ld_data Try.underlying22 rfl (InA.own rfl) ((aload_own hN _ _).trans h35) | exact ld_own Try.underlying22 rfl (by repeat (first | exact List.Mem.head _ | apply List.Mem.tail)) (by first | exact cellsOf_get rfl | rfl) | exact ld_data Try.underlying22 rfl (by first | assumption | exact InA.add (by assumption) | exact InA.add (InA.add (by assumption))) (by assumption)) ?_
  refine so_lenL rfl rfl rfl rfl rfl rfl Try.underlying22 ?_
  refine so_bin rfl rfl rfl rfl (by first | exact bin_lss_t (by omega) | exact bin_lss_f (by omega)) ?_
  refine so_then ?_
  refine sx_true rfl ?_
  refine sx_seq ?_
  refine sx_region (E := E) ?_
  refine so_move rfl rfl rfl ?_
  first | refine so_nilCheck rfl rfl rfl ?_ | refine so_nilCheckF rfl rfl rfl ?_
  refine so_fieldO (o' := 8) rfl rfl rfl Try.underlying48 rfl inf38 rfl rfl ?_
  refine so_fieldO (o' := 35) rfl rfl rfl Try.underlying38 rfl inf22 rfl rfl ?_
  refine so_load rfl rfl rfl (by first | exact ld_data Try.underlying22 rfl (InA.own rfl) ((aload_own hN _ _).trans h35) | exact ld_own Try.underlying22 rfl (by repeat (first | exact List.Mem.head _ | apply List.Mem.tail)) (by first | exact cellsOf_get rfl | rfl) | exact ld_data Try.underlying22 rfl (by first | assumption | exact InA.add (by assumption) | exact InA.add (InA.add (by assumption))) (by assumption)) ?_
  refine so_move rfl rfl rfl ?_
  refine so_index rfl rfl rfl rfl Try.underlying22 inf3 rfl hk ?_
  refine so_assign rfl rfl rfl ?_
  refine so_then ?_
  refine sx_ret ?_
  refine sk_block_ret ?_
  refine sk_then_ret ?_
  refine sk_return1 (.tmp rfl .nil) ?_
  exact fun H hH => ⟨rfl, hH.kept⟩

theorem field_param3_ge {S : AH} {N sz np cap : Nat} {cs : List Value} {ex : Bool} {pa : Option Addr} (hlt : N < S.nx) (hN : S.tr.get N = some (.cells cs sz ex)) (h35 : cs[35]? = some (.slice pa np cap)) (hk : np ≤ 3) : XCall Try.prog 22 [.pointer (some ⟨2 * N + 1, 0, none⟩), .string ⟨⟨[112, 97, 114, 97, 109, 51]⟩⟩] S fun v H' => v = .pointer none ∧ Kept S.nx S H' := by
  refine x_enter (E := E) (n := 125) (rs := [.tmp 4]) (l := [(1, _), (0, _)]) (fn_own Try.func22 rfl rfl rfl) (A0 := fun j => j = N) (fun j h => by rw [h]; exact hlt) rfl ?_
  refine sx_seq ?_
  refine sx_region (E := E) ?_
  refine so_assign rfl rfl rfl ?_
  refine so_then ?_
  refine sx_seq ?_
  refine sx_seq ?_
  refine sx_region (E := E) ?_
  refine so_move rfl rfl rfl ?_
  refine so_then ?_
  refine sx_block ?_
  refine sx_seq ?_
  refine sx_region (E := E) ?_
  refine so_bin rfl rfl rfl rfl (by first | exact bin_seql_t (by first | rfl | assumption | decide) | exact bin_seql_f (by first | rfl | assumption | decide)) ?_
  refine so_assign rfl rfl rfl ?_
  refine so_then ?_
  refine sx_false rfl ?_
  refine sx_seq ?_
  refine sx_region (E := E) ?_
  refine so_bin rfl rfl rfl rfl (by first | exact bin_seql_t (by first | rfl | assumption | decide) | exact bin_seql_f (by first | rfl | assumption | decide)) ?_
  refine so_assign rfl rfl rfl ?_
  refine so_then ?_
  refine sx_false rfl ?_
  refine sx_seq ?_
  refine sx_region (E := E) ?_
  refine so_bin rfl rfl rfl rfl (by first | exact bin_seql_t (by first | rfl | assumption | decide) | exact bin_seql_f (by first | rfl | assumption | decide)) ?_
  refine so_assign rfl rfl rfl ?_
  refine so_then ?_
  refine sx_false rfl ?_
  refine sx_seq ?_
  refine sx_region (E := E) ?_
  refine so_bin rfl rfl rfl rfl (by first | exact bin_seql_t (by first | rfl | assumption | decide) | exact bin_seql_f (by first | rfl | assumption | decide)) ?_
  refine so_assign rfl rfl rfl ?_
  refine so_then ?_
  refine sx_false rfl ?_
  refine sx_seq ?_
  refine sx_region (E := E) ?_
  refine so_bin rfl rfl rfl rfl (by first | exact bin_seql_t (by first | rfl | assumption | decide) | exact bin_seql_f (by first | rfl | assumption | decide)) ?_
  refine so_assign rfl rfl rfl ?_
  refine so_then ?_
  refine sx_false rfl ?_
  refine sx_seq ?_
  refine sx_region (E := E) ?_
  refine so_bin rfl rfl rfl rfl (by first | exact bin_seql_t (by first | rfl | assumption | decide) | exact bin_seql_f (by first | rfl | assumption | decide)) ?_
  refine so_assign rfl rfl rfl ?_
  refine so_then ?_
  refine sx_false rfl ?_
  refine sx_seq ?_
  refine sx_region (E := E) ?_
  refine so_bin rfl rfl rfl rfl (by first | exact bin_seql_t (by first | rfl | assumption | decide) | exact bin_seql_f (by first | rfl | assumption | decide)) ?_
  refine so_assign rfl rfl rfl ?_
  refine so_then ?_
  refine sx_false rfl ?_
  refine sx_seq ?_
  refine sx_region (E := E) ?_
  refine so_bin rfl rfl rfl rfl (by first | exact bin_seql_t (by first | rfl | assumption | decide) | exact bin_seql_f (by first | rfl | assumption | decide)) ?_
  refine so_assign rfl rfl rfl ?_
  refine so_then ?_
  refine sx_false rfl ?_
  refine sx_seq ?_
  refine sx_region (E := E) ?_
  refine so_bin rfl rfl rfl rfl (by first | exact bin_seql_t (by first | rfl | assumption | decide) | exact bin_seql_f (by first | rfl | assumption | decide)) ?_
  refine so_assign rfl rfl rfl ?_
  refine so_then ?_
  refine sx_false rfl ?_
  refine sx_seq ?_
  refine sx_region (E := E) ?_
  refine so_bin rfl rfl rfl rfl (by first | exact bin_seql_t (by first | rfl | assumption | decide) | exact bin_seql_f (by first | rfl | assumption | decide)) ?_
  refine so_assign rfl rfl rfl ?_
  refine so_then ?_
  refine sx_false rfl ?_
  refine sx_seq ?_
  refine sx_region (E := E) ?_
  refine so_bin rfl rfl rfl rfl (by first | exact bin_seql_t (by first | rfl | assumption | decide) | exact bin_seql_f (by first | rfl | assumption | decide)) ?_
  refine so_assign rfl rfl rfl ?_
  refine so_then ?_
  refine sx_false rfl ?_
  refine sx_seq ?_
  refine sx_region (E := E) ?_
  refine so_bin rfl rfl rfl rfl (by first | exact bin_seql_t (by first | rfl | assumption | decide) | exact bin_seql_f (by first | rfl | assumption | decide)) ?_
  refine so_assign rfl rfl rfl ?_
  refine so_then ?_
  refine sx_false rfl ?_
  refine sx_seq ?_
  refine sx_region (E := E) ?_
  refine so_bin rfl rfl rfl rfl (by first | exact bin_seql_t (by first | rfl | assumption | decide) | exact bin_seql_f (by first | rfl | assumption | decide)) ?_
  refine so_assign rfl rfl rfl ?_
  refine so_then ?_
  refine sx_false rfl ?_
  refine sx_seq ?_
  refine sx_region (E := E) ?_
  refine so_bin rfl rfl rfl rfl (by first | exact bin_seql_t (by first | rfl | assumption | decide) | exact bin_seql_f (by first | rfl | assumption | decide)) ?_
  refine so_assign rfl rfl rfl ?_
  refine so_then ?_
  refine sx_false rfl ?_
  refine sx_seq ?_
  refine sx_region (E := E) ?_
  refine so_bin rfl rfl rfl rfl (by first | exact bin_seql_t (by first | rfl | assumption | decide) | exact bin_seql_f (by first | rfl | assumption | decide)) ?_
  refine so_assign rfl rfl rfl ?_
  refine so_then ?_
  refine sx_false rfl ?_
  refine sx_seq ?_
  refine sx_region (E := E) ?_
  refine so_bin rfl rfl rfl rfl (by first | exact bin_seql_t (by first | rfl | assumption | decide) | exact bin_seql_f (by first | rfl | assumption | decide)) ?_
  refine so_assign rfl rfl rfl ?_
  refine so_then ?_
  refine sx_false rfl ?_
  refine sx_seq ?_
  refine sx_seq ?_
  refine sx_region (E := E) ?_
  refine so_bin rfl rfl rfl rfl (by first | exact bin_seql_t (by first | rfl | assumption | decide) | exact bin_seql_f (by first | rfl | assumption | decide)) ?_
  refine so_assign rfl rfl rfl ?_
  refine so_then ?_
  refine sx_false rfl ?_
  refine sx_seq ?_
  refine sx_region (E := E) ?_
  refine so_bin rfl rfl rfl rfl (by first | exact bin_seql_t (by first | rfl | assumption | decide) | exact bin_seql_f (by first | rfl | assumption | decide)) ?_
  refine so_assign rfl rfl rfl ?_
  refine so_then ?_
  refine sx_false rfl ?_
  refine sx_seq ?_
  refine sx_region (E := E) ?_
  refine so_bin rfl rfl rfl rfl (by first | exact bin_seql_t (by first | rfl | assumption | decide) | exact bin_seql_f (by first | rfl | assumption | decide)) ?_
  refine so_assign rfl rfl rfl ?_
  refine so_then ?_
  refine sx_false rfl ?_
  refine sx_region (E := E) ?_
  refine so_bin rfl rfl rfl rfl (by first | exact bin_seql_t (by first | rfl | assumption | decide) | exact bin_seql_f (by first | rfl | assumption | decide)) ?_
  refine so_assign rfl rfl rfl ?_
  refine so_then ?_
  refine sx_true rfl ?_
  refine sx_seq ?_
  refine sx_region (E := E) ?_
  refine so_move rfl rfl rfl ?_
  refine so_move rfl rfl rfl ?_
  refine so_lenS rfl rfl rfl rfl rfl rfl Try.underlying9 ?_
  refine so_bin rfl rfl rfl rfl (by first | exact bin_sub (c := ((5 : Nat) : Int)) (by decide) | exact bin_decr (by omega) | exact bin_sub (wrap64 (by omega) (by omega)) | exact bin_sub rfl) ?_
  refine so_strAt (j := 5) rfl rfl rfl rfl Try.underlying9 rfl ?_
  refine so_bin rfl rfl rfl rfl (by first | exact bin_sub (c := ((3 : Nat) : Int)) (by decide) | exact bin_decr (by omega) | exact bin_sub (wrap64 (by omega) (by omega)) | exact bin_sub rfl) ?_
  refine so_convI (b := ((3 : Nat) : Int)) rfl rfl rfl Try.underlying5 Try.underlying3 (by decide) ?_
  refine so_assign rfl rfl rfl ?_
  refine so_then ?_
  refine sx_seq ?_
  refine sx_region (E := E) ?_
  refine so_move rfl rfl rfl ?_
  refine so_move rfl rfl rfl ?_
  first | refine so_nilCheck rfl rfl rfl ?_ | refine so_nilCheckF rfl rfl rfl ?_
  refine so_fieldO (o' := 8) rfl rfl rfl Try.underlying48 rfl inf38 rfl rfl ?_
  refine so_fieldO (o' := 35) rfl rfl rfl Try.underlying38 rfl inf22 rfl rfl ?_
  refine so_load rfl rfl rfl (by first | exact ld_data Try.underlying22 rfl (InA.own rfl) ((aload_own hN _ _).trans h35) | exact ld_own Try.underlying22 rfl (by repeat (first | exact List.Mem.head _ | apply List.Mem.tail)) (by first | exact cellsOf_get rfl | rfl) | exact ld_data Try.underlying22 rfl (by first | assumption | exact InA.add (by assumption) | exact InA.add (InA.add (by assumption))) (by assumption)) ?_
  refine so_lenL rfl rfl rfl rfl rfl rfl Try.underlying22 ?_
  refine so_bin rfl rfl rfl rfl (by first | exact bin_lss_t (by omega) | exact bin_lss_f (by omega)) ?_
  refine so_then ?_
  refine sx_false rfl ?_
  refine sx_skip ?_
  refine sk_block ?_
  refine sk_then ?_
  refine sx_seq ?_
  refine sx_region (E := E) ?_
  refine so_assign rfl rfl rfl ?_
  refine so_then ?_
  refine sx_ret ?_
  refine sk_return1 (.tmp rfl .nil) ?_
  exact fun H hH => ⟨rfl, hH.kept⟩

end Go.Proofs.Ytaedeadgbojmnaa
