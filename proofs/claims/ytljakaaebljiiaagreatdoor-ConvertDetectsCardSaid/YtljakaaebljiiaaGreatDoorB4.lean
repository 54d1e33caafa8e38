/-
  Walks, laid by program.
-/
import Derived.Test.YtljakaaebljiiaaGreatDoorB3
import Derived.Test.YtljakaaebljiiaaGreatDoorD1
set_option linter.unusedVariables false
set_option linter.unusedSimpArgs false
set_option maxRecDepth 100000
namespace Go.Proofs.YtljakaaebljiiaaGreatDoor
open Go Go.AM
theorem convertDetects_ok {S : AH} (q : ByteArray) : XCall Tryz.prog 3 [.string q] S fun v H' => v = .bool true ∧ Kept S.nx S H' := by
  refine x_enter (E := E) (n := 11) (rs := [.tmp 2]) (l := [(0, _)]) (fn_own Tryz.func3 rfl rfl rfl) (A0 := fun _ => False) (fun j h => h.elim) rfl ?_
  refine sx_seq ?_
  refine sx_region (E := E) ?_
  refine so_assign rfl rfl rfl ?_
  refine so_then ?_
  refine sx_seq ?_
  refine sx_region (E := E) ?_
  refine so_call rfl rfl (fun h => nomatch h) rfl has6 (by repeat (first | exact Opvs.nil | apply Opvs.cons rfl)) (fun H hH => awake_ok H) ?_
  refine so_move rfl rfl rfl ?_
  first | refine so_move rfl rfl rfl ?_ | refine so_skip rfl rfl rfl ?_
  first | refine so_call rfl rfl (fun h => nomatch h) rfl has7 (by repeat (first | exact Opvs.nil | apply Opvs.cons rfl)) (fun H hH => detect_ok q) ?_ | refine so_skip rfl rfl rfl ?_
  first | refine so_move rfl rfl rfl ?_ | refine so_skip rfl rfl rfl ?_
  first | refine so_call rfl rfl (fun h => nomatch h) rfl has8 (by repeat (first | exact Opvs.nil | apply Opvs.cons rfl)) (fun H hH => rdetect_ok q) ?_ | refine so_skip rfl rfl rfl ?_
  first | refine so_bin rfl rfl rfl rfl (by first | exact bin_eql_t rfl | exact bin_eql_t (by first | rfl | assumption | omega) | exact bin_eql_f (by first | rfl | assumption | omega)) ?_ | refine so_skip rfl rfl rfl ?_
  first | refine so_pick_t rfl rfl rfl rfl ?_ | refine so_pick_f rfl rfl rfl rfl ?_
  refine so_assign rfl rfl rfl ?_
  refine so_then ?_
  refine sx_ret ?_
  refine sk_return1 (.tmp rfl .nil) ?_
  exact fun H hH => ⟨rfl, hH.kept⟩

end Go.Proofs.YtljakaaebljiiaaGreatDoor
