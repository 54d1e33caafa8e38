/-
  Walks, laid by program.
-/
import Derived.Test.YtaedeadgbojmnaaG4
import Derived.Test.YtaedeadgbojmnaaD1
set_option linter.unusedVariables false
set_option linter.unusedSimpArgs false
set_option maxRecDepth 100000
namespace Go.Proofs.Ytaedeadgbojmnaa
open Go Go.AM
set_option maxHeartbeats 2000000 in
theorem batchChecks_ok {S : AH} {A : Nat → Prop} (hA : ∀ j, A j → j < S.nx) {x : Value} {l : List (List CT)} {bt : Nat} (hx : CellA A S (.row bt k51) x (.row l)) (hN : (pnames l).length ≤ 8796093000000) : XCall Try.prog 5 [x] S fun v H' => v = .bool true ∧ Kept S.nx S H' := by
  refine x_enter (E := E) (n := 23) (rs := [.tmp 2]) (l := [(0, _)]) (fn_own Try.func5 rfl rfl rfl) hA rfl ?_
  refine sx_seq ?_
  refine sx_region (E := E) ?_
  refine so_assign rfl rfl rfl ?_
  refine so_then ?_
  refine sx_seq ?_
  refine sx_region (E := E) ?_
  refine so_callF (fun u H' A' => CellA A' H' (.row 16 [.str]) u (.row (strs (fieldsL)))) rfl rfl (fun h => nomatch h) rfl has15 (by repeat (first | exact Opvs.nil | apply Opvs.cons rfl)) (fun H hH => fields_ok _) ?_
  intro u1 H1 A1 g1 hf1
  replace hx := CellA.gr g1 _ _ _ hx
  refine so_callF (fun u H' A' => CellA A' H' (.row 16 [.str]) u (.row (strs (fieldsL)))) rfl rfl (fun h => nomatch h) rfl has16 (by repeat (first | exact Opvs.nil | apply Opvs.cons rfl)) (fun H hH => rfields_ok _) ?_
  intro u2 H2 A2 g2 hf2
  replace hx := CellA.gr g2 _ _ _ hx
  replace hf1 := CellA.gr g2 _ _ _ hf1
  refine so_call rfl rfl (fun h => nomatch h) rfl has14 (by repeat (first | exact Opvs.nil | apply Opvs.cons rfl)) (fun H hH => sameTexts_ok hH.lt (CellA.gr hH.gr _ _ _ hf1) (CellA.gr hH.gr _ _ _ hf2)) ?_
  refine so_move rfl rfl rfl ?_
  first | refine so_move rfl rfl rfl ?_ | refine so_skip rfl rfl rfl ?_
  first | refine so_call rfl rfl (fun h => nomatch h) rfl has17 (by repeat (first | exact Opvs.nil | apply Opvs.cons rfl)) (fun H hH => check_ok hH.lt (CellA.gr hH.gr _ _ _ hx)) ?_ | refine so_skip rfl rfl rfl ?_
  first | refine so_move rfl rfl rfl ?_ | refine so_skip rfl rfl rfl ?_
  first | refine so_call rfl rfl (fun h => nomatch h) rfl has18 (by repeat (first | exact Opvs.nil | apply Opvs.cons rfl)) (fun H hH => rcheck_ok hH.lt (CellA.gr hH.gr _ _ _ hx)) ?_ | refine so_skip rfl rfl rfl ?_
  first | refine so_bin rfl rfl rfl rfl (by first | exact bin_eql_t (by first | rfl | assumption | omega) | exact bin_eql_f (by first | rfl | assumption | omega)) ?_ | refine so_skip rfl rfl rfl ?_
  first | refine so_pick_t rfl rfl rfl rfl ?_ | refine so_pick_f rfl rfl rfl rfl ?_
  refine so_move rfl rfl rfl ?_
  first | refine so_move rfl rfl rfl ?_ | refine so_skip rfl rfl rfl ?_
  first | refine so_callF (fun u H' A' => CellA A' H' (.row 16 [.str]) u (.row (strs (insAll (pnames l))))) rfl rfl (fun h => nomatch h) rfl has19 (by repeat (first | exact Opvs.nil | apply Opvs.cons rfl)) (fun H hH => params_ok hH.lt (CellA.gr hH.gr _ _ _ hx) hN) ?_ | refine so_skip rfl rfl rfl ?_
  intro u3 H3 A3 g3 hf3
  replace hx := CellA.gr g3 _ _ _ hx
  first | refine so_move rfl rfl rfl ?_ | refine so_skip rfl rfl rfl ?_
  first | refine so_callF (fun u H' A' => CellA A' H' (.row 16 [.str]) u (.row (strs (insAll (pnames l))))) rfl rfl (fun h => nomatch h) rfl has20 (by repeat (first | exact Opvs.nil | apply Opvs.cons rfl)) (fun H hH => rparams_ok hH.lt (CellA.gr hH.gr _ _ _ hx) hN) ?_ | refine so_skip rfl rfl rfl ?_
  intro u4 H4 A4 g4 hf4
  replace hf3 := CellA.gr g4 _ _ _ hf3
  first | refine so_call rfl rfl (fun h => nomatch h) rfl has14 (by repeat (first | exact Opvs.nil | apply Opvs.cons rfl)) (fun H hH => sameTexts_ok hH.lt (CellA.gr hH.gr _ _ _ hf3) (CellA.gr hH.gr _ _ _ hf4)) ?_ | refine so_skip rfl rfl rfl ?_
  first | refine so_pick_t rfl rfl rfl rfl ?_ | refine so_pick_f rfl rfl rfl rfl ?_
  refine so_move rfl rfl rfl ?_
  first | refine so_call rfl rfl (fun h => nomatch h) rfl has10 (by repeat (first | exact Opvs.nil | apply Opvs.cons rfl)) (fun H hH => example_ok H) ?_ | refine so_skip rfl rfl rfl ?_
  first | refine so_pick_t rfl rfl rfl rfl ?_ | refine so_pick_f rfl rfl rfl rfl ?_
  refine so_assign rfl rfl rfl ?_
  refine so_then ?_
  refine sx_ret ?_
  refine sk_return1 (.tmp rfl .nil) ?_
  exact fun H hH => ⟨rfl, hH.kept⟩

end Go.Proofs.Ytaedeadgbojmnaa
