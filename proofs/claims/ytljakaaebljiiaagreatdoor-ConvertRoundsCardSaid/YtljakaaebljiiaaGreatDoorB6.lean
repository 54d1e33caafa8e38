/-
  Walks, laid by program.
-/
import Derived.Test.YtljakaaebljiiaaGreatDoorB5
set_option linter.unusedVariables false
set_option linter.unusedSimpArgs false
set_option maxRecDepth 100000
namespace Go.Proofs.YtljakaaebljiiaaGreatDoor
open Go Go.AM

theorem aeq3 (d : Nat) (a b : Int) : aeq E (d + 1) 3 (.int .i64 a) (.int .i64 b) = some (a == b) := by
  have h3 : E.und 3 = _ := Tryz.underlying3
  rw [aeq.eq_def]
  simp only [h3, if_true]
theorem bin_pix {a b c d a' b' c' d' : Int} : abin E .eql 35 (.agg ⟨[.int .i64 a, .int .i64 b, .int .i64 c, .int .i64 d]⟩) (.agg ⟨[.int .i64 a', .int .i64 b', .int .i64 c', .int .i64 d']⟩) = some (.bool ((a == a') && ((b == b') && ((c == c') && (d == d'))))) := by
  have hu : E.und 35 = _ := Tryz.underlying35
  have ht : E.eqT 35 = true := by kernel_rfl
  have p0 : ∀ x y z w : Value, apart E 3 [x, y, z, w] 0 = some x := fun x y z w => by rfl
  have p1 : ∀ x y z w : Value, apart E 3 [x, y, z, w] 1 = some y := fun x y z w => by rfl
  have p2 : ∀ x y z w : Value, apart E 3 [x, y, z, w] 2 = some z := fun x y z w => by rfl
  have p3 : ∀ x y z w : Value, apart E 3 [x, y, z, w] 3 = some w := fun x y z w => by rfl
  have key : aeq E 9 35 (.agg ⟨[.int .i64 a, .int .i64 b, .int .i64 c, .int .i64 d]⟩) (.agg ⟨[.int .i64 a', .int .i64 b', .int .i64 c', .int .i64 d']⟩) = some ((a == a') && ((b == b') && ((c == c') && (d == d')))) := by
    rw [aeq.eq_def]
    simp only [hu, ht, cond_true, aeqFields, show ("R" == "_") = false by decide, show ("G" == "_") = false by decide, show ("B" == "_") = false by decide, show ("A" == "_") = false by decide, cond_false, p0, p1, p2, p3, aeq3]
    cases (a == a') <;> cases (b == b') <;> cases (c == c') <;> cases (d == d') <;> rfl
  simp only [abin, flatL, flat1, ht, Bool.and_self, cond_true, key, eqAs]
/-- a pixel whose values are all of 0 to 65535 -/
def pixOk (r g b a : Int) : Bool := (r == unitV r) && ((g == unitV g) && ((b == unitV b) && (a == unitV a)))
theorem pixOk_symm (r g b a : Int) : ((unitV r == r) && ((unitV g == g) && ((unitV b == b) && (unitV a == a)))) = pixOk r g b a := by
  unfold pixOk
  rw [BEq.comm (a := unitV r), BEq.comm (a := unitV g), BEq.comm (a := unitV b), BEq.comm (a := unitV a)]
theorem limit_ok {S : AH} (r g b a : Int) : XCall Tryz.prog 90 [.agg ⟨[.int .i64 r, .int .i64 g, .int .i64 b, .int .i64 a]⟩] S fun v H' => v = .agg ⟨[.int .i64 (unitV r), .int .i64 (unitV g), .int .i64 (unitV b), .int .i64 (unitV a)]⟩ ∧ Kept S.nx S H' := by
  refine x_enter (E := E) (n := 16) (rs := [.cell 2 35]) (l := [(0, _)]) (fn_own Tryz.func90 rfl rfl rfl) (A0 := fun _ => False) (fun j h => h.elim) rfl ?_
  refine sx_seq ?_
  refine sx_region (E := E) ?_
  refine so_boxA rfl rfl (fun h => nomatch h) rfl ?_
  intro N1
  refine so_alloc (cs := (.int .i64 0 :: .int .i64 0 :: .int .i64 0 :: .int .i64 0 :: [])) rfl rfl (fun h => nomatch h) inf35 rfl rfl ?_
  intro N2
  refine so_then ?_
  refine sx_seq ?_
  refine sx_draw (E := E) mixed [2, 5, 8, 11, 13] _ (List.Sublist.cons _ (List.Sublist.refl _)) (by kernel_rfl) (by kernel_rfl) (by decide) ?_
  refine so_fieldO (o' := 0) rfl rfl rfl Tryz.underlying35 rfl inf3 rfl rfl ?_
  refine so_load rfl rfl rfl (by first | exact ld_own Tryz.underlying3 rfl (by repeat (first | exact List.Mem.head _ | apply List.Mem.tail)) (by first | exact cellsOf_get rfl | rfl) | exact ld_data Tryz.underlying3 rfl (by first | assumption | exact InA.add (by assumption) | exact InA.add (InA.add (by assumption))) (by assumption)) ?_
  refine so_call rfl rfl (fun _ => (by repeat (first | exact List.Mem.head _ | apply List.Mem.tail))) rfl has44 (by repeat (first | exact Opvs.nil | apply Opvs.cons rfl)) (fun H hH => unit_ok r) ?_
  refine so_fieldO (o' := 1) rfl rfl rfl Tryz.underlying35 rfl inf3 rfl rfl ?_
  refine so_load rfl rfl rfl (by first | exact ld_own Tryz.underlying3 rfl (by repeat (first | exact List.Mem.head _ | apply List.Mem.tail)) (by first | exact cellsOf_get rfl | rfl) | exact ld_data Tryz.underlying3 rfl (by first | assumption | exact InA.add (by assumption) | exact InA.add (InA.add (by assumption))) (by assumption)) ?_
  refine so_call rfl rfl (fun _ => (by repeat (first | exact List.Mem.head _ | apply List.Mem.tail))) rfl has44 (by repeat (first | exact Opvs.nil | apply Opvs.cons rfl)) (fun H hH => unit_ok g) ?_
  refine so_fieldO (o' := 2) rfl rfl rfl Tryz.underlying35 rfl inf3 rfl rfl ?_
  refine so_load rfl rfl rfl (by first | exact ld_own Tryz.underlying3 rfl (by repeat (first | exact List.Mem.head _ | apply List.Mem.tail)) (by first | exact cellsOf_get rfl | rfl) | exact ld_data Tryz.underlying3 rfl (by first | assumption | exact InA.add (by assumption) | exact InA.add (InA.add (by assumption))) (by assumption)) ?_
  refine so_call rfl rfl (fun _ => (by repeat (first | exact List.Mem.head _ | apply List.Mem.tail))) rfl has44 (by repeat (first | exact Opvs.nil | apply Opvs.cons rfl)) (fun H hH => unit_ok b) ?_
  refine so_fieldO (o' := 3) rfl rfl rfl Tryz.underlying35 rfl inf3 rfl rfl ?_
  refine so_load rfl rfl rfl (by first | exact ld_own Tryz.underlying3 rfl (by repeat (first | exact List.Mem.head _ | apply List.Mem.tail)) (by first | exact cellsOf_get rfl | rfl) | exact ld_data Tryz.underlying3 rfl (by first | assumption | exact InA.add (by assumption) | exact InA.add (InA.add (by assumption))) (by assumption)) ?_
  refine so_call rfl rfl (fun _ => (by repeat (first | exact List.Mem.head _ | apply List.Mem.tail))) rfl has44 (by repeat (first | exact Opvs.nil | apply Opvs.cons rfl)) (fun H hH => unit_ok a) ?_
  refine so_build rfl rfl (by repeat (first | exact Opps.nil | apply Opps.cons rfl)) (by rfl) ?_
  refine so_storeA rfl (fun _ => (by repeat (first | exact List.Mem.head _ | apply List.Mem.tail))) rfl rfl inf35 (by first | exact cellsOf_length _ _ | rfl) rfl (by repeat (first | exact .zero | apply Upd.succ)) (by first | exact cellsOf_set rfl | exact cellsOf_setr rfl | exact cellsOf_store rfl | exact store_all rfl | rfl) (by first | exact cellsOf_in rfl rfl | exact cellsOf_in rfl (cellsOf_length _ _) | exact cellsOf_le rfl | exact Nat.le_of_ble_eq_true rfl | omega) (fun _ => (by repeat (first | exact List.nil_sublist _ | apply List.Sublist.cons_cons | apply List.Sublist.cons))) ?_
  refine so_then ?_
  refine sx_ret ?_
  refine sk_return1 (.cell rfl (by first | exact ld_ownA Tryz.underlying35 rfl inf35 rfl (by repeat (first | exact List.Mem.head _ | apply List.Mem.tail)) (by first | exact cellsOf_le rfl | exact Nat.le_of_ble_eq_true rfl | decide | omega) (by first | exact cellsOf_all | exact take_all rfl | exact cellsOf_part rfl | rfl) | exact ld_dataA Tryz.underlying35 rfl inf35 rfl (by first | assumption | exact InA.add (by assumption) | exact InA.add (InA.add (by assumption))) (by assumption)) .nil) ?_
  exact fun H hH => ⟨rfl, hH.kept⟩

theorem rlimit_ok {S : AH} (r g b a : Int) : XCall Tryz.prog 92 [.agg ⟨[.int .i64 r, .int .i64 g, .int .i64 b, .int .i64 a]⟩] S fun v H' => v = .agg ⟨[.int .i64 (unitV r), .int .i64 (unitV g), .int .i64 (unitV b), .int .i64 (unitV a)]⟩ ∧ Kept S.nx S H' := by
  refine x_enter (E := E) (n := 16) (rs := [.cell 2 35]) (l := [(0, _)]) (fn_own Tryz.func92 rfl rfl rfl) (A0 := fun _ => False) (fun j h => h.elim) rfl ?_
  refine sx_seq ?_
  refine sx_region (E := E) ?_
  refine so_boxA rfl rfl (fun h => nomatch h) rfl ?_
  intro N1
  refine so_alloc (cs := (.int .i64 0 :: .int .i64 0 :: .int .i64 0 :: .int .i64 0 :: [])) rfl rfl (fun h => nomatch h) inf35 rfl rfl ?_
  intro N2
  refine so_then ?_
  refine sx_seq ?_
  refine sx_draw (E := E) mixed [2, 5, 8, 11, 13] _ (List.Sublist.cons _ (List.Sublist.refl _)) (by kernel_rfl) (by kernel_rfl) (by decide) ?_
  refine so_fieldO (o' := 0) rfl rfl rfl Tryz.underlying35 rfl inf3 rfl rfl ?_
  refine so_load rfl rfl rfl (by first | exact ld_own Tryz.underlying3 rfl (by repeat (first | exact List.Mem.head _ | apply List.Mem.tail)) (by first | exact cellsOf_get rfl | rfl) | exact ld_data Tryz.underlying3 rfl (by first | assumption | exact InA.add (by assumption) | exact InA.add (InA.add (by assumption))) (by assumption)) ?_
  refine so_call rfl rfl (fun _ => (by repeat (first | exact List.Mem.head _ | apply List.Mem.tail))) rfl has95 (by repeat (first | exact Opvs.nil | apply Opvs.cons rfl)) (fun H hH => runit_ok r) ?_
  refine so_fieldO (o' := 1) rfl rfl rfl Tryz.underlying35 rfl inf3 rfl rfl ?_
  refine so_load rfl rfl rfl (by first | exact ld_own Tryz.underlying3 rfl (by repeat (first | exact List.Mem.head _ | apply List.Mem.tail)) (by first | exact cellsOf_get rfl | rfl) | exact ld_data Tryz.underlying3 rfl (by first | assumption | exact InA.add (by assumption) | exact InA.add (InA.add (by assumption))) (by assumption)) ?_
  refine so_call rfl rfl (fun _ => (by repeat (first | exact List.Mem.head _ | apply List.Mem.tail))) rfl has95 (by repeat (first | exact Opvs.nil | apply Opvs.cons rfl)) (fun H hH => runit_ok g) ?_
  refine so_fieldO (o' := 2) rfl rfl rfl Tryz.underlying35 rfl inf3 rfl rfl ?_
  refine so_load rfl rfl rfl (by first | exact ld_own Tryz.underlying3 rfl (by repeat (first | exact List.Mem.head _ | apply List.Mem.tail)) (by first | exact cellsOf_get rfl | rfl) | exact ld_data Tryz.underlying3 rfl (by first | assumption | exact InA.add (by assumption) | exact InA.add (InA.add (by assumption))) (by assumption)) ?_
  refine so_call rfl rfl (fun _ => (by repeat (first | exact List.Mem.head _ | apply List.Mem.tail))) rfl has95 (by repeat (first | exact Opvs.nil | apply Opvs.cons rfl)) (fun H hH => runit_ok b) ?_
  refine so_fieldO (o' := 3) rfl rfl rfl Tryz.underlying35 rfl inf3 rfl rfl ?_
  refine so_load rfl rfl rfl (by first | exact ld_own Tryz.underlying3 rfl (by repeat (first | exact List.Mem.head _ | apply List.Mem.tail)) (by first | exact cellsOf_get rfl | rfl) | exact ld_data Tryz.underlying3 rfl (by first | assumption | exact InA.add (by assumption) | exact InA.add (InA.add (by assumption))) (by assumption)) ?_
  refine so_call rfl rfl (fun _ => (by repeat (first | exact List.Mem.head _ | apply List.Mem.tail))) rfl has95 (by repeat (first | exact Opvs.nil | apply Opvs.cons rfl)) (fun H hH => runit_ok a) ?_
  refine so_build rfl rfl (by repeat (first | exact Opps.nil | apply Opps.cons rfl)) (by rfl) ?_
  refine so_storeA rfl (fun _ => (by repeat (first | exact List.Mem.head _ | apply List.Mem.tail))) rfl rfl inf35 (by first | exact cellsOf_length _ _ | rfl) rfl (by repeat (first | exact .zero | apply Upd.succ)) (by first | exact cellsOf_set rfl | exact cellsOf_setr rfl | exact cellsOf_store rfl | exact store_all rfl | rfl) (by first | exact cellsOf_in rfl rfl | exact cellsOf_in rfl (cellsOf_length _ _) | exact cellsOf_le rfl | exact Nat.le_of_ble_eq_true rfl | omega) (fun _ => (by repeat (first | exact List.nil_sublist _ | apply List.Sublist.cons_cons | apply List.Sublist.cons))) ?_
  refine so_then ?_
  refine sx_ret ?_
  refine sk_return1 (.cell rfl (by first | exact ld_ownA Tryz.underlying35 rfl inf35 rfl (by repeat (first | exact List.Mem.head _ | apply List.Mem.tail)) (by first | exact cellsOf_le rfl | exact Nat.le_of_ble_eq_true rfl | decide | omega) (by first | exact cellsOf_all | exact take_all rfl | exact cellsOf_part rfl | rfl) | exact ld_dataA Tryz.underlying35 rfl inf35 rfl (by first | assumption | exact InA.add (by assumption) | exact InA.add (InA.add (by assumption))) (by assumption)) .nil) ?_
  exact fun H hH => ⟨rfl, hH.kept⟩

theorem valid_ok {S : AH} (r g b a : Int) : XCall Tryz.prog 41 [.agg ⟨[.int .i64 r, .int .i64 g, .int .i64 b, .int .i64 a]⟩] S fun v H' => v = .bool (pixOk r g b a) ∧ Kept S.nx S H' := by
  refine x_enter (E := E) (n := 7) (rs := [.tmp 2]) (l := [(0, _)]) (fn_own Tryz.func41 rfl rfl rfl) (A0 := fun _ => False) (fun j h => h.elim) rfl ?_
  refine sx_seq ?_
  refine sx_region (E := E) ?_
  refine so_boxA rfl rfl (fun h => nomatch h) rfl ?_
  intro N1
  refine so_assign rfl rfl rfl ?_
  refine so_then ?_
  refine sx_seq ?_
  refine sx_draw (E := E) mixed [2] _ (List.Sublist.refl _) (by kernel_rfl) (by kernel_rfl) (by decide) ?_
  refine so_load rfl rfl rfl (by first | exact ld_ownA Tryz.underlying35 rfl inf35 rfl (by repeat (first | exact List.Mem.head _ | apply List.Mem.tail)) (by first | exact cellsOf_le rfl | exact Nat.le_of_ble_eq_true rfl | decide | omega) (by first | exact cellsOf_all | exact take_all rfl | exact cellsOf_part rfl | rfl) | exact ld_dataA Tryz.underlying35 rfl inf35 rfl (by first | assumption | exact InA.add (by assumption) | exact InA.add (InA.add (by assumption))) (by assumption)) ?_
  refine so_load rfl rfl rfl (by first | exact ld_ownA Tryz.underlying35 rfl inf35 rfl (by repeat (first | exact List.Mem.head _ | apply List.Mem.tail)) (by first | exact cellsOf_le rfl | exact Nat.le_of_ble_eq_true rfl | decide | omega) (by first | exact cellsOf_all | exact take_all rfl | exact cellsOf_part rfl | rfl) | exact ld_dataA Tryz.underlying35 rfl inf35 rfl (by first | assumption | exact InA.add (by assumption) | exact InA.add (InA.add (by assumption))) (by assumption)) ?_
  refine so_call rfl rfl (fun _ => (by repeat (first | exact List.Mem.head _ | apply List.Mem.tail))) rfl has90 (by repeat (first | exact Opvs.nil | apply Opvs.cons rfl)) (fun H hH => limit_ok r g b a) ?_
  refine so_bin rfl rfl rfl rfl (by first | exact bin_pix) ?_
  refine so_assign rfl rfl rfl ?_
  refine so_then ?_
  refine sx_ret ?_
  refine sk_return1 (.tmp rfl .nil) ?_
  exact fun H hH => ⟨rfl, hH.kept⟩

theorem rvalid_ok {S : AH} (r g b a : Int) : XCall Tryz.prog 45 [.agg ⟨[.int .i64 r, .int .i64 g, .int .i64 b, .int .i64 a]⟩] S fun v H' => v = .bool (pixOk r g b a) ∧ Kept S.nx S H' := by
  refine x_enter (E := E) (n := 7) (rs := [.tmp 2]) (l := [(0, _)]) (fn_own Tryz.func45 rfl rfl rfl) (A0 := fun _ => False) (fun j h => h.elim) rfl ?_
  refine sx_seq ?_
  refine sx_region (E := E) ?_
  refine so_boxA rfl rfl (fun h => nomatch h) rfl ?_
  intro N1
  refine so_assign rfl rfl rfl ?_
  refine so_then ?_
  refine sx_seq ?_
  refine sx_draw (E := E) mixed [1] _ (List.Sublist.refl _) (by kernel_rfl) (by kernel_rfl) (by decide) ?_
  refine so_load rfl rfl rfl (by first | exact ld_ownA Tryz.underlying35 rfl inf35 rfl (by repeat (first | exact List.Mem.head _ | apply List.Mem.tail)) (by first | exact cellsOf_le rfl | exact Nat.le_of_ble_eq_true rfl | decide | omega) (by first | exact cellsOf_all | exact take_all rfl | exact cellsOf_part rfl | rfl) | exact ld_dataA Tryz.underlying35 rfl inf35 rfl (by first | assumption | exact InA.add (by assumption) | exact InA.add (InA.add (by assumption))) (by assumption)) ?_
  refine so_call rfl rfl (fun _ => (by repeat (first | exact List.Mem.head _ | apply List.Mem.tail))) rfl has92 (by repeat (first | exact Opvs.nil | apply Opvs.cons rfl)) (fun H hH => rlimit_ok r g b a) ?_
  refine so_load rfl rfl rfl (by first | exact ld_ownA Tryz.underlying35 rfl inf35 rfl (by repeat (first | exact List.Mem.head _ | apply List.Mem.tail)) (by first | exact cellsOf_le rfl | exact Nat.le_of_ble_eq_true rfl | decide | omega) (by first | exact cellsOf_all | exact take_all rfl | exact cellsOf_part rfl | rfl) | exact ld_dataA Tryz.underlying35 rfl inf35 rfl (by first | assumption | exact InA.add (by assumption) | exact InA.add (InA.add (by assumption))) (by assumption)) ?_
  refine so_bin rfl rfl rfl rfl (by first | exact bin_pix) ?_
  refine so_assign rfl rfl rfl ?_
  refine so_then ?_
  refine sx_ret ?_
  refine sk_return1 (.tmp rfl .nil) ?_
  exact fun H hH => ⟨by rw [pixOk_symm], hH.kept⟩

end Go.Proofs.YtljakaaebljiiaaGreatDoor
