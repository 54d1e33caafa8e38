/-
  Run.
-/
import Derived.Test.YthgfcpgjabodoaaGreatDoorQ3
import Derived.Test.YthgfcpgjabodoaaGreatDoorAb9
set_option linter.unusedVariables false
set_option linter.unusedSimpArgs false
set_option maxRecDepth 100000
namespace Go.Proofs.YthgfcpgjabodoaaGreatDoor
open Go Go.AM
theorem hP : E.inf 30 = some ⟨10, 144, some (.agg #[.int .i64 0, .int .i64 0, .int .i64 0, .slice none 0 0, .int .i64 0, .int .i64 0, .int .i64 0, .slice none 0 0, .slice none 0 0, .slice none 0 0])⟩ := by kernel_rfl

theorem aCb {S : AH} : XCall Tryz.prog 14 [eN 1 1] S fun v H' => v = eN 1 1 ∧ Kept S.nx S H' :=
 qN rfl rfl rfl fun w => (by kernel_rfl : jF (jA 20 14 [eN 1 1] (AM.start w)) = some (eN 1 1, []))
/-- what a script leaves: the machine and what it has printed -/
def mV (s : ByteArray) (out : List UInt8) (at0 e : Int) : Prop := ∀ S : AH, Tab S → XCall Tryz.prog 13 [eN 1 1, .string s] S fun u H' => ∃ Lo, Turned [] S H' Lo ∧ ∃ (K M z : Nat) (x : Nat → Value), u = .tuple ⟨[.pointer (some ⟨2 * K + 1, 0, none⟩), .int .i64 at0, .int .i64 e]⟩ ∧ Lo = (K, .cells [.int .i64 1, .int .i64 1, .int .i64 0, .slice none 0 0, .int .i64 1, .int .i64 0, .int .i64 0, .slice none 0 0, .slice none 0 0, .slice none 0 0, x 10, bsv M out, x 12, x 13, x 14, x 15, x 16, x 17, x 18, x 19, x 20] 1099511627854 true) :: bro M z out
set_option maxHeartbeats 2000000 in
theorem aIo {S : AH} {s : ByteArray} {out : List UInt8} (hT : Tab S) (h0 : out ≠ []) (hx : mV s out 0 0) : XCall Tryz.prog 6 [eN 1 1, .string s] S fun v H' => v = .tuple ⟨[eN 1 1, .string ⟨⟨out⟩⟩, .int .i64 0, .int .i64 0]⟩ ∧ Kept S.nx S H' := by
 refine cP (E := E) (n := 42) (rs := [.cell 4 30, .tmp 5, .tmp 6, .tmp 7]) (l := [(1, _), (0, _)]) (bH Tryz.func6 rfl rfl rfl) (A0 := fun _ => False) (fun j h => h.elim) rfl ?_
 refine aE ?_
 refine aB (E := E) ?_
 refine fJ rfl rfl (fun h => nomatch h) rfl ?_
 intro N2
 refine cL (cs := (.int .i64 0 :: .int .i64 0 :: .int .i64 0 :: .slice none 0 0 :: .int .i64 0 :: .int .i64 0 :: .int .i64 0 :: .slice none 0 0 :: .slice none 0 0 :: .slice none 0 0 :: [])) rfl rfl (fun h => nomatch h) hP rfl rfl ?_
 intro N4
 refine aC rfl rfl rfl ?_
 refine aC rfl rfl rfl ?_
 refine aC rfl rfl rfl ?_
 refine aD ?_
 refine aE ?_
 refine aB (E := E) ?_
 refine bU rfl rfl rfl (by first | exact cD Tryz.underlying30 rfl hP rfl (by repeat (first | exact List.Mem.head _ | apply List.Mem.tail | apply List.mem_append_right)) (by first | exact aK rfl | exact Nat.le_of_ble_eq_true rfl | decide | omega) (by first | exact bD | exact take_all rfl | exact aW rfl | rfl) | exact bZ Tryz.underlying30 rfl hP rfl (by first | assumption | exact InA.add (by assumption) | exact InA.add (InA.add (by assumption))) (by assumption)) ?_
 refine aA rfl rfl rfl ?_
 refine dP (Li := []) (fun u Lo => ∃ (K M z : Nat) (x : Nat → Value), u = .tuple ⟨[.pointer (some ⟨2 * K + 1, 0, none⟩), .int .i64 0, .int .i64 0]⟩ ∧ Lo = (K, .cells [.int .i64 1, .int .i64 1, .int .i64 0, .slice none 0 0, .int .i64 1, .int .i64 0, .int .i64 0, .slice none 0 0, .slice none 0 0, .slice none 0 0, x 10, bsv M out, x 12, x 13, x 14, x 15, x 16, x 17, x 18, x 19, x 20] 1099511627854 true) :: bro M z out) rfl rfl (fun h => nomatch h) rfl aQv (by repeat (first | exact Opvs.nil | apply Opvs.cons rfl)) (by repeat (first | exact Takes.nil | exact Takes.app | exact Takes.self | apply Takes.skip)) (fun h => nomatch h) (fun H hH => hx H (hT.at hH.kept.w0.symm)) ?_
 rintro u Lo ⟨K, M, z, x, rfl, rfl⟩
 refine aA rfl rfl rfl ?_
 refine bT rfl rfl rfl rfl ?_
 refine bT rfl rfl rfl rfl ?_
 refine bT rfl rfl rfl rfl ?_
 refine aC rfl rfl rfl ?_
 refine aC rfl rfl rfl ?_
 refine aC rfl rfl rfl ?_
 refine aD ?_
 refine aE ?_
 refine aE ?_
 refine aB (E := E) ?_
 refine aA rfl rfl rfl ?_
 refine aF rfl rfl rfl rfl (by first | exact mE Tryz.underlying71 | exact vU Tryz.underlying71 | exact mE Tryz.underlying71) ?_
 refine aD ?_
 refine aJ rfl ?_
 refine aV ?_
 refine aR ?_
 refine aE ?_
 refine aE ?_
 refine aB (E := E) ?_
 refine aA rfl rfl rfl ?_
 refine aF rfl rfl rfl rfl (by first | exact cG rfl | exact cJ he | exact cG (by first | rfl | assumption | omega) | exact cJ (by first | rfl | assumption | omega)) ?_
 refine aD ?_
 refine aJ rfl ?_
 refine aV ?_
 refine aR ?_
 refine aE ?_
 rw [dO h0]
 refine aFm (E := E) mixed [4, 10] _ (List.sublist_append_left _ _) (by kernel_rfl) (by kernel_rfl) (by decide) ?_
 refine aA rfl rfl rfl ?_
 first | refine eO rfl rfl rfl ?_ | refine eA rfl rfl rfl ?_
 first | refine bK rfl rfl rfl Tryz.underlying78 rfl hP rfl rfl ?_ | refine rY rfl rfl rfl Tryz.underlying78 rfl hP rfl rfl ?_
 refine bU rfl rfl rfl (by first | exact cD Tryz.underlying30 rfl hP rfl (by repeat (first | exact List.Mem.head _ | apply List.Mem.tail | apply List.mem_append_right)) (by first | exact aK rfl | exact Nat.le_of_ble_eq_true rfl | decide | omega) (by first | exact bD | exact take_all rfl | exact aW rfl | rfl) | exact bZ Tryz.underlying30 rfl hP rfl (by first | assumption | exact InA.add (by assumption) | exact InA.add (InA.add (by assumption))) (by assumption)) ?_
 refine aZ rfl rfl (fun _ => (by repeat (first | exact List.Mem.head _ | apply List.Mem.tail | apply List.mem_append_right))) rfl aQk (by repeat (first | exact Opvs.nil | apply Opvs.cons rfl)) (fun H hH => aCb) ?_
 refine aA rfl rfl rfl ?_
 first | refine eO rfl rfl rfl ?_ | refine eA rfl rfl rfl ?_
 first | refine bK rfl rfl rfl Tryz.underlying78 rfl vF rfl rfl ?_ | refine rY rfl rfl rfl Tryz.underlying78 rfl vF rfl rfl ?_
 refine bU rfl rfl rfl (by first | exact cM Tryz.underlying75 rfl (by repeat (first | exact List.Mem.head _ | apply List.Mem.tail | apply List.mem_append_right)) (by first | exact aN rfl | rfl) | exact cE Tryz.underlying75 rfl (by first | assumption | exact InA.add (by assumption) | exact InA.add (InA.add (by assumption))) (by assumption)) ?_
 refine aHr rfl rfl (by rw [iG h0]; rfl) Tryz.underlying75 Tryz.underlying5 Tryz.underlying9 (by repeat (first | exact List.Mem.head _ | apply List.Mem.tail | apply List.mem_append_right)) (List.length_map _) (aGh _) ?_
 refine cA rfl (fun _ => (by repeat (first | exact List.Mem.head _ | apply List.Mem.tail | apply List.mem_append_right))) rfl rfl hP (by first | exact aH _ _ | rfl) rfl (by repeat (first | exact .zero | apply Upd.succ)) (by first | exact bM rfl | exact bI rfl | exact bA rfl | exact bY rfl | rfl) (by first | exact aM rfl rfl | exact aM rfl (aH _ _) | exact aK rfl | exact Nat.le_of_ble_eq_true rfl | omega) (fun _ => (by repeat (first | exact List.nil_sublist _ | apply List.Sublist.cons_cons | apply List.Sublist.cons))) ?_
 refine aC rfl rfl rfl ?_
 refine aC rfl rfl rfl ?_
 refine aC rfl rfl rfl ?_
 refine aD ?_
 refine bX ?_
 refine dX (.cell rfl (by first | exact cD Tryz.underlying30 rfl hP rfl (by repeat (first | exact List.Mem.head _ | apply List.Mem.tail | apply List.mem_append_right)) (by first | exact aK rfl | exact Nat.le_of_ble_eq_true rfl | decide | omega) (by first | exact bD | exact take_all rfl | exact aW rfl | rfl) | exact bZ Tryz.underlying30 rfl hP rfl (by first | assumption | exact InA.add (by assumption) | exact InA.add (InA.add (by assumption))) (by assumption)) (.tmp rfl (.tmp rfl (.tmp rfl .nil)))) rfl ?_
 exact fun H hH => ⟨rfl, hH.kept⟩

set_option maxHeartbeats 2000000 in
theorem aPo {S : AH} {s : ByteArray} {at0 e : Int} (hT : Tab S) (he : e ≠ 0) (hx : mV s [] at0 e) : XCall Tryz.prog 6 [eN 1 1, .string s] S fun v H' => v = .tuple ⟨[eN 1 1, .string ⟨⟨[]⟩⟩, .int .i64 at0, .int .i64 e]⟩ ∧ Kept S.nx S H' := by
 refine cP (E := E) (n := 42) (rs := [.cell 4 30, .tmp 5, .tmp 6, .tmp 7]) (l := [(1, _), (0, _)]) (bH Tryz.func6 rfl rfl rfl) (A0 := fun _ => False) (fun j h => h.elim) rfl ?_
 refine aE ?_
 refine aB (E := E) ?_
 refine fJ rfl rfl (fun h => nomatch h) rfl ?_
 intro N2
 refine cL (cs := (.int .i64 0 :: .int .i64 0 :: .int .i64 0 :: .slice none 0 0 :: .int .i64 0 :: .int .i64 0 :: .int .i64 0 :: .slice none 0 0 :: .slice none 0 0 :: .slice none 0 0 :: [])) rfl rfl (fun h => nomatch h) hP rfl rfl ?_
 intro N4
 refine aC rfl rfl rfl ?_
 refine aC rfl rfl rfl ?_
 refine aC rfl rfl rfl ?_
 refine aD ?_
 refine aE ?_
 refine aB (E := E) ?_
 refine bU rfl rfl rfl (by first | exact cD Tryz.underlying30 rfl hP rfl (by repeat (first | exact List.Mem.head _ | apply List.Mem.tail | apply List.mem_append_right)) (by first | exact aK rfl | exact Nat.le_of_ble_eq_true rfl | decide | omega) (by first | exact bD | exact take_all rfl | exact aW rfl | rfl) | exact bZ Tryz.underlying30 rfl hP rfl (by first | assumption | exact InA.add (by assumption) | exact InA.add (InA.add (by assumption))) (by assumption)) ?_
 refine aA rfl rfl rfl ?_
 refine dP (Li := []) (fun u Lo => ∃ (K M z : Nat) (x : Nat → Value), u = .tuple ⟨[.pointer (some ⟨2 * K + 1, 0, none⟩), .int .i64 at0, .int .i64 e]⟩ ∧ Lo = (K, .cells [.int .i64 1, .int .i64 1, .int .i64 0, .slice none 0 0, .int .i64 1, .int .i64 0, .int .i64 0, .slice none 0 0, .slice none 0 0, .slice none 0 0, x 10, bsv M [], x 12, x 13, x 14, x 15, x 16, x 17, x 18, x 19, x 20] 1099511627854 true) :: bro M z []) rfl rfl (fun h => nomatch h) rfl aQv (by repeat (first | exact Opvs.nil | apply Opvs.cons rfl)) (by repeat (first | exact Takes.nil | exact Takes.app | exact Takes.self | apply Takes.skip)) (fun h => nomatch h) (fun H hH => hx H (hT.at hH.kept.w0.symm)) ?_
 rintro u Lo ⟨K, M, z, x, rfl, rfl⟩
 refine aA rfl rfl rfl ?_
 refine bT rfl rfl rfl rfl ?_
 refine bT rfl rfl rfl rfl ?_
 refine bT rfl rfl rfl rfl ?_
 refine aC rfl rfl rfl ?_
 refine aC rfl rfl rfl ?_
 refine aC rfl rfl rfl ?_
 refine aD ?_
 refine aE ?_
 refine aE ?_
 refine aB (E := E) ?_
 refine aA rfl rfl rfl ?_
 refine aF rfl rfl rfl rfl (by first | exact mE Tryz.underlying71 | exact vU Tryz.underlying71 | exact mE Tryz.underlying71) ?_
 refine aD ?_
 refine aJ rfl ?_
 refine aV ?_
 refine aR ?_
 refine aE ?_
 refine aE ?_
 refine aB (E := E) ?_
 refine aA rfl rfl rfl ?_
 refine aF rfl rfl rfl rfl (by first | exact cG rfl | exact cJ he | exact cG (by first | rfl | assumption | omega) | exact cJ (by first | rfl | assumption | omega)) ?_
 refine aD ?_
 refine bP rfl ?_
 refine aE ?_
 refine aFm (E := E) mixed [1, 9] _ (List.Sublist.cons_cons _ (List.Sublist.cons _ (List.Sublist.refl _))) (by kernel_rfl) (by kernel_rfl) (by decide) ?_
 refine bU rfl rfl rfl (by first | exact cD Tryz.underlying30 rfl hP rfl (by repeat (first | exact List.Mem.head _ | apply List.Mem.tail | apply List.mem_append_right)) (by first | exact aK rfl | exact Nat.le_of_ble_eq_true rfl | decide | omega) (by first | exact bD | exact take_all rfl | exact aW rfl | rfl) | exact bZ Tryz.underlying30 rfl hP rfl (by first | assumption | exact InA.add (by assumption) | exact InA.add (InA.add (by assumption))) (by assumption)) ?_
 refine aZ rfl rfl (fun _ => (by repeat (first | exact List.Mem.head _ | apply List.Mem.tail | apply List.mem_append_right))) rfl aQk (by repeat (first | exact Opvs.nil | apply Opvs.cons rfl)) (fun H hH => aCb) ?_
 refine aA rfl rfl rfl ?_
 first | refine eO rfl rfl rfl ?_ | refine eA rfl rfl rfl ?_
 first | refine bK rfl rfl rfl Tryz.underlying78 rfl vF rfl rfl ?_ | refine rY rfl rfl rfl Tryz.underlying78 rfl vF rfl rfl ?_
 refine bU rfl rfl rfl (by first | exact cM Tryz.underlying75 rfl (by repeat (first | exact List.Mem.head _ | apply List.Mem.tail | apply List.mem_append_right)) (by first | exact aN rfl | rfl) | exact cE Tryz.underlying75 rfl (by first | assumption | exact InA.add (by assumption) | exact InA.add (InA.add (by assumption))) (by assumption)) ?_
 refine aEg rfl rfl rfl Tryz.underlying75 Tryz.underlying5 Tryz.underlying9 ?_
 refine aA rfl rfl rfl ?_
 refine aA rfl rfl rfl ?_
 refine cA rfl (fun _ => (by repeat (first | exact List.Mem.head _ | apply List.Mem.tail | apply List.mem_append_right))) rfl rfl hP (by first | exact aH _ _ | rfl) rfl (by repeat (first | exact .zero | apply Upd.succ)) (by first | exact bM rfl | exact bI rfl | exact bA rfl | exact bY rfl | rfl) (by first | exact aM rfl rfl | exact aM rfl (aH _ _) | exact aK rfl | exact Nat.le_of_ble_eq_true rfl | omega) (fun _ => (by repeat (first | exact List.nil_sublist _ | apply List.Sublist.cons_cons | apply List.Sublist.cons))) ?_
 refine aC rfl rfl rfl ?_
 refine aC rfl rfl rfl ?_
 refine aC rfl rfl rfl ?_
 refine aD ?_
 refine bX ?_
 refine bB ?_
 refine dX (.cell rfl (by first | exact cD Tryz.underlying30 rfl hP rfl (by repeat (first | exact List.Mem.head _ | apply List.Mem.tail | apply List.mem_append_right)) (by first | exact aK rfl | exact Nat.le_of_ble_eq_true rfl | decide | omega) (by first | exact bD | exact take_all rfl | exact aW rfl | rfl) | exact bZ Tryz.underlying30 rfl hP rfl (by first | assumption | exact InA.add (by assumption) | exact InA.add (InA.add (by assumption))) (by assumption)) (.tmp rfl (.tmp rfl (.tmp rfl .nil)))) rfl ?_
 exact fun H hH => ⟨rfl, hH.kept⟩

end Go.Proofs.YthgfcpgjabodoaaGreatDoor
