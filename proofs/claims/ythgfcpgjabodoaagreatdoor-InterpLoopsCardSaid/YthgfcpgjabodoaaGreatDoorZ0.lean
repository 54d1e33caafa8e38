/-
  Run.
-/
import Derived.Test.YthgfcpgjabodoaaGreatDoorQ2
import Derived.Test.YthgfcpgjabodoaaGreatDoorAb9
set_option linter.unusedVariables false
set_option linter.unusedSimpArgs false
set_option maxRecDepth 100000
namespace Go.Proofs.YthgfcpgjabodoaaGreatDoor
open Go Go.AM
theorem iA : E.inf 30 = some ⟨10, 144, some (.agg #[.int .i64 0, .int .i64 0, .int .i64 0, .slice none 0 0, .int .i64 0, .int .i64 0, .int .i64 0, .slice none 0 0, .slice none 0 0, .slice none 0 0])⟩ := by kernel_rfl

theorem aBj {S : AH} : XCall Tryz.prog 14 [gN 1 1] S fun v H' => v = gN 1 1 ∧ Kept S.nx S H' :=
 qU rfl rfl rfl fun w => (by kernel_rfl : kR (lD 20 14 [gN 1 1] (AM.start w)) = some (gN 1 1, []))
/-- what a script leaves: the machine and what it has printed -/
def xM (s : ByteArray) (out : List UInt8) (at0 e : Int) : Prop := ∀ S : AH, Tab S → XCall Tryz.prog 13 [gN 1 1, .string s] S fun u H' => ∃ Lo, Turned [] S H' Lo ∧ ∃ (K M z : Nat) (x : Nat → Value), u = .tuple ⟨[.pointer (some ⟨2 * K + 1, 0, none⟩), .int .i64 at0, .int .i64 e]⟩ ∧ Lo = (K, .cells [.int .i64 1, .int .i64 1, .int .i64 0, .slice none 0 0, .int .i64 1, .int .i64 0, .int .i64 0, .slice none 0 0, .slice none 0 0, .slice none 0 0, x 10, bsv M out, x 12, x 13, x 14, x 15, x 16, x 17, x 18, x 19, x 20] 1099511627854 true) :: bro M z out
set_option maxHeartbeats 2000000 in
theorem aRf {S : AH} {s : ByteArray} {out : List UInt8} (hT : Tab S) (h0 : out ≠ []) (hx : xM s out 0 0) : XCall Tryz.prog 6 [gN 1 1, .string s] S fun v H' => v = .tuple ⟨[gN 1 1, .string ⟨⟨out⟩⟩, .int .i64 0, .int .i64 0]⟩ ∧ Kept S.nx S H' := by
 refine fD (E := E) (n := 42) (rs := [.cell 4 30, .tmp 5, .tmp 6, .tmp 7]) (l := [(1, _), (0, _)]) (aV Tryz.func6 rfl rfl rfl) (A0 := fun _ => False) (fun j h => h.elim) rfl ?_
 refine aE ?_
 refine aB (E := E) ?_
 refine qJ rfl rfl (fun h => nomatch h) rfl ?_
 intro N2
 refine cZ (cs := (.int .i64 0 :: .int .i64 0 :: .int .i64 0 :: .slice none 0 0 :: .int .i64 0 :: .int .i64 0 :: .int .i64 0 :: .slice none 0 0 :: .slice none 0 0 :: .slice none 0 0 :: [])) rfl rfl (fun h => nomatch h) iA rfl rfl ?_
 intro N4
 refine aC rfl rfl rfl ?_
 refine aC rfl rfl rfl ?_
 refine aC rfl rfl rfl ?_
 refine aD ?_
 refine aE ?_
 refine aB (E := E) ?_
 refine bL rfl rfl rfl (by first | exact cM Tryz.underlying30 rfl iA rfl (by repeat (first | exact List.Mem.head _ | apply List.Mem.tail | apply List.mem_append_right)) (by first | exact aP rfl | exact Nat.le_of_ble_eq_true rfl | decide | omega) (by first | exact bM | exact take_all rfl | exact bD rfl | rfl) | exact cF Tryz.underlying30 rfl iA rfl (by first | assumption | exact InA.add (by assumption) | exact InA.add (InA.add (by assumption))) (by assumption)) ?_
 refine aA rfl rfl rfl ?_
 refine cK (Li := []) (fun u Lo => ∃ (K M z : Nat) (x : Nat → Value), u = .tuple ⟨[.pointer (some ⟨2 * K + 1, 0, none⟩), .int .i64 0, .int .i64 0]⟩ ∧ Lo = (K, .cells [.int .i64 1, .int .i64 1, .int .i64 0, .slice none 0 0, .int .i64 1, .int .i64 0, .int .i64 0, .slice none 0 0, .slice none 0 0, .slice none 0 0, x 10, bsv M out, x 12, x 13, x 14, x 15, x 16, x 17, x 18, x 19, x 20] 1099511627854 true) :: bro M z out) rfl rfl (fun h => nomatch h) rfl aRa (by repeat (first | exact Opvs.nil | apply Opvs.cons rfl)) (by repeat (first | exact Takes.nil | exact Takes.app | exact Takes.self | apply Takes.skip)) (fun h => nomatch h) (fun H hH => hx H (hT.at hH.kept.w0.symm)) ?_
 rintro u Lo ⟨K, M, z, x, rfl, rfl⟩
 refine aA rfl rfl rfl ?_
 refine bP rfl rfl rfl rfl ?_
 refine bP rfl rfl rfl rfl ?_
 refine bP rfl rfl rfl rfl ?_
 refine aC rfl rfl rfl ?_
 refine aC rfl rfl rfl ?_
 refine aC rfl rfl rfl ?_
 refine aD ?_
 refine aE ?_
 refine aE ?_
 refine aB (E := E) ?_
 refine aA rfl rfl rfl ?_
 refine aG rfl rfl rfl rfl (by first | exact lQ Tryz.underlying71 | exact vY Tryz.underlying71 | exact lQ Tryz.underlying71) ?_
 refine aD ?_
 refine aM rfl ?_
 refine aX ?_
 refine aQ ?_
 refine aE ?_
 refine aE ?_
 refine aB (E := E) ?_
 refine aA rfl rfl rfl ?_
 refine aG rfl rfl rfl rfl (by first | exact eV rfl | exact gJ he | exact eV (by first | rfl | assumption | omega) | exact gJ (by first | rfl | assumption | omega)) ?_
 refine aD ?_
 refine aM rfl ?_
 refine aX ?_
 refine aQ ?_
 refine aE ?_
 rw [cN h0]
 refine zQ (E := E) mixed [4, 10] _ (List.sublist_append_left _ _) (by kernel_rfl) (by kernel_rfl) (by decide) ?_
 refine aA rfl rfl rfl ?_
 first | refine bV rfl rfl rfl ?_ | refine bQ rfl rfl rfl ?_
 first | refine bG rfl rfl rfl Tryz.underlying78 rfl iA rfl rfl ?_ | refine nZ rfl rfl rfl Tryz.underlying78 rfl iA rfl rfl ?_
 refine bL rfl rfl rfl (by first | exact cM Tryz.underlying30 rfl iA rfl (by repeat (first | exact List.Mem.head _ | apply List.Mem.tail | apply List.mem_append_right)) (by first | exact aP rfl | exact Nat.le_of_ble_eq_true rfl | decide | omega) (by first | exact bM | exact take_all rfl | exact bD rfl | rfl) | exact cF Tryz.underlying30 rfl iA rfl (by first | assumption | exact InA.add (by assumption) | exact InA.add (InA.add (by assumption))) (by assumption)) ?_
 refine bO rfl rfl (fun _ => (by repeat (first | exact List.Mem.head _ | apply List.Mem.tail | apply List.mem_append_right))) rfl aQz (by repeat (first | exact Opvs.nil | apply Opvs.cons rfl)) (fun H hH => aBj) ?_
 refine aA rfl rfl rfl ?_
 first | refine bV rfl rfl rfl ?_ | refine bQ rfl rfl rfl ?_
 first | refine bG rfl rfl rfl Tryz.underlying78 rfl oQ rfl rfl ?_ | refine nZ rfl rfl rfl Tryz.underlying78 rfl oQ rfl rfl ?_
 refine bL rfl rfl rfl (by first | exact cS Tryz.underlying75 rfl (by repeat (first | exact List.Mem.head _ | apply List.Mem.tail | apply List.mem_append_right)) (by first | exact aL rfl | rfl) | exact cG Tryz.underlying75 rfl (by first | assumption | exact InA.add (by assumption) | exact InA.add (InA.add (by assumption))) (by assumption)) ?_
 refine aGx rfl rfl (by rw [eU h0]; rfl) Tryz.underlying75 Tryz.underlying5 Tryz.underlying9 (by repeat (first | exact List.Mem.head _ | apply List.Mem.tail | apply List.mem_append_right)) (List.length_map _) (aHg _) ?_
 refine cQ rfl (fun _ => (by repeat (first | exact List.Mem.head _ | apply List.Mem.tail | apply List.mem_append_right))) rfl rfl iA (by first | exact aI _ _ | rfl) rfl (by repeat (first | exact .zero | apply Upd.succ)) (by first | exact bW rfl | exact bR rfl | exact bK rfl | exact cD rfl | rfl) (by first | exact aT rfl rfl | exact aT rfl (aI _ _) | exact aP rfl | exact Nat.le_of_ble_eq_true rfl | omega) (fun _ => (by repeat (first | exact List.nil_sublist _ | apply List.Sublist.cons_cons | apply List.Sublist.cons))) ?_
 refine aC rfl rfl rfl ?_
 refine aC rfl rfl rfl ?_
 refine aC rfl rfl rfl ?_
 refine aD ?_
 refine cI ?_
 refine eS (.cell rfl (by first | exact cM Tryz.underlying30 rfl iA rfl (by repeat (first | exact List.Mem.head _ | apply List.Mem.tail | apply List.mem_append_right)) (by first | exact aP rfl | exact Nat.le_of_ble_eq_true rfl | decide | omega) (by first | exact bM | exact take_all rfl | exact bD rfl | rfl) | exact cF Tryz.underlying30 rfl iA rfl (by first | assumption | exact InA.add (by assumption) | exact InA.add (InA.add (by assumption))) (by assumption)) (.tmp rfl (.tmp rfl (.tmp rfl .nil)))) rfl ?_
 exact fun H hH => ⟨rfl, hH.kept⟩

set_option maxHeartbeats 2000000 in
theorem run_err {S : AH} {s : ByteArray} {at0 e : Int} (hT : Tab S) (he : e ≠ 0) (hx : xM s [] at0 e) : XCall Tryz.prog 6 [gN 1 1, .string s] S fun v H' => v = .tuple ⟨[gN 1 1, .string ⟨⟨[]⟩⟩, .int .i64 at0, .int .i64 e]⟩ ∧ Kept S.nx S H' := by
 refine fD (E := E) (n := 42) (rs := [.cell 4 30, .tmp 5, .tmp 6, .tmp 7]) (l := [(1, _), (0, _)]) (aV Tryz.func6 rfl rfl rfl) (A0 := fun _ => False) (fun j h => h.elim) rfl ?_
 refine aE ?_
 refine aB (E := E) ?_
 refine qJ rfl rfl (fun h => nomatch h) rfl ?_
 intro N2
 refine cZ (cs := (.int .i64 0 :: .int .i64 0 :: .int .i64 0 :: .slice none 0 0 :: .int .i64 0 :: .int .i64 0 :: .int .i64 0 :: .slice none 0 0 :: .slice none 0 0 :: .slice none 0 0 :: [])) rfl rfl (fun h => nomatch h) iA rfl rfl ?_
 intro N4
 refine aC rfl rfl rfl ?_
 refine aC rfl rfl rfl ?_
 refine aC rfl rfl rfl ?_
 refine aD ?_
 refine aE ?_
 refine aB (E := E) ?_
 refine bL rfl rfl rfl (by first | exact cM Tryz.underlying30 rfl iA rfl (by repeat (first | exact List.Mem.head _ | apply List.Mem.tail | apply List.mem_append_right)) (by first | exact aP rfl | exact Nat.le_of_ble_eq_true rfl | decide | omega) (by first | exact bM | exact take_all rfl | exact bD rfl | rfl) | exact cF Tryz.underlying30 rfl iA rfl (by first | assumption | exact InA.add (by assumption) | exact InA.add (InA.add (by assumption))) (by assumption)) ?_
 refine aA rfl rfl rfl ?_
 refine cK (Li := []) (fun u Lo => ∃ (K M z : Nat) (x : Nat → Value), u = .tuple ⟨[.pointer (some ⟨2 * K + 1, 0, none⟩), .int .i64 at0, .int .i64 e]⟩ ∧ Lo = (K, .cells [.int .i64 1, .int .i64 1, .int .i64 0, .slice none 0 0, .int .i64 1, .int .i64 0, .int .i64 0, .slice none 0 0, .slice none 0 0, .slice none 0 0, x 10, bsv M [], x 12, x 13, x 14, x 15, x 16, x 17, x 18, x 19, x 20] 1099511627854 true) :: bro M z []) rfl rfl (fun h => nomatch h) rfl aRa (by repeat (first | exact Opvs.nil | apply Opvs.cons rfl)) (by repeat (first | exact Takes.nil | exact Takes.app | exact Takes.self | apply Takes.skip)) (fun h => nomatch h) (fun H hH => hx H (hT.at hH.kept.w0.symm)) ?_
 rintro u Lo ⟨K, M, z, x, rfl, rfl⟩
 refine aA rfl rfl rfl ?_
 refine bP rfl rfl rfl rfl ?_
 refine bP rfl rfl rfl rfl ?_
 refine bP rfl rfl rfl rfl ?_
 refine aC rfl rfl rfl ?_
 refine aC rfl rfl rfl ?_
 refine aC rfl rfl rfl ?_
 refine aD ?_
 refine aE ?_
 refine aE ?_
 refine aB (E := E) ?_
 refine aA rfl rfl rfl ?_
 refine aG rfl rfl rfl rfl (by first | exact lQ Tryz.underlying71 | exact vY Tryz.underlying71 | exact lQ Tryz.underlying71) ?_
 refine aD ?_
 refine aM rfl ?_
 refine aX ?_
 refine aQ ?_
 refine aE ?_
 refine aE ?_
 refine aB (E := E) ?_
 refine aA rfl rfl rfl ?_
 refine aG rfl rfl rfl rfl (by first | exact eV rfl | exact gJ he | exact eV (by first | rfl | assumption | omega) | exact gJ (by first | rfl | assumption | omega)) ?_
 refine aD ?_
 refine bX rfl ?_
 refine aE ?_
 refine zQ (E := E) mixed [1, 9] _ (List.Sublist.cons_cons _ (List.Sublist.cons _ (List.Sublist.refl _))) (by kernel_rfl) (by kernel_rfl) (by decide) ?_
 refine bL rfl rfl rfl (by first | exact cM Tryz.underlying30 rfl iA rfl (by repeat (first | exact List.Mem.head _ | apply List.Mem.tail | apply List.mem_append_right)) (by first | exact aP rfl | exact Nat.le_of_ble_eq_true rfl | decide | omega) (by first | exact bM | exact take_all rfl | exact bD rfl | rfl) | exact cF Tryz.underlying30 rfl iA rfl (by first | assumption | exact InA.add (by assumption) | exact InA.add (InA.add (by assumption))) (by assumption)) ?_
 refine bO rfl rfl (fun _ => (by repeat (first | exact List.Mem.head _ | apply List.Mem.tail | apply List.mem_append_right))) rfl aQz (by repeat (first | exact Opvs.nil | apply Opvs.cons rfl)) (fun H hH => aBj) ?_
 refine aA rfl rfl rfl ?_
 first | refine bV rfl rfl rfl ?_ | refine bQ rfl rfl rfl ?_
 first | refine bG rfl rfl rfl Tryz.underlying78 rfl oQ rfl rfl ?_ | refine nZ rfl rfl rfl Tryz.underlying78 rfl oQ rfl rfl ?_
 refine bL rfl rfl rfl (by first | exact cS Tryz.underlying75 rfl (by repeat (first | exact List.Mem.head _ | apply List.Mem.tail | apply List.mem_append_right)) (by first | exact aL rfl | rfl) | exact cG Tryz.underlying75 rfl (by first | assumption | exact InA.add (by assumption) | exact InA.add (InA.add (by assumption))) (by assumption)) ?_
 refine aDs rfl rfl rfl Tryz.underlying75 Tryz.underlying5 Tryz.underlying9 ?_
 refine aA rfl rfl rfl ?_
 refine aA rfl rfl rfl ?_
 refine cQ rfl (fun _ => (by repeat (first | exact List.Mem.head _ | apply List.Mem.tail | apply List.mem_append_right))) rfl rfl iA (by first | exact aI _ _ | rfl) rfl (by repeat (first | exact .zero | apply Upd.succ)) (by first | exact bW rfl | exact bR rfl | exact bK rfl | exact cD rfl | rfl) (by first | exact aT rfl rfl | exact aT rfl (aI _ _) | exact aP rfl | exact Nat.le_of_ble_eq_true rfl | omega) (fun _ => (by repeat (first | exact List.nil_sublist _ | apply List.Sublist.cons_cons | apply List.Sublist.cons))) ?_
 refine aC rfl rfl rfl ?_
 refine aC rfl rfl rfl ?_
 refine aC rfl rfl rfl ?_
 refine aD ?_
 refine cI ?_
 refine bT ?_
 refine eS (.cell rfl (by first | exact cM Tryz.underlying30 rfl iA rfl (by repeat (first | exact List.Mem.head _ | apply List.Mem.tail | apply List.mem_append_right)) (by first | exact aP rfl | exact Nat.le_of_ble_eq_true rfl | decide | omega) (by first | exact bM | exact take_all rfl | exact bD rfl | rfl) | exact cF Tryz.underlying30 rfl iA rfl (by first | assumption | exact InA.add (by assumption) | exact InA.add (InA.add (by assumption))) (by assumption)) (.tmp rfl (.tmp rfl (.tmp rfl .nil)))) rfl ?_
 exact fun H hH => ⟨rfl, hH.kept⟩

end Go.Proofs.YthgfcpgjabodoaaGreatDoor
