/-
  Walks, laid by program.
-/
import Derived.Test.YtgkfobiiebpfhaaGreatDoorD0
set_option linter.unusedVariables false
set_option linter.unusedSimpArgs false
set_option maxRecDepth 100000
namespace Go.Proofs.YtgkfobiiebpfhaaGreatDoor
open Go Go.AM
set_option maxHeartbeats 1000000 in
theorem crc_ok {S : AH} (q : ByteArray) (hq : q.data.toList.length ≤ 4611686018427387904) : XCall Tryz.prog 123 [.string q] S fun v H' => v = .int .u32 (crcV q.data.toList : Int) ∧ Kept S.nx S H' := by
  refine x_enter (E := E) (n := 26) (rs := [.tmp 2]) (l := [(0, _)]) (fn_own Tryz.func123 rfl rfl rfl) (A0 := fun _ => False) (fun j h => h.elim) rfl ?_
  refine sx_seq ?_
  refine sx_region (E := E) ?_
  refine so_assign rfl rfl rfl ?_
  refine so_then ?_
  refine sx_seq ?_
  refine sx_region (E := E) ?_
  refine so_call rfl rfl (fun h => nomatch h) rfl has187 (by repeat (first | exact Opvs.nil | apply Opvs.cons rfl)) (fun H hH => tab_ok H) ?_
  refine so_alloc (cs := (.int .u32 0 :: .int .u32 0 :: .int .u32 0 :: .int .u32 0 :: .int .u32 0 :: .int .u32 0 :: .int .u32 0 :: .int .u32 0 :: .int .u32 0 :: .int .u32 0 :: .int .u32 0 :: .int .u32 0 :: .int .u32 0 :: .int .u32 0 :: .int .u32 0 :: .int .u32 0 :: .int .u32 0 :: .int .u32 0 :: .int .u32 0 :: .int .u32 0 :: .int .u32 0 :: .int .u32 0 :: .int .u32 0 :: .int .u32 0 :: .int .u32 0 :: .int .u32 0 :: .int .u32 0 :: .int .u32 0 :: .int .u32 0 :: .int .u32 0 :: .int .u32 0 :: .int .u32 0 :: .int .u32 0 :: .int .u32 0 :: .int .u32 0 :: .int .u32 0 :: .int .u32 0 :: .int .u32 0 :: .int .u32 0 :: .int .u32 0 :: .int .u32 0 :: .int .u32 0 :: .int .u32 0 :: .int .u32 0 :: .int .u32 0 :: .int .u32 0 :: .int .u32 0 :: .int .u32 0 :: .int .u32 0 :: .int .u32 0 :: .int .u32 0 :: .int .u32 0 :: .int .u32 0 :: .int .u32 0 :: .int .u32 0 :: .int .u32 0 :: .int .u32 0 :: .int .u32 0 :: .int .u32 0 :: .int .u32 0 :: .int .u32 0 :: .int .u32 0 :: .int .u32 0 :: .int .u32 0 :: .int .u32 0 :: .int .u32 0 :: .int .u32 0 :: .int .u32 0 :: .int .u32 0 :: .int .u32 0 :: .int .u32 0 :: .int .u32 0 :: .int .u32 0 :: .int .u32 0 :: .int .u32 0 :: .int .u32 0 :: .int .u32 0 :: .int .u32 0 :: .int .u32 0 :: .int .u32 0 :: .int .u32 0 :: .int .u32 0 :: .int .u32 0 :: .int .u32 0 :: .int .u32 0 :: .int .u32 0 :: .int .u32 0 :: .int .u32 0 :: .int .u32 0 :: .int .u32 0 :: .int .u32 0 :: .int .u32 0 :: .int .u32 0 :: .int .u32 0 :: .int .u32 0 :: .int .u32 0 :: .int .u32 0 :: .int .u32 0 :: .int .u32 0 :: .int .u32 0 :: .int .u32 0 :: .int .u32 0 :: .int .u32 0 :: .int .u32 0 :: .int .u32 0 :: .int .u32 0 :: .int .u32 0 :: .int .u32 0 :: .int .u32 0 :: .int .u32 0 :: .int .u32 0 :: .int .u32 0 :: .int .u32 0 :: .int .u32 0 :: .int .u32 0 :: .int .u32 0 :: .int .u32 0 :: .int .u32 0 :: .int .u32 0 :: .int .u32 0 :: .int .u32 0 :: .int .u32 0 :: .int .u32 0 :: .int .u32 0 :: .int .u32 0 :: .int .u32 0 :: .int .u32 0 :: .int .u32 0 :: .int .u32 0 :: .int .u32 0 :: .int .u32 0 :: .int .u32 0 :: .int .u32 0 :: .int .u32 0 :: .int .u32 0 :: .int .u32 0 :: .int .u32 0 :: .int .u32 0 :: .int .u32 0 :: .int .u32 0 :: .int .u32 0 :: .int .u32 0 :: .int .u32 0 :: .int .u32 0 :: .int .u32 0 :: .int .u32 0 :: .int .u32 0 :: .int .u32 0 :: .int .u32 0 :: .int .u32 0 :: .int .u32 0 :: .int .u32 0 :: .int .u32 0 :: .int .u32 0 :: .int .u32 0 :: .int .u32 0 :: .int .u32 0 :: .int .u32 0 :: .int .u32 0 :: .int .u32 0 :: .int .u32 0 :: .int .u32 0 :: .int .u32 0 :: .int .u32 0 :: .int .u32 0 :: .int .u32 0 :: .int .u32 0 :: .int .u32 0 :: .int .u32 0 :: .int .u32 0 :: .int .u32 0 :: .int .u32 0 :: .int .u32 0 :: .int .u32 0 :: .int .u32 0 :: .int .u32 0 :: .int .u32 0 :: .int .u32 0 :: .int .u32 0 :: .int .u32 0 :: .int .u32 0 :: .int .u32 0 :: .int .u32 0 :: .int .u32 0 :: .int .u32 0 :: .int .u32 0 :: .int .u32 0 :: .int .u32 0 :: .int .u32 0 :: .int .u32 0 :: .int .u32 0 :: .int .u32 0 :: .int .u32 0 :: .int .u32 0 :: .int .u32 0 :: .int .u32 0 :: .int .u32 0 :: .int .u32 0 :: .int .u32 0 :: .int .u32 0 :: .int .u32 0 :: .int .u32 0 :: .int .u32 0 :: .int .u32 0 :: .int .u32 0 :: .int .u32 0 :: .int .u32 0 :: .int .u32 0 :: .int .u32 0 :: .int .u32 0 :: .int .u32 0 :: .int .u32 0 :: .int .u32 0 :: .int .u32 0 :: .int .u32 0 :: .int .u32 0 :: .int .u32 0 :: .int .u32 0 :: .int .u32 0 :: .int .u32 0 :: .int .u32 0 :: .int .u32 0 :: .int .u32 0 :: .int .u32 0 :: .int .u32 0 :: .int .u32 0 :: .int .u32 0 :: .int .u32 0 :: .int .u32 0 :: .int .u32 0 :: .int .u32 0 :: .int .u32 0 :: .int .u32 0 :: .int .u32 0 :: .int .u32 0 :: .int .u32 0 :: .int .u32 0 :: .int .u32 0 :: .int .u32 0 :: .int .u32 0 :: .int .u32 0 :: .int .u32 0 :: .int .u32 0 :: .int .u32 0 :: .int .u32 0 :: .int .u32 0 :: .int .u32 0 :: .int .u32 0 :: .int .u32 0 :: .int .u32 0 :: .int .u32 0 :: .int .u32 0 :: .int .u32 0 :: .int .u32 0 :: .int .u32 0 :: .int .u32 0 :: [])) rfl rfl (fun h => nomatch h) inf268 rfl rfl ?_
  intro N3
  refine so_storeA rfl (fun h => nomatch h) rfl rfl inf268 (by kernel_rfl) (by kernel_rfl) (by repeat (first | exact .zero | apply Upd.succ)) (store_all (by kernel_rfl)) (by first | exact cellsOf_in rfl rfl | exact cellsOf_in rfl (cellsOf_length _ _) | exact cellsOf_le rfl | exact Nat.le_of_ble_eq_true rfl | omega) (fun h => nomatch h) ?_
  refine so_then ?_
  refine sx_seq ?_
  refine sx_region (E := E) ?_
  refine so_assign rfl rfl rfl ?_
  refine so_then ?_
  refine sx_seq ?_
  refine sx_seq ?_
  refine sx_region (E := E) ?_
  refine so_move rfl rfl rfl ?_
  refine so_lenS rfl rfl rfl rfl rfl rfl Tryz.underlying9 ?_
  refine so_move rfl rfl rfl ?_
  refine so_then ?_
  refine sx_block ?_
  refine sx_loop (σ := Nat) (fun k => q.data.toList.length - k) (fun k => [(0, .string q), (3, .pointer (some ⟨2 * N3 + 1, 0, none⟩)), (4, .int .u32 (crcL (q.data.toList.take k) : Int)), (8, .int .i64 ((q.data.toList.length : Nat) : Int)), (9, .int .i64 ((k : Nat) : Int))]) (fun _ => S) (fun _ => fun _ => False) (fun _ => [(N3, .cells tabL (boxsz E 268) true)]) (fun k => k ≤ q.data.toList.length) (0) ((Nat.zero_le _)) (by repeat (first | exact .nil | refine .cons rfl ?_)) rfl rfl (by repeat (first | exact List.nil_sublist _ | apply List.Sublist.cons_cons | apply List.Sublist.cons)) ?_
  intro s hJ t1
  refine sx_seq ?_
  rcases Nat.lt_or_ge s q.data.toList.length with hk | hk
  · skip
    obtain ⟨b, hb⟩ : ∃ b, q.data.toList[s]? = some b := ⟨_, List.getElem?_eq_getElem hk⟩
    have hnew := crcL_snoc hb
    have hc := crcL_lt (q.data.toList.take s)
    generalize hcc : crcL (q.data.toList.take s) = c at hnew hc ⊢
    have hb8 := b.toNat_lt
    have hx8 : (c % 256) ^^^ b.toNat < 2 ^ 8 := Nat.xor_lt_two_pow (by omega) (by omega)
    have hx : bits .xor .u8 ((c % 256 : Nat) : Int) (b.toNat : Int) = (((c % 256) ^^^ b.toNat : Nat) : Int) := bits_xor_nat .u8 8 (by decide) wraps_u8n _ _ (by omega) (by omega)
    have hy : bits .xor .u32 ((c / 256 : Nat) : Int) ((step8 ((c % 256) ^^^ b.toNat) : Nat) : Int) = ((crcS c b : Nat) : Int) := bits_xor_nat .u32 32 (by decide) wraps_u32n _ _ (by omega) (step8_lt (by omega))
    refine sx_region (E := E) ?_
    refine so_bin rfl rfl rfl rfl (by first | exact bin_lss_t (by omega) | exact bin_lss_f (by omega)) ?_
    refine so_then ?_
    refine sx_seq ?_
    refine sx_true rfl ?_
    refine sx_skip ?_
    refine sk_then ?_
    refine sx_seq ?_
    refine sx_block ?_
    refine sx_seq ?_
    refine sx_region (E := E) ?_
    refine so_move rfl rfl rfl ?_
    refine so_assign rfl rfl rfl ?_
    refine so_then ?_
    refine sx_region (E := E) ?_
    refine so_move rfl rfl rfl ?_
    refine so_bin rfl rfl rfl rfl (by first | exact bin_shr (by decide) (shr_nat (j := 8) rfl)) ?_
    refine so_move rfl rfl rfl ?_
    refine so_convI rfl rfl rfl Tryz.underlying202 Tryz.underlying5 (u8_wrap c) ?_
    refine so_move rfl rfl rfl ?_
    refine so_move rfl rfl rfl ?_
    refine so_strAt rfl rfl rfl rfl Tryz.underlying9 (by assumption) ?_
    refine so_bin rfl rfl rfl rfl (by first | exact bin_xor hx) ?_
    refine so_indexP rfl rfl rfl rfl Tryz.underlying268 inf202 rfl (show (c % 256) ^^^ b.toNat < 256 by omega) rfl ?_
    refine so_load rfl rfl rfl (ld_own Tryz.underlying202 rfl (by repeat (first | exact List.Mem.head _ | apply List.Mem.tail)) (show tabL[0 + ((c % 256) ^^^ b.toNat) * 1]? = _ by rw [Nat.zero_add, Nat.mul_one]; exact tabL_at (by omega))) ?_
    refine so_bin rfl rfl rfl rfl (by first | exact bin_xor hy) ?_
    refine so_assign rfl rfl rfl ?_
    refine so_nil ?_
    refine sk_block ?_
    refine sk_then ?_
    refine sx_region (E := E) ?_
    refine so_bin rfl rfl rfl rfl (by first | exact bin_incr (by omega) | exact bin_add (wrap64 (by omega) (by omega)) | exact bin_add rfl) ?_
    refine so_move rfl rfl rfl ?_
    refine so_nil ?_
    refine sk_round (s + 1) (show q.data.toList.length - (s + 1) < q.data.toList.length - s by omega) (by omega) (by repeat (first | exact .nil | refine .cons (by first | rfl | (rw [hnew]; rfl)) ?_)) rfl rfl (by repeat (first | exact List.nil_sublist _ | apply List.Sublist.cons_cons | apply List.Sublist.cons))
  · skip
    obtain rfl : s = q.data.toList.length := by omega
    rw [List.take_length]
    have hc := crcL_lt q.data.toList
    have hn : bits .xor .u32 IntKind.u32.max (crcL q.data.toList : Int) = ((crcV q.data.toList : Nat) : Int) := by rw [show IntKind.u32.max = ((4294967295 : Nat) : Int) from rfl, bits_xor_nat .u32 32 (by decide) wraps_u32n _ _ (by decide) (by omega), not_u32 hc]; rfl
    refine sx_region (E := E) ?_
    refine so_bin rfl rfl rfl rfl (by first | exact bin_lss_t (by omega) | exact bin_lss_f (by omega)) ?_
    refine so_then ?_
    refine sx_seq ?_
    refine sx_false rfl ?_
    refine sx_exit ?_
    refine sk_then_exit ?_
    refine sk_loop_exit ?_
    refine sk_block_exit ?_
    refine sk_then ?_
    refine sx_seq ?_
    refine sx_region (E := E) ?_
    refine so_move rfl rfl rfl ?_
    refine so_un rfl rfl rfl (show aun .xor (.int .u32 _) = some (.int .u32 _) by simp only [aun]; exact congrArg (fun z => some (Value.int .u32 z)) hn) ?_
    refine so_assign rfl rfl rfl ?_
    refine so_then ?_
    refine sx_ret ?_
    refine sk_return1 (.tmp rfl .nil) ?_
    exact fun H hH => ⟨rfl, hH.kept⟩

end Go.Proofs.YtgkfobiiebpfhaaGreatDoor
