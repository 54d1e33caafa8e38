/-
  Walks, laid by program.
-/
import Derived.Test.YtgkfobiiebpfhaaGreatDoorB0
set_option linter.unusedVariables false
set_option linter.unusedSimpArgs false
set_option maxRecDepth 100000
namespace Go.Proofs.YtgkfobiiebpfhaaGreatDoor
open Go Go.AM

/-- one step of the checksum's register -/
def step1 (x : Nat) : Nat := bif Nat.beq (x % 2) 1 then (x / 2) ^^^ 3988292384 else x / 2
def step8 (x : Nat) : Nat := step1 (step1 (step1 (step1 (step1 (step1 (step1 (step1 x)))))))
def crcS (c : Nat) (b : UInt8) : Nat := (c / 256) ^^^ step8 ((c % 256) ^^^ b.toNat)
def crcL (l : List UInt8) : Nat := l.foldl crcS 4294967295
/-- the checksum of a text -/
def crcV (l : List UInt8) : Nat := 4294967295 - crcL l
theorem step1_lt {x : Nat} (h : x < 4294967296) : step1 x < 4294967296 := by
  unfold step1
  cases Nat.beq (x % 2) 1 with
  | true => exact Nat.xor_lt_two_pow (n := 32) (by omega) (by decide)
  | false => show x / 2 < _; omega
theorem step8_lt {x : Nat} (h : x < 4294967296) : step8 x < 4294967296 := step1_lt (step1_lt (step1_lt (step1_lt (step1_lt (step1_lt (step1_lt (step1_lt h)))))))
theorem crcS_lt {c : Nat} (h : c < 4294967296) (b : UInt8) : crcS c b < 4294967296 := by
  have hb := b.toNat_lt
  have : (c % 256) ^^^ b.toNat < 2 ^ 8 := Nat.xor_lt_two_pow (by omega) (by omega)
  exact Nat.xor_lt_two_pow (n := 32) (by omega) (step8_lt (by omega))
theorem crcF_lt : ∀ (l : List UInt8) (c : Nat), c < 4294967296 → l.foldl crcS c < 4294967296
  | [], c, h => h
  | b :: l, c, h => crcF_lt l _ (crcS_lt h b)
theorem crcL_lt (l : List UInt8) : crcL l < 4294967296 := crcF_lt l _ (by decide)
theorem crcL_snoc {l : List UInt8} {k : Nat} {b : UInt8} (h : l[k]? = some b) : crcL (l.take (k + 1)) = crcS (crcL (l.take k)) b := by
  rw [List.take_succ_eq_append_getElem (lt_of_getElem? h), crcL, List.foldl_append]
  obtain ⟨hk, rfl⟩ := List.getElem?_eq_some_iff.1 h
  rfl
def tabL : List Value := (List.range 256).map fun i => .int .u32 (step8 i : Int)
theorem tabL_at {j : Nat} (h : j < 256) : tabL[j]? = some (.int .u32 (step8 j : Int)) := by
  simp only [tabL, List.getElem?_map, List.getElem?_range h, Option.map_some]
def stepN : Nat → Nat → Nat
  | 0, x => x
  | k + 1, x => step1 (stepN k x)
theorem stepN_lt {x : Nat} (h : x < 4294967296) : ∀ k, stepN k x < 4294967296
  | 0 => h
  | k + 1 => step1_lt (stepN_lt h k)
theorem stepN_odd {x k : Nat} (h : stepN k x % 2 = 1) : stepN (k + 1) x = (stepN k x / 2) ^^^ 3988292384 := by
  show step1 _ = _
  unfold step1
  rw [h]; rfl
theorem stepN_even {x k : Nat} (h : ¬ stepN k x % 2 = 1) : stepN (k + 1) x = stepN k x / 2 := by
  show step1 _ = _
  unfold step1
  rw [show stepN k x % 2 = 0 by omega]; rfl
/-- the table, k entries of it filled -/
def fT (k : Nat) (j : Nat) : Value := .int .u32 ((bif Nat.blt j k then stepN 8 j else 0 : Nat) : Int)
theorem tabT_set {k : Nat} (h : k < 256) : (cellsOf 256 (fT k)).take k ++ ([.int .u32 ((stepN 8 k : Nat) : Int)] ++ (cellsOf 256 (fT k)).drop (k + 1)) = cellsOf 256 (fT (k + 1)) := by
  rw [cellsOf_set (by simp only [Nat.blt, Nat.ble_eq]; omega)]
  congr 1
  funext j
  unfold upd1 fT
  cases e : Nat.beq j k with
  | true =>
    have := Nat.eq_of_beq_eq_true e
    subst this
    have : Nat.blt j (j + 1) = true := by simp only [Nat.blt, Nat.ble_eq]; omega
    rw [this]; rfl
  | false =>
    have hne : j ≠ k := fun q => by rw [q] at e; simp at e
    have : Nat.blt j (k + 1) = Nat.blt j k := by
      rw [Bool.eq_iff_iff]; simp only [Nat.blt, Nat.ble_eq]; omega
    rw [this]; rfl
theorem tabT_all : cellsOf 256 (fT 256) = tabL := by
  unfold cellsOf tabL
  apply List.map_congr_left
  intro j hj
  have : Nat.blt j 256 = true := by have := List.mem_range.1 hj; simp only [Nat.blt, Nat.ble_eq]; omega
  unfold fT
  rw [this]; rfl

theorem xor_sub : ∀ (n c : Nat), c < 2 ^ n → (2 ^ n - 1) ^^^ c = 2 ^ n - 1 - c := by
  intro n c h
  apply Nat.eq_of_testBit_eq
  intro i
  rw [Nat.testBit_xor, Nat.testBit_two_pow_sub_one, show 2 ^ n - 1 - c = 2 ^ n - (c + 1) by omega, Nat.testBit_two_pow_sub_succ h]
  by_cases hi : i < n
  · simp [hi]
  · have : c.testBit i = false := Nat.testBit_lt_two_pow (Nat.lt_of_lt_of_le h (Nat.pow_le_pow_right (by decide) (by omega)))
    simp [hi, this]
theorem not_u32 {c : Nat} (h : c < 4294967296) : 4294967295 ^^^ c = 4294967295 - c := xor_sub 32 c h
set_option maxHeartbeats 1000000 in
theorem tab_ok (S : AH) : XCall Tryz.prog 187 [] S fun v H' => v = .agg ⟨tabL⟩ ∧ Kept S.nx S H' := by
  refine x_enter (E := E) (n := 25) (rs := [.cell 0 268]) (l := []) (fn_own Tryz.func187 rfl rfl rfl) (A0 := fun _ => False) (fun j h => h.elim) rfl ?_
  refine sx_seq ?_
  refine sx_region (E := E) ?_
  refine so_alloc (cs := cellsOf 256 (fT 0)) rfl rfl (fun h => nomatch h) inf268 rfl (by kernel_rfl) ?_
  intro N0
  refine so_then ?_
  refine sx_seq ?_
  refine sx_region (E := E) ?_
  refine so_alloc (cs := cellsOf 256 (fT 0)) rfl rfl (fun h => nomatch h) inf268 rfl (by kernel_rfl) ?_
  intro N1
  refine so_then ?_
  refine sx_seq ?_
  refine sx_seq ?_
  refine sx_region (E := E) ?_
  refine so_move rfl rfl rfl ?_
  refine so_then ?_
  refine sx_block ?_
  refine sx_loop (σ := Nat) (fun k => 256 - k) (fun k => [(0, .pointer (some ⟨2 * N0 + 1, 0, none⟩)), (1, .pointer (some ⟨2 * N1 + 1, 0, none⟩)), (4, .int .i64 ((k : Nat) : Int))]) (fun _ => S) (fun _ => fun _ => False) (fun k => [(N1, .cells (cellsOf 256 (fT k)) (boxsz E 268) true), (N0, .cells (cellsOf 256 (fT 0)) (boxsz E 268) true)]) (fun k => k ≤ 256) (0) ((Nat.zero_le _)) (by repeat (first | exact .nil | refine .cons rfl ?_)) rfl rfl (by repeat (first | exact List.nil_sublist _ | apply List.Sublist.cons_cons | apply List.Sublist.cons)) ?_
  intro s hJ t1
  refine sx_seq ?_
  rcases Nat.lt_or_ge s 256 with hk | hk
  · skip
    refine sx_region (E := E) ?_
    refine so_bin rfl rfl rfl rfl (by first | exact bin_lss_t (by omega) | exact bin_lss_f (by omega)) ?_
    refine so_then ?_
    refine sx_seq ?_
    refine sx_true rfl ?_
    refine sx_skip ?_
    refine sk_then ?_
    refine sx_seq ?_
    refine sx_block ?_
    refine sx_seq ?_
    refine sx_region (E := E) ?_
    refine so_move rfl rfl rfl ?_
    refine so_assign rfl rfl rfl ?_
    refine so_then ?_
    refine sx_seq ?_
    refine sx_region (E := E) ?_
    refine so_move rfl rfl rfl ?_
    refine so_convI rfl rfl rfl Tryz.underlying3 Tryz.underlying202 (wraps_u32n _ (by omega) (by omega)) ?_
    refine so_assign rfl rfl rfl ?_
    refine so_then ?_
    refine sx_seq ?_
    refine sx_seq ?_
    refine sx_region (E := E) ?_
    refine so_move rfl rfl rfl ?_
    refine so_then ?_
    refine sx_block ?_
    refine sx_loop (σ := Nat) (fun k => 8 - k) (fun k => [(0, .pointer (some ⟨2 * N0 + 1, 0, none⟩)), (1, .pointer (some ⟨2 * N1 + 1, 0, none⟩)), (2, .int .i64 ((s : Nat) : Int)), (3, .int .u32 ((stepN k s : Nat) : Int)), (4, .int .i64 ((s : Nat) : Int)), (9, .int .i64 ((k : Nat) : Int))]) (fun _ => S) (fun _ => fun _ => False) (fun k => [(N1, .cells (cellsOf 256 (fT s)) (boxsz E 268) true), (N0, .cells (cellsOf 256 (fT 0)) (boxsz E 268) true)]) (fun k => k ≤ 8) (0) ((Nat.zero_le _)) (by repeat (first | exact .nil | refine .cons rfl ?_)) rfl rfl (by repeat (first | exact List.nil_sublist _ | apply List.Sublist.cons_cons | apply List.Sublist.cons)) ?_
    intro k2 hJ2 t2
    refine sx_seq ?_
    rcases Nat.lt_or_ge k2 8 with hk2 | hk2
    · skip
      have hc := stepN_lt (x := s) (by omega) k2
      have ha : bits .and .u32 ((stepN k2 s : Nat) : Int) 1 = ((stepN k2 s % 2 : Nat) : Int) := bits_mask .u32 32 (by decide) wraps_u32n 1 (by decide) _ (by omega) (by omega)
      refine sx_region (E := E) ?_
      refine so_bin rfl rfl rfl rfl (by first | exact bin_lss_t (by omega) | exact bin_lss_f (by omega)) ?_
      refine so_then ?_
      refine sx_seq ?_
      refine sx_true rfl ?_
      refine sx_skip ?_
      refine sk_then ?_
      refine sx_seq ?_
      refine sx_block ?_
      refine sx_seq ?_
      by_cases hp : stepN k2 s % 2 = 1
      · skip
        have hx : bits .xor .u32 ((stepN k2 s / 2 : Nat) : Int) 3988292384 = ((stepN (k2 + 1) s : Nat) : Int) := by rw [stepN_odd hp]; exact bits_xor_nat .u32 32 (by decide) wraps_u32n _ 3988292384 (by omega) (by decide)
        refine sx_region (E := E) ?_
        refine so_move rfl rfl rfl ?_
        refine so_bin rfl rfl rfl rfl (by first | exact bin_and ha) ?_
        refine so_bin rfl rfl rfl rfl (by first | exact bin_eql_t (by first | rfl | assumption | omega) | exact bin_eql_f (by first | rfl | assumption | omega)) ?_
        refine so_then ?_
        refine sx_true rfl ?_
        refine sx_region (E := E) ?_
        refine so_move rfl rfl rfl ?_
        refine so_bin rfl rfl rfl rfl (by first | exact bin_shr (by decide) (shr_nat (j := 1) rfl)) ?_
        refine so_bin rfl rfl rfl rfl (by first | exact bin_xor hx) ?_
        refine so_assign rfl rfl rfl ?_
        refine so_nil ?_
        refine sk_block ?_
        refine sk_then ?_
        refine sx_region (E := E) ?_
        refine so_bin rfl rfl rfl rfl (by first | exact bin_incr (by omega) | exact bin_add (wrap64 (by omega) (by omega)) | exact bin_add rfl) ?_
        refine so_move rfl rfl rfl ?_
        refine so_nil ?_
        refine sk_round (k2 + 1) (show 8 - (k2 + 1) < 8 - k2 by omega) (by omega) (by repeat (first | exact .nil | refine .cons rfl ?_)) rfl rfl (by repeat (first | exact List.nil_sublist _ | apply List.Sublist.cons_cons | apply List.Sublist.cons))
      · skip
        have hx : ((stepN k2 s : Nat) : Int).fdiv (2 ^ (min (1 : Int).toNat IntKind.u32.bits)) = ((stepN (k2 + 1) s : Nat) : Int) := by rw [stepN_even hp]; exact shr_nat (j := 1) rfl
        refine sx_region (E := E) ?_
        refine so_move rfl rfl rfl ?_
        refine so_bin rfl rfl rfl rfl (by first | exact bin_and ha) ?_
        refine so_bin rfl rfl rfl rfl (by first | exact bin_eql_t (by first | rfl | assumption | omega) | exact bin_eql_f (by first | rfl | assumption | omega)) ?_
        refine so_then ?_
        refine sx_false rfl ?_
        refine sx_region (E := E) ?_
        refine so_move rfl rfl rfl ?_
        refine so_bin rfl rfl rfl rfl (by first | exact bin_shr (by decide) hx) ?_
        refine so_assign rfl rfl rfl ?_
        refine so_nil ?_
        refine sk_block ?_
        refine sk_then ?_
        refine sx_region (E := E) ?_
        refine so_bin rfl rfl rfl rfl (by first | exact bin_incr (by omega) | exact bin_add (wrap64 (by omega) (by omega)) | exact bin_add rfl) ?_
        refine so_move rfl rfl rfl ?_
        refine so_nil ?_
        refine sk_round (k2 + 1) (show 8 - (k2 + 1) < 8 - k2 by omega) (by omega) (by repeat (first | exact .nil | refine .cons rfl ?_)) rfl rfl (by repeat (first | exact List.nil_sublist _ | apply List.Sublist.cons_cons | apply List.Sublist.cons))
    · skip
      obtain rfl : k2 = 8 := by omega
      refine sx_region (E := E) ?_
      refine so_bin rfl rfl rfl rfl (by first | exact bin_lss_t (by omega) | exact bin_lss_f (by omega)) ?_
      refine so_then ?_
      refine sx_seq ?_
      refine sx_false rfl ?_
      refine sx_exit ?_
      refine sk_then_exit ?_
      refine sk_loop_exit ?_
      refine sk_block_exit ?_
      refine sk_then ?_
      refine sx_region (E := E) ?_
      refine so_move rfl rfl rfl ?_
      refine so_move rfl rfl rfl ?_
      refine so_indexP rfl rfl rfl rfl Tryz.underlying268 inf202 rfl hk (show 0 + s * 1 = s by omega) ?_
      refine so_storeS rfl (fun h => nomatch h) rfl rfl inf202 rfl rfl (by repeat (first | exact .zero | apply Upd.succ)) (tabT_set hk) (by rw [cellsOf_length]; omega) (fun h => nomatch h) ?_
      refine so_nil ?_
      refine sk_block ?_
      refine sk_then ?_
      refine sx_region (E := E) ?_
      refine so_bin rfl rfl rfl rfl (by first | exact bin_incr (by omega) | exact bin_add (wrap64 (by omega) (by omega)) | exact bin_add rfl) ?_
      refine so_move rfl rfl rfl ?_
      refine so_nil ?_
      refine sk_round (s + 1) (show 256 - (s + 1) < 256 - s by omega) (by omega) (by repeat (first | exact .nil | refine .cons rfl ?_)) rfl rfl (by repeat (first | exact List.nil_sublist _ | apply List.Sublist.cons_cons | apply List.Sublist.cons))
  · skip
    obtain rfl : s = 256 := by omega
    refine sx_region (E := E) ?_
    refine so_bin rfl rfl rfl rfl (by first | exact bin_lss_t (by omega) | exact bin_lss_f (by omega)) ?_
    refine so_then ?_
    refine sx_seq ?_
    refine sx_false rfl ?_
    refine sx_exit ?_
    refine sk_then_exit ?_
    refine sk_loop_exit ?_
    refine sk_block_exit ?_
    refine sk_then ?_
    refine sx_seq ?_
    refine sx_region (E := E) ?_
    refine so_load rfl rfl rfl (by first | exact ld_ownA Tryz.underlying268 rfl inf268 rfl (by repeat (first | exact List.Mem.head _ | apply List.Mem.tail)) (by first | exact cellsOf_le rfl | exact Nat.le_of_ble_eq_true rfl | decide | omega) (by first | exact cellsOf_all | exact take_all rfl | exact cellsOf_part rfl | rfl) | exact ld_dataA Tryz.underlying268 rfl inf268 rfl (by first | assumption | exact InA.add (by assumption) | exact InA.add (InA.add (by assumption))) (by assumption)) ?_
    refine so_storeA rfl (fun h => nomatch h) rfl rfl inf268 (cellsOf_length _ _) (by kernel_rfl) (by repeat (first | exact .zero | apply Upd.succ)) (store_all (by rw [cellsOf_length, cellsOf_length])) (by first | exact cellsOf_in rfl rfl | exact cellsOf_in rfl (cellsOf_length _ _) | exact cellsOf_le rfl | exact Nat.le_of_ble_eq_true rfl | omega) (fun h => nomatch h) ?_
    refine so_then ?_
    refine sx_ret ?_
    refine sk_return1 (.cell rfl (by first | exact ld_ownA Tryz.underlying268 rfl inf268 rfl (by repeat (first | exact List.Mem.head _ | apply List.Mem.tail)) (by first | exact cellsOf_le rfl | exact Nat.le_of_ble_eq_true rfl | decide | omega) (by first | exact cellsOf_all | exact take_all rfl | exact cellsOf_part rfl | rfl) | exact ld_dataA Tryz.underlying268 rfl inf268 rfl (by first | assumption | exact InA.add (by assumption) | exact InA.add (InA.add (by assumption))) (by assumption)) .nil) ?_
    exact fun H hH => ⟨by rw [tabT_all], hH.kept⟩

end Go.Proofs.YtgkfobiiebpfhaaGreatDoor
