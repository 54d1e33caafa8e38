/-
  Walks, laid by program.
-/
import Derived.Test.YtaedeadgbojmnaaF2
set_option linter.unusedVariables false
set_option linter.unusedSimpArgs false
set_option maxRecDepth 100000
namespace Go.Proofs.Ytaedeadgbojmnaa
open Go Go.AM

theorem recR_of {S H0 H : AH} {A A1 : Nat → Prop} {L : OL} {v : Value} {e : Int} {es bs l : List (List CT)} (hH : HS S H0 A A1 L H) (hs : RecS es bs e l) (h : CellA A1 H0 (.row 848 k51) v (.row l)) : RecR es bs A S (.tuple ⟨[v, .int .i64 e]⟩) H :=
  ⟨hH.kept, v, e, l, rfl, hs, CellA.gr (hH.gr.trans ⟨fun j hj => (hH.sub j hj).imp id fun h => ⟨h, hH.lt j hj⟩, fun _ _ => rfl, rfl⟩) _ _ _ h⟩
theorem nil_acts {A : Nat → Prop} {H : AH} {b : Nat} {ks : List Kd} : CellA A H (.row b ks) (.slice none 0 0) (.row []) := by
  simp only [CellA]; exact ⟨by simp, by simp, .inl ⟨trivial, trivial⟩⟩
/-- the cells of so many zero actions -/
def zacts (n : Nat) (z : Value) : List Value := extL (zcells (if n * 85 = 0 then #[] else z.cells) (n * 85))
theorem zacts_len (n : Nat) (z : Value) : (zacts n z).length = n * 85 := by
  have key : ∀ l : List Value, (extL l).length = l.length := fun l => by
    induction l with
    | nil => rfl
    | cons x l ih => simp [extL, ih]
  rw [zacts, key, zcells_length]
theorem one_cell {A : Nat → Prop} {H : AH} {k : Kd} {v : Value} {d : List CT} (h : CellsA A H [k] [v] d) : ∃ b, d = [b] ∧ CellA A H k v b := by
  match d, h with
  | [b], h => exact ⟨b, rfl, h.1⟩
theorem acts_in {n i : Nat} {cells : List Value} {x : Nat → Value} (hcl : cells.length = n * 85) (hk : i < n) : 0 + i * 85 + (cellsOf 85 x).length ≤ cells.length := by
  rw [cellsOf_length]; omega
theorem acts_len {n i : Nat} {cells : List Value} {x : Nat → Value} (hcl : cells.length = n * 85) (hk : i < n) : (cells.take (0 + i * 85) ++ (cellsOf 85 x ++ cells.drop (0 + i * 85 + 85))).length = n * 85 := by
  simp only [List.length_append, List.length_take, List.length_drop, cellsOf_length]; omega
theorem act_cells {A : Nat → Prop} {H : AH} {y : Nat → Value} {c : Nat → CT} {v : Value} {b : CT} (py : Pts A H k48 y c) (hv : CellA A H (.row 32 k79) v b) : CellsA A H k51 (cellsOf 85 (upd1 y 84 v)) (ctsOf 84 c ++ [b]) := by
  have e : k51 = k48 ++ [.row 32 k79] := by kernel_rfl
  have e2 : cellsOf 85 (upd1 y 84 v) = cellsOf 84 y ++ [v] := by kernel_rfl
  rw [e, e2]
  exact CellsA.append (py.cells (n := 84) rfl) ⟨hv, trivial⟩
theorem acts_set {A : Nat → Prop} {H : AH} {n i : Nat} {cells : List Value} {x : Nat → Value} {r : List (List CT)} {c0 : List CT} (hcl : cells.length = n * 85) (hk : i < n) (hg : ∀ (j : Nat) (c : List CT), j < i → r[j]? = some c → CellsA A H k51 ((cells.drop (j * 85)).take 85) c) (hr : r[i]? = some c0) (h : CellsA A H k51 (cellsOf 85 x) c0) :
    ∀ (j : Nat) (c : List CT), j < i + 1 → r[j]? = some c → CellsA A H k51 (((cells.take (0 + i * 85) ++ (cellsOf 85 x ++ cells.drop (0 + i * 85 + 85))).drop (j * 85)).take 85) c := by
  intro j c hj hc
  have hl : (cells.take (0 + i * 85)).length = i * 85 := by rw [List.length_take]; omega
  by_cases e : j = i
  · subst e
    rw [hr] at hc; cases hc
    rw [List.drop_append_of_le_length (by omega), show (cells.take (0 + j * 85)).drop (j * 85) = [] from List.drop_eq_nil_of_le (by omega), List.nil_append, List.take_append_of_le_length (by rw [cellsOf_length]; omega), List.take_of_length_le (by rw [cellsOf_length]; omega)]
    exact h
  · have hji : j * 85 + 85 ≤ i * 85 := by omega
    rw [List.drop_append_of_le_length (by omega), List.take_append_of_le_length (by rw [List.length_drop, hl]; omega), List.drop_take, List.take_take, Nat.min_eq_left (by omega)]
    exact hg j c (by omega) hc
set_option maxHeartbeats 2000000 in
theorem record_ok {S : AH} {A : Nat → Prop} (hA : ∀ j, A j → j < S.nx) {x y : Value} {es bs : List (List CT)} (hx : CellA A S (.row 848 k48) x (.row es)) (hy : CellA A S (.row 24 [.row 32 k79]) y (.row bs)) : XCall Try.prog 11 [x, y] S (RecR es bs A S) := by
  obtain ⟨l2, ax, cx, e2, rfl, rx⟩ := hx.rowD
  cases e2
  obtain ⟨l2, ay, cy, e2, rfl, ry⟩ := hy.rowD
  cases e2
  have hb := rx.len
  have hb2 := rx.bytes
  have hb3 := ry.len
  refine x_enter (E := E) (n := 43) (rs := [.tmp 4, .tmp 5]) (l := [(1, _), (0, _)]) (fn_own Try.func11 rfl rfl rfl) hA rfl ?_
  refine sx_seq ?_
  refine sx_region (E := E) ?_
  refine so_assign rfl rfl rfl ?_
  refine so_assign rfl rfl rfl ?_
  refine so_then ?_
  refine sx_seq ?_
  refine sx_seq ?_
  by_cases heq : es.length = bs.length
  · skip
    refine sx_region (E := E) ?_
    refine so_move rfl rfl rfl ?_
    refine so_lenL rfl rfl rfl rfl rfl rfl Try.underlying59 ?_
    refine so_move rfl rfl rfl ?_
    refine so_lenL rfl rfl rfl rfl rfl rfl Try.underlying60 ?_
    refine so_bin rfl rfl rfl rfl (by first | exact bin_neq_f (by first | rfl | assumption | omega) | exact bin_neq_t (by first | rfl | assumption | omega)) ?_
    refine so_then ?_
    refine sx_false rfl ?_
    refine sx_skip ?_
    refine sk_then ?_
    refine sx_seq ?_
    refine sx_region (E := E) ?_
    refine so_move rfl rfl rfl ?_
    refine so_lenL rfl rfl rfl rfl rfl rfl Try.underlying59 ?_
    refine so_make (cs := zacts es.length _) (s := 85) rfl rfl (fun h => nomatch h) rfl rfl Try.underlying61 inf51 rfl (Nat.le_refl _) (by omega) (show 872 * es.length ≤ 281474976710656 by omega) rfl rfl ?_
    intro N16
    refine so_assign rfl rfl rfl ?_
    refine so_then ?_
    refine sx_seq ?_
    refine sx_seq ?_
    refine sx_region (E := E) ?_
    refine so_move rfl rfl rfl ?_
    refine so_lenL rfl rfl rfl rfl rfl rfl Try.underlying59 ?_
    refine so_move rfl rfl rfl ?_
    refine so_then ?_
    refine sx_block ?_
    refine sx_loop (σ := Nat × List Value × AH × (Nat → Prop)) (fun q => es.length - q.1) (fun q => [(0, .slice ax es.length cx), (1, .slice ay bs.length cy), (6, .slice (some ⟨2 * N16 + 1, 0, none⟩) es.length es.length), (18, .int .i64 ((es.length : Nat) : Int)), (19, .int .i64 ((q.1 : Nat) : Int))]) (fun q => q.2.2.1) (fun q => q.2.2.2) (fun q => [(N16, .cells q.2.1 85 true)]) (fun q => q.1 ≤ es.length ∧ q.2.1.length = es.length * 85 ∧ Gr A S q.2.2.2 q.2.2.1 ∧ (∀ (j : Nat) (c : List CT), j < q.1 → (recs es bs)[j]? = some c → CellsA q.2.2.2 q.2.2.1 k51 ((q.2.1.drop (j * 85)).take 85) c)) ((0, zacts es.length _, S, A)) (⟨Nat.zero_le _, zacts_len _ _, Gr.refl _ _, fun j c h => absurd h (Nat.not_lt_zero _)⟩) (by repeat (first | exact .nil | refine .cons rfl ?_)) rfl rfl (by repeat (first | exact List.nil_sublist _ | apply List.Sublist.cons_cons | apply List.Sublist.cons)) ?_
    intro s hJ t1
    obtain ⟨i, cells, H2, A2⟩ := s
    obtain ⟨hJ, hcl, g, hg⟩ := hJ
    dsimp only at hJ hcl g hg ⊢
    refine sx_seq ?_
    rcases Nat.lt_or_ge i es.length with hk | hk
    · skip
      obtain ⟨qx, us, d, rfl, ix, hcx, lx, kx⟩ := (rx.gr g).at' i hk
      obtain ⟨qy, vs, d2, rfl, iy, hcy, ly, ky⟩ := (ry.gr g).at' i (by omega)
      obtain ⟨x0, c0, rfl, rfl, px0⟩ := kx.fn (n := 84) rfl
      obtain ⟨v0, rfl, ly1⟩ := aloads_one ly
      obtain ⟨b0, rfl, kb⟩ := one_cell ky
      obtain ⟨bl, ab, cb, rfl, rfl, rb⟩ := kb.rowD
      refine sx_region (E := E) ?_
      refine so_bin rfl rfl rfl rfl (by first | exact bin_lss_t (by omega) | exact bin_lss_f (by omega)) ?_
      refine so_then ?_
      refine sx_seq ?_
      refine sx_true rfl ?_
      refine sx_skip ?_
      refine sk_then ?_
      refine sx_seq ?_
      refine sx_block ?_
      refine sx_seq ?_
      refine sx_region (E := E) ?_
      refine so_move rfl rfl rfl ?_
      refine so_assign rfl rfl rfl ?_
      refine so_then ?_
      refine sx_draw (E := E) mixed [6, 11, 14] _ (List.sublist_cons_self _ _) (by kernel_rfl) (by kernel_rfl) (by decide) ?_
      refine so_move rfl rfl rfl ?_
      refine so_move rfl rfl rfl ?_
      refine so_move rfl rfl rfl ?_
      refine so_move rfl rfl rfl ?_
      first | refine so_indexO rfl rfl rfl rfl Try.underlying59 inf48 rfl (by omega) rfl ?_ | refine so_index rfl rfl rfl rfl Try.underlying59 inf48 rfl (by omega) ?_
      refine so_load rfl rfl rfl (by first | exact ld_ownA Try.underlying48 rfl inf48 rfl (by repeat (first | exact List.Mem.head _ | apply List.Mem.tail)) (by first | exact cellsOf_le rfl | decide | omega) (by first | exact cellsOf_all | exact take_all rfl | exact cellsOf_part rfl | rfl) | exact ld_dataA Try.underlying48 rfl inf48 rfl (by first | assumption | exact InA.add (by assumption) | exact InA.add (InA.add (by assumption))) (by assumption)) ?_
      refine so_callF (EditT c0) rfl rfl (fun _ => (by repeat (first | exact List.Mem.head _ | apply List.Mem.tail))) rfl has21 (by repeat (first | exact Opvs.nil | apply Opvs.cons rfl)) (fun H hH => cloneEditD_ok hH.lt (px0.gr hH.gr)) ?_
      intro u3 H3 A3 g3 hT
      obtain ⟨y0, rfl, py0⟩ := hT
      refine so_move rfl rfl rfl ?_
      refine so_move rfl rfl rfl ?_
      first | refine so_indexO rfl rfl rfl rfl Try.underlying60 inf49 rfl (by omega) rfl ?_ | refine so_index rfl rfl rfl rfl Try.underlying60 inf49 rfl (by omega) ?_
      refine so_load rfl rfl rfl (by first | exact ld_own Try.underlying49 rfl (by repeat (first | exact List.Mem.head _ | apply List.Mem.tail)) (by first | exact cellsOf_get rfl | rfl) | exact ld_data Try.underlying49 rfl (by first | assumption | exact InA.add (by assumption) | exact InA.add (InA.add (by assumption))) (by assumption)) ?_
      refine so_callF (fun u H' A' => CellA A' H' (.row 32 k79) u (.row bl)) rfl rfl (fun _ => (by repeat (first | exact List.Mem.head _ | apply List.Mem.tail))) rfl has28 (by repeat (first | exact Opvs.nil | apply Opvs.cons rfl)) (fun H hH => cloneD28_ok hH.lt (CellA.gr hH.gr _ _ _ (CellA.gr g3 _ _ _ kb))) ?_
      intro u4 H4 A4 g4 hu4
      obtain ⟨bl2, ab2, cb2, e5, rfl, rb2⟩ := hu4.rowD
      cases e5
      refine so_build rfl rfl (by repeat (first | exact Opps.nil | apply Opps.cons rfl)) (v := .agg ⟨cellsOf 85 (upd1 y0 84 (.slice ab2 bl.length cb2))⟩) (by kernel_rfl) ?_
      first | refine so_indexO rfl rfl rfl rfl Try.underlying61 inf51 rfl (by omega) rfl ?_ | refine so_index rfl rfl rfl rfl Try.underlying61 inf51 rfl (by omega) ?_
      refine so_storeA rfl (fun _ => (by repeat (first | exact List.Mem.head _ | apply List.Mem.tail))) rfl rfl inf51 (by first | exact cellsOf_length _ _ | rfl) (CellsA.one (act_cells (py0.gr g4) hu4)) (by repeat (first | exact .zero | apply Upd.succ)) rfl (acts_in hcl hk) (fun _ => (by repeat (first | exact List.nil_sublist _ | apply List.Sublist.cons_cons | apply List.Sublist.cons))) ?_
      refine so_nil ?_
      refine sk_block ?_
      refine sk_then ?_
      refine sx_region (E := E) ?_
      refine so_bin rfl rfl rfl rfl (by first | exact bin_incr (by omega) | exact bin_add (wrap64 (by omega) (by omega)) | exact bin_add rfl) ?_
      refine so_move rfl rfl rfl ?_
      refine so_nil ?_
      exact sk_round (i + 1, cells.take (0 + i * 85) ++ (cellsOf 85 (upd1 y0 84 (.slice ab2 bl.length cb2)) ++ cells.drop (0 + i * 85 + 85)), H4, A4) (show es.length - (i + 1) < es.length - i by omega) ⟨show i + 1 ≤ es.length by omega, acts_len hcl hk, (g.trans g3).trans g4, acts_set hcl hk (fun j c h1 h2 => CellsA.gr (g3.trans g4) _ _ _ (hg j c h1 h2)) (recs_get hcx hcy) (act_cells (py0.gr g4) hu4)⟩ (by repeat (first | exact .nil | refine .cons rfl ?_)) rfl rfl (by repeat (first | exact List.nil_sublist _ | apply List.Sublist.cons_cons | apply List.Sublist.cons))
    · skip
      refine sx_region (E := E) ?_
      refine so_bin rfl rfl rfl rfl (by first | exact bin_lss_t (by omega) | exact bin_lss_f (by omega)) ?_
      refine so_then ?_
      refine sx_seq ?_
      refine sx_false rfl ?_
      refine sx_exit ?_
      refine sk_then_exit ?_
      refine sk_loop_exit ?_
      refine sk_block_exit ?_
      refine sk_then ?_
      refine sx_seq ?_
      refine sx_seq ?_
      obtain rfl : i = es.length := by omega
      refine sx_freeze .zero ?_
      intro Hf Af gf hAf hgf
      have hrow : CellA Af Hf (.row 848 k51) (.slice (some ⟨2 * N16 + 1, 0, none⟩) es.length es.length) (.row (recs es bs)) := row_own hgf hAf rfl (recs_len heq).symm (by rw [recs_len heq, hcl]; exact Nat.le_refl _) (fun j c h => CellsA.gr gf _ _ _ (hg j c (by have := lt_of_getElem? h; rw [recs_len heq] at this; exact this) h)) (by rw [recs_len heq]; exact Nat.le_refl _) (by rw [recs_len heq]; exact rx.len) (by rw [recs_len heq]; exact rx.bytes)
      refine sx_region (E := E) ?_
      refine so_move rfl rfl rfl ?_
      refine so_call rfl rfl (fun h => nomatch h) rfl has17 (by repeat (first | exact Opvs.nil | apply Opvs.cons rfl)) (fun H hH => check_ok hH.lt (CellA.gr hH.gr _ _ _ hrow)) ?_
      refine so_assign rfl rfl rfl ?_
      refine so_then ?_
      refine sx_seq ?_
      by_cases he : chkErr (recs es bs) = 0
      · skip
        refine sx_region (E := E) ?_
        refine so_move rfl rfl rfl ?_
        refine so_bin rfl rfl rfl rfl (by first | exact bin_neq_f (by first | rfl | assumption | omega) | exact bin_neq_t (by first | rfl | assumption | omega)) ?_
        refine so_then ?_
        refine sx_false rfl ?_
        refine sx_skip ?_
        refine sk_then ?_
        refine sx_seq ?_
        refine sx_region (E := E) ?_
        refine so_move rfl rfl rfl ?_
        refine so_assign rfl rfl rfl ?_
        refine so_assign rfl rfl rfl ?_
        refine so_then ?_
        refine sx_ret ?_
        refine sk_return2 (.tmp rfl (.tmp rfl .nil)) ?_
        exact fun H hH => recR_of hH (.ok heq he) hrow
      · skip
        refine sx_region (E := E) ?_
        refine so_move rfl rfl rfl ?_
        refine so_bin rfl rfl rfl rfl (by first | exact bin_neq_f (by first | rfl | assumption | omega) | exact bin_neq_t (by first | rfl | assumption | omega)) ?_
        refine so_then ?_
        refine sx_true rfl ?_
        refine sx_seq ?_
        refine sx_region (E := E) ?_
        refine so_move rfl rfl rfl ?_
        refine so_assign rfl rfl rfl ?_
        refine so_assign rfl rfl rfl ?_
        refine so_then ?_
        refine sx_ret ?_
        refine sk_then_ret ?_
        refine sk_return2 (.tmp rfl (.tmp rfl .nil)) ?_
        exact fun H hH => recR_of hH (.chk heq he) nil_acts
  · skip
    refine sx_region (E := E) ?_
    refine so_move rfl rfl rfl ?_
    refine so_lenL rfl rfl rfl rfl rfl rfl Try.underlying59 ?_
    refine so_move rfl rfl rfl ?_
    refine so_lenL rfl rfl rfl rfl rfl rfl Try.underlying60 ?_
    refine so_bin rfl rfl rfl rfl (by first | exact bin_neq_f (by first | rfl | assumption | omega) | exact bin_neq_t (by first | rfl | assumption | omega)) ?_
    refine so_then ?_
    refine sx_true rfl ?_
    refine sx_seq ?_
    refine sx_region (E := E) ?_
    refine so_assign rfl rfl rfl ?_
    refine so_assign rfl rfl rfl ?_
    refine so_then ?_
    refine sx_ret ?_
    refine sk_then_ret ?_
    refine sk_return2 (.tmp rfl (.tmp rfl .nil)) ?_
    exact fun H hH => recR_of hH (.len heq) nil_acts

end Go.Proofs.Ytaedeadgbojmnaa
