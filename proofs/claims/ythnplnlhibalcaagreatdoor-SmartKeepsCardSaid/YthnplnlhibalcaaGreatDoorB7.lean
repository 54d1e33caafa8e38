/-
  Walks, laid by program.
-/
import Derived.Test.YthnplnlhibalcaaGreatDoorB6
set_option linter.unusedVariables false
set_option linter.unusedSimpArgs false
set_option maxRecDepth 100000
namespace Go.Proofs.YthnplnlhibalcaaGreatDoor
open Go Go.AM

def AddT (l : List (List CT)) (f : List CT) (u : Value) (H' : AH) (A' : Nat → Prop) : Prop := ∃ v, u = .tuple ⟨[v, .int .i64 (addE l f)]⟩ ∧ CellA A' H' (.row 40 k24) v (.row (addR l f))
def AddRR (l : List (List CT)) (f : List CT) (A : Nat → Prop) (S : AH) (u : Value) (H' : AH) : Prop := Kept S.nx S H' ∧ AddT l f u H' fun j => A j ∨ (S.nx ≤ j ∧ j < H'.nx)
theorem addR_of {S H0 H : AH} {A A1 : Nat → Prop} {L : OL} {v : Value} {l : List (List CT)} {f : List CT} {e : Int} (hH : HS S H0 A A1 L H) (he : addE l f = e) (h : CellA A1 H0 (.row 40 k24) v (.row (addR l f))) : AddRR l f A S (.tuple ⟨[v, .int .i64 e]⟩) H :=
  ⟨hH.kept, v, by rw [he], CellA.gr (hH.gr.trans ⟨fun j hj => (hH.sub j hj).imp id fun h => ⟨h, hH.lt j hj⟩, fun _ _ => rfl, rfl⟩) _ _ _ h⟩
theorem addErr {S H0 H : AH} {A A1 : Nat → Prop} {L : OL} {l : List (List CT)} {f : List CT} {e : Int} (hH : HS S H0 A A1 L H) (he : addE l f = e) (h0 : e ≠ 0) : AddRR l f A S (.tuple ⟨[.slice none 0 0, .int .i64 e]⟩) H :=
  addR_of hH he (by rw [addR_err (by rw [he]; exact h0)]; exact nil_row)
theorem fnd_cases {l : List (List CT)} (h : ∀ c ∈ l, FileLike c) (q : Txt) (r : Int) : fnd l q r = none ∨ ∃ du dn dp, fnd l q r = some [.v (.string du), .v (.int .i64 dn), .v (.string dp)] := by
  cases e : fnd l q r with
  | none => exact .inl rfl
  | some d =>
    obtain ⟨u, n, p, rfl, _⟩ := fnd_files h d e
    exact .inr ⟨u, n, p, rfl⟩
theorem place3 {l : List (List CT)} {k : Nat} (f : List CT) (h : k ≤ l.length) : (k < l.length ∧ ∃ b, l[k]? = some b ∧ befB b f = true) ∨ (k < l.length ∧ ∃ b, l[k]? = some b ∧ befB b f = false) ∨ k = l.length := by
  by_cases hk : k < l.length
  · obtain ⟨b, hb⟩ : ∃ b, l[k]? = some b := ⟨_, List.getElem?_eq_getElem hk⟩
    cases e : befB b f with
    | true => exact .inl ⟨hk, b, hb, e⟩
    | false => exact .inr (.inl ⟨hk, b, hb, e⟩)
  · exact .inr (.inr (by omega))
theorem flat3 (a b : List (List CT)) (f : List CT) : flatR [[.row a], [.row [f]], [.row b]] = a ++ f :: b := by simp [flatR, rowL]
theorem one_file {A : Nat → Prop} {H : AH} {M : Nat} {ex : Bool} {u p : ByteArray} {n : Int} (hu : u.size ≤ maxLen) (hn : (Lit.int .i64 n).wf = true) (hp : p.size ≤ maxLen) (hg : H.tr.get M = some (.cells [.string u, .int .i64 n, .string p] 3 ex)) (hA : A M) : CellA A H (.row 40 k24) (.slice (some ⟨2 * M + 1, 0, none⟩) 1 1) (.row [[.v (.string u), .v (.int .i64 n), .v (.string p)]]) := by
  refine row_own hg hA rfl rfl (by simp) (fun i c hc => ?_) (by simp) (by simp) (by simp)
  cases i with
  | zero => cases hc; exact file3_mk hu hn hp
  | succ i => simp at hc
theorem rows3 {A : Nat → Prop} {H : AH} {N s1 s2 c1 c2 : Nat} {a1 a2 : Option Addr} {v : Value} {l1 l2 lf : List (List CT)} {ex : Bool} (hg : H.tr.get N = some (.cells [.slice a1 s1 c1, v, .slice a2 s2 c2] 1 ex)) (hA : A N) (e1 : s1 = l1.length) (r1 : RowD A H 40 k24 l1 a1 c1) (hv : CellA A H (.row 40 k24) v (.row lf)) (e2 : s2 = l2.length) (r2 : RowD A H 40 k24 l2 a2 c2) :
    CellA A H (.row 24 [.row 40 k24]) (.slice (some ⟨2 * N + 1, 0, none⟩) 3 3) (.row [[.row l1], [.row lf], [.row l2]]) := by
  subst e1; subst e2
  refine row_own hg hA rfl rfl (by simp) (fun i c hc => ?_) (by simp) (by simp) (by simp)
  match i, hc with
  | 0, hc => cases hc; exact ⟨r1.cell, trivial⟩
  | 1, hc => cases hc; exact ⟨hv, trivial⟩
  | 2, hc => cases hc; exact ⟨r2.cell, trivial⟩
  | i + 3, hc => simp at hc
set_option maxHeartbeats 4000000 in
theorem add_ok {S : AH} {A : Nat → Prop} (hA : ∀ j, A j → j < S.nx) {x : Value} {l : List (List CT)} (hx : CellA A S (.row 40 k24) x (.row l)) {u p : ByteArray} {n : Int} (hu : u.size ≤ maxLen) (hn : (Lit.int .i64 n).wf = true) (hp : p.size ≤ maxLen) : XCall Tryz.prog 7 [x, .agg ⟨[.string u, .int .i64 n, .string p]⟩] S (AddRR l [.v (.string u), .v (.int .i64 n), .v (.string p)] A S) := by
  obtain ⟨l2, ax, cx, e2, rfl, rx⟩ := hx.rowD
  cases e2
  have hb := rx.len
  have hcx := rx.le
  have hfl := row_files rx
  refine x_enter (E := E) (n := 75) (rs := [.tmp 4, .tmp 5]) (l := [(1, _), (0, _)]) (fn_own Tryz.func7 rfl rfl rfl) hA rfl ?_
  refine sx_seq ?_
  refine sx_region (E := E) ?_
  refine so_boxA rfl rfl (fun h => nomatch h) rfl ?_
  intro N3
  refine so_assign rfl rfl rfl ?_
  refine so_assign rfl rfl rfl ?_
  refine so_then ?_
  refine sx_seq ?_
  refine sx_seq ?_
  refine sx_region (E := E) ?_
  refine so_move rfl rfl rfl ?_
  refine so_call rfl rfl (fun h => nomatch h) rfl has9 (by repeat (first | exact Opvs.nil | apply Opvs.cons rfl)) (fun H hH => check_ok hH.lt (CellA.gr hH.gr _ _ _ hx)) ?_
  refine so_assign rfl rfl rfl ?_
  refine so_then ?_
  refine sx_seq ?_
  by_cases he : libE l = 0
  · skip
    refine sx_region (E := E) ?_
    refine so_move rfl rfl rfl ?_
    refine so_bin rfl rfl rfl rfl (by first | exact bin_neq_f (by first | rfl | assumption | omega) | exact bin_neq_t (by first | rfl | assumption | omega)) ?_
    refine so_then ?_
    refine sx_false rfl ?_
    refine sx_skip ?_
    refine sk_then ?_
    refine sx_seq ?_
    refine sx_seq ?_
    refine sx_region (E := E) ?_
    refine so_load rfl rfl rfl (by first | exact ld_ownA Tryz.underlying24 rfl inf24 rfl (by repeat (first | exact List.Mem.head _ | apply List.Mem.tail)) (by first | exact cellsOf_le rfl | exact Nat.le_of_ble_eq_true rfl | decide | omega) (by first | exact cellsOf_all | exact take_all rfl | exact cellsOf_part rfl | rfl) | exact ld_dataA Tryz.underlying24 rfl inf24 rfl (by first | assumption | exact InA.add (by assumption) | exact InA.add (InA.add (by assumption))) (by assumption)) ?_
    refine so_call rfl rfl (fun h => nomatch h) rfl has17 (by repeat (first | exact Opvs.nil | apply Opvs.cons rfl)) (fun H hH => checkFile_ok hu hn hp) ?_
    refine so_assign rfl rfl rfl ?_
    refine so_then ?_
    refine sx_seq ?_
    by_cases hfe : fileE [.v (.string u), .v (.int .i64 n), .v (.string p)] = 0
    · skip
      refine sx_region (E := E) ?_
      refine so_move rfl rfl rfl ?_
      refine so_bin rfl rfl rfl rfl (by first | exact bin_neq_f (by first | rfl | assumption | omega) | exact bin_neq_t (by first | rfl | assumption | omega)) ?_
      refine so_then ?_
      refine sx_false rfl ?_
      refine sx_skip ?_
      refine sk_then ?_
      refine sx_seq ?_
      refine sx_seq ?_
      rcases fnd_cases hfl u.data.toList n with ho | ⟨du, dn, dp, ho⟩
      · skip
        have hdp : dupB l [.v (.string u), .v (.int .i64 n), .v (.string p)] = false := by rw [← fnd_dup]; show (fnd l u.data.toList n).isSome = false; rw [ho]; rfl
        refine sx_region (E := E) ?_
        refine so_move rfl rfl rfl ?_
        refine so_fieldO (o' := 0) rfl rfl rfl Tryz.underlying24 rfl inf9 rfl rfl ?_
        refine so_load rfl rfl rfl (by first | exact ld_own Tryz.underlying9 rfl (by repeat (first | exact List.Mem.head _ | apply List.Mem.tail)) (by first | exact cellsOf_get rfl | rfl) | exact ld_data Tryz.underlying9 rfl (by first | assumption | exact InA.add (by assumption) | exact InA.add (InA.add (by assumption))) (by assumption)) ?_
        refine so_fieldO (o' := 1) rfl rfl rfl Tryz.underlying24 rfl inf3 rfl rfl ?_
        refine so_load rfl rfl rfl (by first | exact ld_own Tryz.underlying3 rfl (by repeat (first | exact List.Mem.head _ | apply List.Mem.tail)) (by first | exact cellsOf_get rfl | rfl) | exact ld_data Tryz.underlying3 rfl (by first | assumption | exact InA.add (by assumption) | exact InA.add (InA.add (by assumption))) (by assumption)) ?_
        refine so_call rfl rfl (fun h => nomatch h) rfl has18 (by repeat (first | exact Opvs.nil | apply Opvs.cons rfl)) (fun H hH => (find_ok hH.lt (CellA.gr hH.gr _ _ _ hx) u n).e (by rw [ho])) ?_
        refine so_move rfl rfl rfl ?_
        refine so_extract rfl rfl rfl rfl ?_
        refine so_extract rfl rfl rfl rfl ?_
        refine so_alloc (cs := (.string ⟨#[]⟩ :: .int .i64 0 :: .string ⟨#[]⟩ :: [])) rfl rfl (fun h => nomatch h) inf24 rfl rfl ?_
        intro N8
        refine so_storeA rfl (fun h => nomatch h) rfl rfl inf24 (by first | exact cellsOf_length _ _ | rfl) rfl (by repeat (first | exact .zero | apply Upd.succ)) (by first | exact cellsOf_set rfl | exact cellsOf_setr rfl | exact cellsOf_store rfl | exact store_all rfl | rfl) (by first | exact cellsOf_in rfl rfl | exact cellsOf_in rfl (cellsOf_length _ _) | exact cellsOf_le rfl | exact Nat.le_of_ble_eq_true rfl | omega) (fun h => nomatch h) ?_
        refine so_assign rfl rfl rfl ?_
        refine so_then ?_
        refine sx_seq ?_
        refine sx_region (E := E) ?_
        refine so_move rfl rfl rfl ?_
        refine so_then ?_
        refine sx_false rfl ?_
        refine sx_skip ?_
        refine sk_then ?_
        refine sx_seq ?_
        refine sx_seq ?_
        rcases lat_cases (nmP u.data.toList) hfl n with hla | ⟨eu, en, ep, hla, hle⟩ | ⟨eu, en, ep, hla, hle⟩
        · skip
          have hsb : staB l [.v (.string u), .v (.int .i64 n), .v (.string p)] = false := by rw [sta_lat]; show (match lat (nmP u.data.toList) l with | none => false | some d => decide (n < rvOf d)) = false; rw [hla] <;> exact rfl
          refine sx_region (E := E) ?_
          refine so_move rfl rfl rfl ?_
          refine so_fieldO (o' := 0) rfl rfl rfl Tryz.underlying24 rfl inf9 rfl rfl ?_
          refine so_load rfl rfl rfl (by first | exact ld_own Tryz.underlying9 rfl (by repeat (first | exact List.Mem.head _ | apply List.Mem.tail)) (by first | exact cellsOf_get rfl | rfl) | exact ld_data Tryz.underlying9 rfl (by first | assumption | exact InA.add (by assumption) | exact InA.add (InA.add (by assumption))) (by assumption)) ?_
          refine so_call rfl rfl (fun h => nomatch h) rfl has13 (by repeat (first | exact Opvs.nil | apply Opvs.cons rfl)) (fun H hH => (slatest_ok hH.lt (CellA.gr hH.gr _ _ _ hx) u).e (by rw [hla])) ?_
          refine so_move rfl rfl rfl ?_
          refine so_extract rfl rfl rfl rfl ?_
          refine so_extract rfl rfl rfl rfl ?_
          refine so_alloc (cs := (.string ⟨#[]⟩ :: .int .i64 0 :: .string ⟨#[]⟩ :: [])) rfl rfl (fun h => nomatch h) inf24 rfl rfl ?_
          intro N10
          refine so_storeA rfl (fun h => nomatch h) rfl rfl inf24 (by first | exact cellsOf_length _ _ | rfl) rfl (by repeat (first | exact .zero | apply Upd.succ)) (by first | exact cellsOf_set rfl | exact cellsOf_setr rfl | exact cellsOf_store rfl | exact store_all rfl | rfl) (by first | exact cellsOf_in rfl rfl | exact cellsOf_in rfl (cellsOf_length _ _) | exact cellsOf_le rfl | exact Nat.le_of_ble_eq_true rfl | omega) (fun h => nomatch h) ?_
          refine so_assign rfl rfl rfl ?_
          refine so_then ?_
          refine sx_seq ?_
          refine sx_region (E := E) ?_
          refine so_move rfl rfl rfl ?_
          refine so_move rfl rfl rfl ?_
          first | refine so_fieldO (o' := 1) rfl rfl rfl Tryz.underlying24 rfl inf3 rfl rfl ?_ | refine so_skip rfl rfl rfl ?_
          first | refine so_load rfl rfl rfl (by first | exact ld_own Tryz.underlying3 rfl (by repeat (first | exact List.Mem.head _ | apply List.Mem.tail)) (by first | exact cellsOf_get rfl | rfl) | exact ld_data Tryz.underlying3 rfl (by first | assumption | exact InA.add (by assumption) | exact InA.add (InA.add (by assumption))) (by assumption)) ?_ | refine so_skip rfl rfl rfl ?_
          first | refine so_fieldO (o' := 1) rfl rfl rfl Tryz.underlying24 rfl inf3 rfl rfl ?_ | refine so_skip rfl rfl rfl ?_
          first | refine so_load rfl rfl rfl (by first | exact ld_own Tryz.underlying3 rfl (by repeat (first | exact List.Mem.head _ | apply List.Mem.tail)) (by first | exact cellsOf_get rfl | rfl) | exact ld_data Tryz.underlying3 rfl (by first | assumption | exact InA.add (by assumption) | exact InA.add (InA.add (by assumption))) (by assumption)) ?_ | refine so_skip rfl rfl rfl ?_
          first | refine so_bin rfl rfl rfl rfl (by first | exact bin_gtr_t (by omega) | exact bin_gtr_f (by omega)) ?_ | refine so_skip rfl rfl rfl ?_
          first | refine so_pick_t rfl rfl rfl rfl ?_ | refine so_pick_f rfl rfl rfl rfl ?_
          refine so_then ?_
          refine sx_false rfl ?_
          refine sx_skip ?_
          refine sk_then ?_
          refine sx_seq ?_
          refine sx_seq ?_
          rcases Nat.lt_or_ge l.length 256 with h256 | h256
          · skip
            refine sx_region (E := E) ?_
            refine so_move rfl rfl rfl ?_
            refine so_lenL rfl rfl rfl rfl rfl rfl Tryz.underlying22 ?_
            refine so_bin rfl rfl rfl rfl (by first | exact bin_geq_t (by omega) | exact bin_geq_f (by omega)) ?_
            refine so_then ?_
            refine sx_false rfl ?_
            refine sx_skip ?_
            refine sk_then ?_
            refine sx_seq ?_
            refine sx_region (E := E) ?_
            refine so_assign rfl rfl rfl ?_
            refine so_then ?_
            refine sx_seq ?_
            refine sx_block ?_
            refine sx_loop (σ := Nat) (fun k => l.length - k) (fun k => [(0, .slice ax l.length cx), (3, .pointer (some ⟨2 * N3 + 1, 0, none⟩)), (12, .int .i64 ((k : Nat) : Int))]) (fun _ => S) (fun _ => A) (fun _ => [(N3, .cells [.string u, .int .i64 n, .string p] (boxsz E 24) true)]) (fun k => k ≤ l.length ∧ (∀ j c, j < k → l[j]? = some c → befB c [.v (.string u), .v (.int .i64 n), .v (.string p)] = true)) (0) (⟨Nat.zero_le _, fun j c h => absurd h (Nat.not_lt_zero _)⟩) (by repeat (first | exact .nil | refine .cons rfl ?_)) rfl rfl (by repeat (first | exact List.nil_sublist _ | apply List.Sublist.cons_cons | apply List.Sublist.cons)) ?_
            intro s hJ t1
            obtain ⟨hJ, hg⟩ := hJ
            refine sx_seq ?_
            refine sx_seq ?_
            rcases place3 [.v (.string u), .v (.int .i64 n), .v (.string p)] hJ with ⟨hk, b, hbb, hbf⟩ | ⟨hk, b, hbb, hbf⟩ | hk
            · skip
              obtain ⟨qx2, us2, d2, eqx2, ix2, hc2, lx2, kx2⟩ := rx.at' s hk
              rw [hbb] at hc2; cases hc2
              cases eqx2
              obtain ⟨u2, n2, p2, rfl, rfl, hu2, hn2, hp2⟩ := file3 kx2
              refine sx_draw (E := E) mixed [10] _ (List.Sublist.refl _) (by kernel_rfl) (by kernel_rfl) (by decide) ?_
              refine so_move rfl rfl rfl ?_
              refine so_move rfl rfl rfl ?_
              refine so_lenL rfl rfl rfl rfl rfl rfl Tryz.underlying22 ?_
              refine so_bin rfl rfl rfl rfl (by first | exact bin_lss_t (by omega) | exact bin_lss_f (by omega)) ?_
              refine so_move rfl rfl rfl ?_
              first | refine so_move rfl rfl rfl ?_ | refine so_skip rfl rfl rfl ?_
              first | refine so_move rfl rfl rfl ?_ | refine so_skip rfl rfl rfl ?_
              first | refine so_indexO rfl rfl rfl rfl Tryz.underlying22 inf24 rfl (by omega) rfl ?_ | refine so_index rfl rfl rfl rfl Tryz.underlying22 inf24 rfl (by omega) ?_ | refine so_skip rfl rfl rfl ?_
              first | refine so_load rfl rfl rfl (by first | exact ld_ownA Tryz.underlying24 rfl inf24 rfl (by repeat (first | exact List.Mem.head _ | apply List.Mem.tail)) (by first | exact cellsOf_le rfl | exact Nat.le_of_ble_eq_true rfl | decide | omega) (by first | exact cellsOf_all | exact take_all rfl | exact cellsOf_part rfl | rfl) | exact ld_dataA Tryz.underlying24 rfl inf24 rfl (by first | assumption | exact InA.add (by assumption) | exact InA.add (InA.add (by assumption))) (by assumption)) ?_ | refine so_skip rfl rfl rfl ?_
              first | refine so_load rfl rfl rfl (by first | exact ld_ownA Tryz.underlying24 rfl inf24 rfl (by repeat (first | exact List.Mem.head _ | apply List.Mem.tail)) (by first | exact cellsOf_le rfl | exact Nat.le_of_ble_eq_true rfl | decide | omega) (by first | exact cellsOf_all | exact take_all rfl | exact cellsOf_part rfl | rfl) | exact ld_dataA Tryz.underlying24 rfl inf24 rfl (by first | assumption | exact InA.add (by assumption) | exact InA.add (InA.add (by assumption))) (by assumption)) ?_ | refine so_skip rfl rfl rfl ?_
              first | refine so_call rfl rfl (fun _ => (by repeat (first | exact List.Mem.head _ | apply List.Mem.tail))) rfl has19 (by repeat (first | exact Opvs.nil | apply Opvs.cons rfl)) (fun H hH => (before_ok u2 p2 u p n2 n).b hbf) ?_ | refine so_skip rfl rfl rfl ?_
              first | refine so_pick_t rfl rfl rfl rfl ?_ | refine so_pick_f rfl rfl rfl rfl ?_
              refine so_then ?_
              refine sx_true rfl ?_
              refine sx_skip ?_
              refine sk_then ?_
              refine sx_block ?_
              refine sx_region (E := E) ?_
              refine so_move rfl rfl rfl ?_
              refine so_bin rfl rfl rfl rfl (by first | exact bin_incr (by omega) | exact bin_add (wrap64 (by omega) (by omega)) | exact bin_add rfl) ?_
              refine so_assign rfl rfl rfl ?_
              refine so_nil ?_
              refine sk_block ?_
              refine sk_round (s + 1) (show l.length - (s + 1) < l.length - s by omega) ⟨by omega, fun j c2 hj hc3 => ?_⟩ (by repeat (first | exact .nil | refine .cons rfl ?_)) rfl rfl (by repeat (first | exact List.nil_sublist _ | apply List.Sublist.cons_cons | apply List.Sublist.cons))
              by_cases e : j = s
              · subst e; rw [hbb] at hc3; cases hc3; exact hbf
              · exact hg j c2 (by omega) hc3
            · skip
              obtain ⟨qx2, us2, d2, eqx2, ix2, hc2, lx2, kx2⟩ := rx.at' s hk
              rw [hbb] at hc2; cases hc2
              cases eqx2
              obtain ⟨u2, n2, p2, rfl, rfl, hu2, hn2, hp2⟩ := file3 kx2
              have hend : s = l.length ∨ ∃ c, l[s]? = some c ∧ befB c [.v (.string u), .v (.int .i64 n), .v (.string p)] = false := .inr ⟨_, hbb, hbf⟩
              refine sx_draw (E := E) mixed [10] _ (List.Sublist.refl _) (by kernel_rfl) (by kernel_rfl) (by decide) ?_
              refine so_move rfl rfl rfl ?_
              refine so_move rfl rfl rfl ?_
              refine so_lenL rfl rfl rfl rfl rfl rfl Tryz.underlying22 ?_
              refine so_bin rfl rfl rfl rfl (by first | exact bin_lss_t (by omega) | exact bin_lss_f (by omega)) ?_
              refine so_move rfl rfl rfl ?_
              first | refine so_move rfl rfl rfl ?_ | refine so_skip rfl rfl rfl ?_
              first | refine so_move rfl rfl rfl ?_ | refine so_skip rfl rfl rfl ?_
              first | refine so_indexO rfl rfl rfl rfl Tryz.underlying22 inf24 rfl (by omega) rfl ?_ | refine so_index rfl rfl rfl rfl Tryz.underlying22 inf24 rfl (by omega) ?_ | refine so_skip rfl rfl rfl ?_
              first | refine so_load rfl rfl rfl (by first | exact ld_ownA Tryz.underlying24 rfl inf24 rfl (by repeat (first | exact List.Mem.head _ | apply List.Mem.tail)) (by first | exact cellsOf_le rfl | exact Nat.le_of_ble_eq_true rfl | decide | omega) (by first | exact cellsOf_all | exact take_all rfl | exact cellsOf_part rfl | rfl) | exact ld_dataA Tryz.underlying24 rfl inf24 rfl (by first | assumption | exact InA.add (by assumption) | exact InA.add (InA.add (by assumption))) (by assumption)) ?_ | refine so_skip rfl rfl rfl ?_
              first | refine so_load rfl rfl rfl (by first | exact ld_ownA Tryz.underlying24 rfl inf24 rfl (by repeat (first | exact List.Mem.head _ | apply List.Mem.tail)) (by first | exact cellsOf_le rfl | exact Nat.le_of_ble_eq_true rfl | decide | omega) (by first | exact cellsOf_all | exact take_all rfl | exact cellsOf_part rfl | rfl) | exact ld_dataA Tryz.underlying24 rfl inf24 rfl (by first | assumption | exact InA.add (by assumption) | exact InA.add (InA.add (by assumption))) (by assumption)) ?_ | refine so_skip rfl rfl rfl ?_
              first | refine so_call rfl rfl (fun _ => (by repeat (first | exact List.Mem.head _ | apply List.Mem.tail))) rfl has19 (by repeat (first | exact Opvs.nil | apply Opvs.cons rfl)) (fun H hH => (before_ok u2 p2 u p n2 n).b hbf) ?_ | refine so_skip rfl rfl rfl ?_
              first | refine so_pick_t rfl rfl rfl rfl ?_ | refine so_pick_f rfl rfl rfl rfl ?_
              refine so_then ?_
              refine sx_false rfl ?_
              refine sx_exit ?_
              refine sk_then_exit ?_
              refine sk_loop_exit ?_
              refine sk_block_exit ?_
              refine sk_then ?_
              refine sx_seq ?_
              refine sx_draw (E := E) mixed [4, 8, 9] _ (List.Sublist.refl _) (by kernel_rfl) (by kernel_rfl) (by decide) ?_
              refine so_move rfl rfl rfl ?_
              refine so_move rfl rfl rfl ?_
              refine so_cutD rfl rfl rfl Tryz.underlying22 inf24 .none (.some rfl) .none rx rfl (by decide) (abounds_h (by omega)) hJ (by omega) ?_
              intro a1 r1
              refine so_load rfl rfl rfl (by first | exact ld_ownA Tryz.underlying24 rfl inf24 rfl (by repeat (first | exact List.Mem.head _ | apply List.Mem.tail)) (by first | exact cellsOf_le rfl | exact Nat.le_of_ble_eq_true rfl | decide | omega) (by first | exact cellsOf_all | exact take_all rfl | exact cellsOf_part rfl | rfl) | exact ld_dataA Tryz.underlying24 rfl inf24 rfl (by first | assumption | exact InA.add (by assumption) | exact InA.add (InA.add (by assumption))) (by assumption)) ?_
              refine so_buildSlice (out := [.string u, .int .i64 n, .string p]) (s := 3) rfl rfl (fun _ => (by repeat (first | exact List.Mem.head _ | apply List.Mem.tail))) (by repeat (first | exact Opps.nil | apply Opps.cons rfl)) Tryz.underlying22 inf24 rfl rfl (by kernel_rfl) rfl rfl ?_
              intro N69
              refine so_move rfl rfl rfl ?_
              refine so_move rfl rfl rfl ?_
              refine so_dropD rfl rfl rfl Tryz.underlying22 inf24 rfl rx rfl hJ ?_
              intro a2 r2
              refine so_buildSlice (out := [.slice a1 s cx, .slice (some ⟨2 * N69 + 1, 0, none⟩) 1 1, .slice a2 (l.drop s).length (cx - s)]) (s := 1) rfl rfl (fun _ => (by repeat (first | exact List.Mem.head _ | apply List.Mem.tail))) (by repeat (first | exact Opps.nil | apply Opps.cons rfl)) Tryz.underlying66 inf22 rfl rfl (by kernel_rfl) rfl rfl ?_
              intro N73
              refine so_freezeG .zero (fun _ => List.sublist_cons_self _ _) ?_
              intro Ha Aa ga hAa hga
              refine so_freezeG .zero (fun _ => List.Sublist.refl _) ?_
              intro Hb Ab gb hAb hgb
              have hrow := rows3 ((gb.get _ hAa).trans hga) (gb.sub _ hAa) (by rw [List.length_take]; omega) ((r1.gr ga).gr gb) (one_file hu hn hp hgb hAb) rfl ((r2.gr ga).gr gb)
              refine so_callF (fun u9 H' A' => CellA A' H' (.row 40 k24) u9 (.row (flatR [[.row (l.take s)], [.row [[.v (.string u), .v (.int .i64 n), .v (.string p)]]], [.row (l.drop s)]]))) rfl rfl (fun _ => (by repeat (first | exact List.Mem.head _ | apply List.Mem.tail))) rfl has20 (by repeat (first | exact Opvs.nil | apply Opvs.cons rfl)) (fun H hH => concat_ok hH.lt (CellA.gr hH.gr _ _ _ hrow) (by rw [flat3]; simp) (by rw [flat3]; simp; omega)) ?_
              intro u9 H9 A9 g9 hT
              refine so_assign rfl rfl rfl ?_
              refine so_assign rfl rfl rfl ?_
              refine so_then ?_
              refine sx_ret ?_
              refine sk_return2 (.tmp rfl (.tmp rfl .nil)) ?_
              exact fun H hH => addR_of hH (addE_ok he hfe hdp hsb h256) (by rw [addR_ok (addE_ok he hfe hdp hsb h256), addL_place hJ hg hend, ← flat3]; exact hT)
            · skip
              have hend : s = l.length ∨ ∃ c, l[s]? = some c ∧ befB c [.v (.string u), .v (.int .i64 n), .v (.string p)] = false := .inl hk
              refine sx_draw (E := E) mixed [10] _ (List.Sublist.refl _) (by kernel_rfl) (by kernel_rfl) (by decide) ?_
              refine so_move rfl rfl rfl ?_
              refine so_move rfl rfl rfl ?_
              refine so_lenL rfl rfl rfl rfl rfl rfl Tryz.underlying22 ?_
              refine so_bin rfl rfl rfl rfl (by first | exact bin_lss_t (by omega) | exact bin_lss_f (by omega)) ?_
              refine so_move rfl rfl rfl ?_
              first | refine so_move rfl rfl rfl ?_ | refine so_skip rfl rfl rfl ?_
              first | refine so_move rfl rfl rfl ?_ | refine so_skip rfl rfl rfl ?_
              first | refine so_indexO rfl rfl rfl rfl Tryz.underlying22 inf24 rfl (by omega) rfl ?_ | refine so_index rfl rfl rfl rfl Tryz.underlying22 inf24 rfl (by omega) ?_ | refine so_skip rfl rfl rfl ?_
              first | refine so_load rfl rfl rfl (by first | exact ld_ownA Tryz.underlying24 rfl inf24 rfl (by repeat (first | exact List.Mem.head _ | apply List.Mem.tail)) (by first | exact cellsOf_le rfl | exact Nat.le_of_ble_eq_true rfl | decide | omega) (by first | exact cellsOf_all | exact take_all rfl | exact cellsOf_part rfl | rfl) | exact ld_dataA Tryz.underlying24 rfl inf24 rfl (by first | assumption | exact InA.add (by assumption) | exact InA.add (InA.add (by assumption))) (by assumption)) ?_ | refine so_skip rfl rfl rfl ?_
              first | refine so_load rfl rfl rfl (by first | exact ld_ownA Tryz.underlying24 rfl inf24 rfl (by repeat (first | exact List.Mem.head _ | apply List.Mem.tail)) (by first | exact cellsOf_le rfl | exact Nat.le_of_ble_eq_true rfl | decide | omega) (by first | exact cellsOf_all | exact take_all rfl | exact cellsOf_part rfl | rfl) | exact ld_dataA Tryz.underlying24 rfl inf24 rfl (by first | assumption | exact InA.add (by assumption) | exact InA.add (InA.add (by assumption))) (by assumption)) ?_ | refine so_skip rfl rfl rfl ?_
              first | refine so_call rfl rfl (fun _ => (by repeat (first | exact List.Mem.head _ | apply List.Mem.tail))) rfl has19 (by repeat (first | exact Opvs.nil | apply Opvs.cons rfl)) (fun H hH => (before_ok u2 p2 u p n2 n).b hbf) ?_ | refine so_skip rfl rfl rfl ?_
              first | refine so_pick_t rfl rfl rfl rfl ?_ | refine so_pick_f rfl rfl rfl rfl ?_
              refine so_then ?_
              refine sx_false rfl ?_
              refine sx_exit ?_
              refine sk_then_exit ?_
              refine sk_loop_exit ?_
              refine sk_block_exit ?_
              refine sk_then ?_
              refine sx_seq ?_
              refine sx_draw (E := E) mixed [4, 8, 9] _ (List.Sublist.refl _) (by kernel_rfl) (by kernel_rfl) (by decide) ?_
              refine so_move rfl rfl rfl ?_
              refine so_move rfl rfl rfl ?_
              refine so_cutD rfl rfl rfl Tryz.underlying22 inf24 .none (.some rfl) .none rx rfl (by decide) (abounds_h (by omega)) hJ (by omega) ?_
              intro a1 r1
              refine so_load rfl rfl rfl (by first | exact ld_ownA Tryz.underlying24 rfl inf24 rfl (by repeat (first | exact List.Mem.head _ | apply List.Mem.tail)) (by first | exact cellsOf_le rfl | exact Nat.le_of_ble_eq_true rfl | decide | omega) (by first | exact cellsOf_all | exact take_all rfl | exact cellsOf_part rfl | rfl) | exact ld_dataA Tryz.underlying24 rfl inf24 rfl (by first | assumption | exact InA.add (by assumption) | exact InA.add (InA.add (by assumption))) (by assumption)) ?_
              refine so_buildSlice (out := [.string u, .int .i64 n, .string p]) (s := 3) rfl rfl (fun _ => (by repeat (first | exact List.Mem.head _ | apply List.Mem.tail))) (by repeat (first | exact Opps.nil | apply Opps.cons rfl)) Tryz.underlying22 inf24 rfl rfl (by kernel_rfl) rfl rfl ?_
              intro N69
              refine so_move rfl rfl rfl ?_
              refine so_move rfl rfl rfl ?_
              refine so_dropD rfl rfl rfl Tryz.underlying22 inf24 rfl rx rfl hJ ?_
              intro a2 r2
              refine so_buildSlice (out := [.slice a1 s cx, .slice (some ⟨2 * N69 + 1, 0, none⟩) 1 1, .slice a2 (l.drop s).length (cx - s)]) (s := 1) rfl rfl (fun _ => (by repeat (first | exact List.Mem.head _ | apply List.Mem.tail))) (by repeat (first | exact Opps.nil | apply Opps.cons rfl)) Tryz.underlying66 inf22 rfl rfl (by kernel_rfl) rfl rfl ?_
              intro N73
              refine so_freezeG .zero (fun _ => List.sublist_cons_self _ _) ?_
              intro Ha Aa ga hAa hga
              refine so_freezeG .zero (fun _ => List.Sublist.refl _) ?_
              intro Hb Ab gb hAb hgb
              have hrow := rows3 ((gb.get _ hAa).trans hga) (gb.sub _ hAa) (by rw [List.length_take]; omega) ((r1.gr ga).gr gb) (one_file hu hn hp hgb hAb) rfl ((r2.gr ga).gr gb)
              refine so_callF (fun u9 H' A' => CellA A' H' (.row 40 k24) u9 (.row (flatR [[.row (l.take s)], [.row [[.v (.string u), .v (.int .i64 n), .v (.string p)]]], [.row (l.drop s)]]))) rfl rfl (fun _ => (by repeat (first | exact List.Mem.head _ | apply List.Mem.tail))) rfl has20 (by repeat (first | exact Opvs.nil | apply Opvs.cons rfl)) (fun H hH => concat_ok hH.lt (CellA.gr hH.gr _ _ _ hrow) (by rw [flat3]; simp) (by rw [flat3]; simp; omega)) ?_
              intro u9 H9 A9 g9 hT
              refine so_assign rfl rfl rfl ?_
              refine so_assign rfl rfl rfl ?_
              refine so_then ?_
              refine sx_ret ?_
              refine sk_return2 (.tmp rfl (.tmp rfl .nil)) ?_
              exact fun H hH => addR_of hH (addE_ok he hfe hdp hsb h256) (by rw [addR_ok (addE_ok he hfe hdp hsb h256), addL_place hJ hg hend, ← flat3]; exact hT)
          · skip
            refine sx_region (E := E) ?_
            refine so_move rfl rfl rfl ?_
            refine so_lenL rfl rfl rfl rfl rfl rfl Tryz.underlying22 ?_
            refine so_bin rfl rfl rfl rfl (by first | exact bin_geq_t (by omega) | exact bin_geq_f (by omega)) ?_
            refine so_then ?_
            refine sx_true rfl ?_
            refine sx_seq ?_
            refine sx_region (E := E) ?_
            refine so_assign rfl rfl rfl ?_
            refine so_assign rfl rfl rfl ?_
            refine so_then ?_
            refine sx_ret ?_
            refine sk_then_ret ?_
            refine sk_return2 (.tmp rfl (.tmp rfl .nil)) ?_
            exact fun H hH => addErr hH (addE_lim he hfe hdp hsb h256) (by decide)
        · skip
          have hsb : staB l [.v (.string u), .v (.int .i64 n), .v (.string p)] = false := by rw [sta_lat]; show (match lat (nmP u.data.toList) l with | none => false | some d => decide (n < rvOf d)) = false; rw [hla] <;> exact decide_eq_false (by show ¬ n < en; omega)
          refine sx_region (E := E) ?_
          refine so_move rfl rfl rfl ?_
          refine so_fieldO (o' := 0) rfl rfl rfl Tryz.underlying24 rfl inf9 rfl rfl ?_
          refine so_load rfl rfl rfl (by first | exact ld_own Tryz.underlying9 rfl (by repeat (first | exact List.Mem.head _ | apply List.Mem.tail)) (by first | exact cellsOf_get rfl | rfl) | exact ld_data Tryz.underlying9 rfl (by first | assumption | exact InA.add (by assumption) | exact InA.add (InA.add (by assumption))) (by assumption)) ?_
          refine so_call rfl rfl (fun h => nomatch h) rfl has13 (by repeat (first | exact Opvs.nil | apply Opvs.cons rfl)) (fun H hH => (slatest_ok hH.lt (CellA.gr hH.gr _ _ _ hx) u).e (by rw [hla])) ?_
          refine so_move rfl rfl rfl ?_
          refine so_extract rfl rfl rfl rfl ?_
          refine so_extract rfl rfl rfl rfl ?_
          refine so_alloc (cs := (.string ⟨#[]⟩ :: .int .i64 0 :: .string ⟨#[]⟩ :: [])) rfl rfl (fun h => nomatch h) inf24 rfl rfl ?_
          intro N10
          refine so_storeA rfl (fun h => nomatch h) rfl rfl inf24 (by first | exact cellsOf_length _ _ | rfl) rfl (by repeat (first | exact .zero | apply Upd.succ)) (by first | exact cellsOf_set rfl | exact cellsOf_setr rfl | exact cellsOf_store rfl | exact store_all rfl | rfl) (by first | exact cellsOf_in rfl rfl | exact cellsOf_in rfl (cellsOf_length _ _) | exact cellsOf_le rfl | exact Nat.le_of_ble_eq_true rfl | omega) (fun h => nomatch h) ?_
          refine so_assign rfl rfl rfl ?_
          refine so_then ?_
          refine sx_seq ?_
          refine sx_region (E := E) ?_
          refine so_move rfl rfl rfl ?_
          refine so_move rfl rfl rfl ?_
          first | refine so_fieldO (o' := 1) rfl rfl rfl Tryz.underlying24 rfl inf3 rfl rfl ?_ | refine so_skip rfl rfl rfl ?_
          first | refine so_load rfl rfl rfl (by first | exact ld_own Tryz.underlying3 rfl (by repeat (first | exact List.Mem.head _ | apply List.Mem.tail)) (by first | exact cellsOf_get rfl | rfl) | exact ld_data Tryz.underlying3 rfl (by first | assumption | exact InA.add (by assumption) | exact InA.add (InA.add (by assumption))) (by assumption)) ?_ | refine so_skip rfl rfl rfl ?_
          first | refine so_fieldO (o' := 1) rfl rfl rfl Tryz.underlying24 rfl inf3 rfl rfl ?_ | refine so_skip rfl rfl rfl ?_
          first | refine so_load rfl rfl rfl (by first | exact ld_own Tryz.underlying3 rfl (by repeat (first | exact List.Mem.head _ | apply List.Mem.tail)) (by first | exact cellsOf_get rfl | rfl) | exact ld_data Tryz.underlying3 rfl (by first | assumption | exact InA.add (by assumption) | exact InA.add (InA.add (by assumption))) (by assumption)) ?_ | refine so_skip rfl rfl rfl ?_
          first | refine so_bin rfl rfl rfl rfl (by first | exact bin_gtr_t (by omega) | exact bin_gtr_f (by omega)) ?_ | refine so_skip rfl rfl rfl ?_
          first | refine so_pick_t rfl rfl rfl rfl ?_ | refine so_pick_f rfl rfl rfl rfl ?_
          refine so_then ?_
          refine sx_false rfl ?_
          refine sx_skip ?_
          refine sk_then ?_
          refine sx_seq ?_
          refine sx_seq ?_
          rcases Nat.lt_or_ge l.length 256 with h256 | h256
          · skip
            refine sx_region (E := E) ?_
            refine so_move rfl rfl rfl ?_
            refine so_lenL rfl rfl rfl rfl rfl rfl Tryz.underlying22 ?_
            refine so_bin rfl rfl rfl rfl (by first | exact bin_geq_t (by omega) | exact bin_geq_f (by omega)) ?_
            refine so_then ?_
            refine sx_false rfl ?_
            refine sx_skip ?_
            refine sk_then ?_
            refine sx_seq ?_
            refine sx_region (E := E) ?_
            refine so_assign rfl rfl rfl ?_
            refine so_then ?_
            refine sx_seq ?_
            refine sx_block ?_
            refine sx_loop (σ := Nat) (fun k => l.length - k) (fun k => [(0, .slice ax l.length cx), (3, .pointer (some ⟨2 * N3 + 1, 0, none⟩)), (12, .int .i64 ((k : Nat) : Int))]) (fun _ => S) (fun _ => A) (fun _ => [(N3, .cells [.string u, .int .i64 n, .string p] (boxsz E 24) true)]) (fun k => k ≤ l.length ∧ (∀ j c, j < k → l[j]? = some c → befB c [.v (.string u), .v (.int .i64 n), .v (.string p)] = true)) (0) (⟨Nat.zero_le _, fun j c h => absurd h (Nat.not_lt_zero _)⟩) (by repeat (first | exact .nil | refine .cons rfl ?_)) rfl rfl (by repeat (first | exact List.nil_sublist _ | apply List.Sublist.cons_cons | apply List.Sublist.cons)) ?_
            intro s hJ t1
            obtain ⟨hJ, hg⟩ := hJ
            refine sx_seq ?_
            refine sx_seq ?_
            rcases place3 [.v (.string u), .v (.int .i64 n), .v (.string p)] hJ with ⟨hk, b, hbb, hbf⟩ | ⟨hk, b, hbb, hbf⟩ | hk
            · skip
              obtain ⟨qx2, us2, d2, eqx2, ix2, hc2, lx2, kx2⟩ := rx.at' s hk
              rw [hbb] at hc2; cases hc2
              cases eqx2
              obtain ⟨u2, n2, p2, rfl, rfl, hu2, hn2, hp2⟩ := file3 kx2
              refine sx_draw (E := E) mixed [10] _ (List.Sublist.refl _) (by kernel_rfl) (by kernel_rfl) (by decide) ?_
              refine so_move rfl rfl rfl ?_
              refine so_move rfl rfl rfl ?_
              refine so_lenL rfl rfl rfl rfl rfl rfl Tryz.underlying22 ?_
              refine so_bin rfl rfl rfl rfl (by first | exact bin_lss_t (by omega) | exact bin_lss_f (by omega)) ?_
              refine so_move rfl rfl rfl ?_
              first | refine so_move rfl rfl rfl ?_ | refine so_skip rfl rfl rfl ?_
              first | refine so_move rfl rfl rfl ?_ | refine so_skip rfl rfl rfl ?_
              first | refine so_indexO rfl rfl rfl rfl Tryz.underlying22 inf24 rfl (by omega) rfl ?_ | refine so_index rfl rfl rfl rfl Tryz.underlying22 inf24 rfl (by omega) ?_ | refine so_skip rfl rfl rfl ?_
              first | refine so_load rfl rfl rfl (by first | exact ld_ownA Tryz.underlying24 rfl inf24 rfl (by repeat (first | exact List.Mem.head _ | apply List.Mem.tail)) (by first | exact cellsOf_le rfl | exact Nat.le_of_ble_eq_true rfl | decide | omega) (by first | exact cellsOf_all | exact take_all rfl | exact cellsOf_part rfl | rfl) | exact ld_dataA Tryz.underlying24 rfl inf24 rfl (by first | assumption | exact InA.add (by assumption) | exact InA.add (InA.add (by assumption))) (by assumption)) ?_ | refine so_skip rfl rfl rfl ?_
              first | refine so_load rfl rfl rfl (by first | exact ld_ownA Tryz.underlying24 rfl inf24 rfl (by repeat (first | exact List.Mem.head _ | apply List.Mem.tail)) (by first | exact cellsOf_le rfl | exact Nat.le_of_ble_eq_true rfl | decide | omega) (by first | exact cellsOf_all | exact take_all rfl | exact cellsOf_part rfl | rfl) | exact ld_dataA Tryz.underlying24 rfl inf24 rfl (by first | assumption | exact InA.add (by assumption) | exact InA.add (InA.add (by assumption))) (by assumption)) ?_ | refine so_skip rfl rfl rfl ?_
              first | refine so_call rfl rfl (fun _ => (by repeat (first | exact List.Mem.head _ | apply List.Mem.tail))) rfl has19 (by repeat (first | exact Opvs.nil | apply Opvs.cons rfl)) (fun H hH => (before_ok u2 p2 u p n2 n).b hbf) ?_ | refine so_skip rfl rfl rfl ?_
              first | refine so_pick_t rfl rfl rfl rfl ?_ | refine so_pick_f rfl rfl rfl rfl ?_
              refine so_then ?_
              refine sx_true rfl ?_
              refine sx_skip ?_
              refine sk_then ?_
              refine sx_block ?_
              refine sx_region (E := E) ?_
              refine so_move rfl rfl rfl ?_
              refine so_bin rfl rfl rfl rfl (by first | exact bin_incr (by omega) | exact bin_add (wrap64 (by omega) (by omega)) | exact bin_add rfl) ?_
              refine so_assign rfl rfl rfl ?_
              refine so_nil ?_
              refine sk_block ?_
              refine sk_round (s + 1) (show l.length - (s + 1) < l.length - s by omega) ⟨by omega, fun j c2 hj hc3 => ?_⟩ (by repeat (first | exact .nil | refine .cons rfl ?_)) rfl rfl (by repeat (first | exact List.nil_sublist _ | apply List.Sublist.cons_cons | apply List.Sublist.cons))
              by_cases e : j = s
              · subst e; rw [hbb] at hc3; cases hc3; exact hbf
              · exact hg j c2 (by omega) hc3
            · skip
              obtain ⟨qx2, us2, d2, eqx2, ix2, hc2, lx2, kx2⟩ := rx.at' s hk
              rw [hbb] at hc2; cases hc2
              cases eqx2
              obtain ⟨u2, n2, p2, rfl, rfl, hu2, hn2, hp2⟩ := file3 kx2
              have hend : s = l.length ∨ ∃ c, l[s]? = some c ∧ befB c [.v (.string u), .v (.int .i64 n), .v (.string p)] = false := .inr ⟨_, hbb, hbf⟩
              refine sx_draw (E := E) mixed [10] _ (List.Sublist.refl _) (by kernel_rfl) (by kernel_rfl) (by decide) ?_
              refine so_move rfl rfl rfl ?_
              refine so_move rfl rfl rfl ?_
              refine so_lenL rfl rfl rfl rfl rfl rfl Tryz.underlying22 ?_
              refine so_bin rfl rfl rfl rfl (by first | exact bin_lss_t (by omega) | exact bin_lss_f (by omega)) ?_
              refine so_move rfl rfl rfl ?_
              first | refine so_move rfl rfl rfl ?_ | refine so_skip rfl rfl rfl ?_
              first | refine so_move rfl rfl rfl ?_ | refine so_skip rfl rfl rfl ?_
              first | refine so_indexO rfl rfl rfl rfl Tryz.underlying22 inf24 rfl (by omega) rfl ?_ | refine so_index rfl rfl rfl rfl Tryz.underlying22 inf24 rfl (by omega) ?_ | refine so_skip rfl rfl rfl ?_
              first | refine so_load rfl rfl rfl (by first | exact ld_ownA Tryz.underlying24 rfl inf24 rfl (by repeat (first | exact List.Mem.head _ | apply List.Mem.tail)) (by first | exact cellsOf_le rfl | exact Nat.le_of_ble_eq_true rfl | decide | omega) (by first | exact cellsOf_all | exact take_all rfl | exact cellsOf_part rfl | rfl) | exact ld_dataA Tryz.underlying24 rfl inf24 rfl (by first | assumption | exact InA.add (by assumption) | exact InA.add (InA.add (by assumption))) (by assumption)) ?_ | refine so_skip rfl rfl rfl ?_
              first | refine so_load rfl rfl rfl (by first | exact ld_ownA Tryz.underlying24 rfl inf24 rfl (by repeat (first | exact List.Mem.head _ | apply List.Mem.tail)) (by first | exact cellsOf_le rfl | exact Nat.le_of_ble_eq_true rfl | decide | omega) (by first | exact cellsOf_all | exact take_all rfl | exact cellsOf_part rfl | rfl) | exact ld_dataA Tryz.underlying24 rfl inf24 rfl (by first | assumption | exact InA.add (by assumption) | exact InA.add (InA.add (by assumption))) (by assumption)) ?_ | refine so_skip rfl rfl rfl ?_
              first | refine so_call rfl rfl (fun _ => (by repeat (first | exact List.Mem.head _ | apply List.Mem.tail))) rfl has19 (by repeat (first | exact Opvs.nil | apply Opvs.cons rfl)) (fun H hH => (before_ok u2 p2 u p n2 n).b hbf) ?_ | refine so_skip rfl rfl rfl ?_
              first | refine so_pick_t rfl rfl rfl rfl ?_ | refine so_pick_f rfl rfl rfl rfl ?_
              refine so_then ?_
              refine sx_false rfl ?_
              refine sx_exit ?_
              refine sk_then_exit ?_
              refine sk_loop_exit ?_
              refine sk_block_exit ?_
              refine sk_then ?_
              refine sx_seq ?_
              refine sx_draw (E := E) mixed [4, 8, 9] _ (List.Sublist.refl _) (by kernel_rfl) (by kernel_rfl) (by decide) ?_
              refine so_move rfl rfl rfl ?_
              refine so_move rfl rfl rfl ?_
              refine so_cutD rfl rfl rfl Tryz.underlying22 inf24 .none (.some rfl) .none rx rfl (by decide) (abounds_h (by omega)) hJ (by omega) ?_
              intro a1 r1
              refine so_load rfl rfl rfl (by first | exact ld_ownA Tryz.underlying24 rfl inf24 rfl (by repeat (first | exact List.Mem.head _ | apply List.Mem.tail)) (by first | exact cellsOf_le rfl | exact Nat.le_of_ble_eq_true rfl | decide | omega) (by first | exact cellsOf_all | exact take_all rfl | exact cellsOf_part rfl | rfl) | exact ld_dataA Tryz.underlying24 rfl inf24 rfl (by first | assumption | exact InA.add (by assumption) | exact InA.add (InA.add (by assumption))) (by assumption)) ?_
              refine so_buildSlice (out := [.string u, .int .i64 n, .string p]) (s := 3) rfl rfl (fun _ => (by repeat (first | exact List.Mem.head _ | apply List.Mem.tail))) (by repeat (first | exact Opps.nil | apply Opps.cons rfl)) Tryz.underlying22 inf24 rfl rfl (by kernel_rfl) rfl rfl ?_
              intro N69
              refine so_move rfl rfl rfl ?_
              refine so_move rfl rfl rfl ?_
              refine so_dropD rfl rfl rfl Tryz.underlying22 inf24 rfl rx rfl hJ ?_
              intro a2 r2
              refine so_buildSlice (out := [.slice a1 s cx, .slice (some ⟨2 * N69 + 1, 0, none⟩) 1 1, .slice a2 (l.drop s).length (cx - s)]) (s := 1) rfl rfl (fun _ => (by repeat (first | exact List.Mem.head _ | apply List.Mem.tail))) (by repeat (first | exact Opps.nil | apply Opps.cons rfl)) Tryz.underlying66 inf22 rfl rfl (by kernel_rfl) rfl rfl ?_
              intro N73
              refine so_freezeG .zero (fun _ => List.sublist_cons_self _ _) ?_
              intro Ha Aa ga hAa hga
              refine so_freezeG .zero (fun _ => List.Sublist.refl _) ?_
              intro Hb Ab gb hAb hgb
              have hrow := rows3 ((gb.get _ hAa).trans hga) (gb.sub _ hAa) (by rw [List.length_take]; omega) ((r1.gr ga).gr gb) (one_file hu hn hp hgb hAb) rfl ((r2.gr ga).gr gb)
              refine so_callF (fun u9 H' A' => CellA A' H' (.row 40 k24) u9 (.row (flatR [[.row (l.take s)], [.row [[.v (.string u), .v (.int .i64 n), .v (.string p)]]], [.row (l.drop s)]]))) rfl rfl (fun _ => (by repeat (first | exact List.Mem.head _ | apply List.Mem.tail))) rfl has20 (by repeat (first | exact Opvs.nil | apply Opvs.cons rfl)) (fun H hH => concat_ok hH.lt (CellA.gr hH.gr _ _ _ hrow) (by rw [flat3]; simp) (by rw [flat3]; simp; omega)) ?_
              intro u9 H9 A9 g9 hT
              refine so_assign rfl rfl rfl ?_
              refine so_assign rfl rfl rfl ?_
              refine so_then ?_
              refine sx_ret ?_
              refine sk_return2 (.tmp rfl (.tmp rfl .nil)) ?_
              exact fun H hH => addR_of hH (addE_ok he hfe hdp hsb h256) (by rw [addR_ok (addE_ok he hfe hdp hsb h256), addL_place hJ hg hend, ← flat3]; exact hT)
            · skip
              have hend : s = l.length ∨ ∃ c, l[s]? = some c ∧ befB c [.v (.string u), .v (.int .i64 n), .v (.string p)] = false := .inl hk
              refine sx_draw (E := E) mixed [10] _ (List.Sublist.refl _) (by kernel_rfl) (by kernel_rfl) (by decide) ?_
              refine so_move rfl rfl rfl ?_
              refine so_move rfl rfl rfl ?_
              refine so_lenL rfl rfl rfl rfl rfl rfl Tryz.underlying22 ?_
              refine so_bin rfl rfl rfl rfl (by first | exact bin_lss_t (by omega) | exact bin_lss_f (by omega)) ?_
              refine so_move rfl rfl rfl ?_
              first | refine so_move rfl rfl rfl ?_ | refine so_skip rfl rfl rfl ?_
              first | refine so_move rfl rfl rfl ?_ | refine so_skip rfl rfl rfl ?_
              first | refine so_indexO rfl rfl rfl rfl Tryz.underlying22 inf24 rfl (by omega) rfl ?_ | refine so_index rfl rfl rfl rfl Tryz.underlying22 inf24 rfl (by omega) ?_ | refine so_skip rfl rfl rfl ?_
              first | refine so_load rfl rfl rfl (by first | exact ld_ownA Tryz.underlying24 rfl inf24 rfl (by repeat (first | exact List.Mem.head _ | apply List.Mem.tail)) (by first | exact cellsOf_le rfl | exact Nat.le_of_ble_eq_true rfl | decide | omega) (by first | exact cellsOf_all | exact take_all rfl | exact cellsOf_part rfl | rfl) | exact ld_dataA Tryz.underlying24 rfl inf24 rfl (by first | assumption | exact InA.add (by assumption) | exact InA.add (InA.add (by assumption))) (by assumption)) ?_ | refine so_skip rfl rfl rfl ?_
              first | refine so_load rfl rfl rfl (by first | exact ld_ownA Tryz.underlying24 rfl inf24 rfl (by repeat (first | exact List.Mem.head _ | apply List.Mem.tail)) (by first | exact cellsOf_le rfl | exact Nat.le_of_ble_eq_true rfl | decide | omega) (by first | exact cellsOf_all | exact take_all rfl | exact cellsOf_part rfl | rfl) | exact ld_dataA Tryz.underlying24 rfl inf24 rfl (by first | assumption | exact InA.add (by assumption) | exact InA.add (InA.add (by assumption))) (by assumption)) ?_ | refine so_skip rfl rfl rfl ?_
              first | refine so_call rfl rfl (fun _ => (by repeat (first | exact List.Mem.head _ | apply List.Mem.tail))) rfl has19 (by repeat (first | exact Opvs.nil | apply Opvs.cons rfl)) (fun H hH => (before_ok u2 p2 u p n2 n).b hbf) ?_ | refine so_skip rfl rfl rfl ?_
              first | refine so_pick_t rfl rfl rfl rfl ?_ | refine so_pick_f rfl rfl rfl rfl ?_
              refine so_then ?_
              refine sx_false rfl ?_
              refine sx_exit ?_
              refine sk_then_exit ?_
              refine sk_loop_exit ?_
              refine sk_block_exit ?_
              refine sk_then ?_
              refine sx_seq ?_
              refine sx_draw (E := E) mixed [4, 8, 9] _ (List.Sublist.refl _) (by kernel_rfl) (by kernel_rfl) (by decide) ?_
              refine so_move rfl rfl rfl ?_
              refine so_move rfl rfl rfl ?_
              refine so_cutD rfl rfl rfl Tryz.underlying22 inf24 .none (.some rfl) .none rx rfl (by decide) (abounds_h (by omega)) hJ (by omega) ?_
              intro a1 r1
              refine so_load rfl rfl rfl (by first | exact ld_ownA Tryz.underlying24 rfl inf24 rfl (by repeat (first | exact List.Mem.head _ | apply List.Mem.tail)) (by first | exact cellsOf_le rfl | exact Nat.le_of_ble_eq_true rfl | decide | omega) (by first | exact cellsOf_all | exact take_all rfl | exact cellsOf_part rfl | rfl) | exact ld_dataA Tryz.underlying24 rfl inf24 rfl (by first | assumption | exact InA.add (by assumption) | exact InA.add (InA.add (by assumption))) (by assumption)) ?_
              refine so_buildSlice (out := [.string u, .int .i64 n, .string p]) (s := 3) rfl rfl (fun _ => (by repeat (first | exact List.Mem.head _ | apply List.Mem.tail))) (by repeat (first | exact Opps.nil | apply Opps.cons rfl)) Tryz.underlying22 inf24 rfl rfl (by kernel_rfl) rfl rfl ?_
              intro N69
              refine so_move rfl rfl rfl ?_
              refine so_move rfl rfl rfl ?_
              refine so_dropD rfl rfl rfl Tryz.underlying22 inf24 rfl rx rfl hJ ?_
              intro a2 r2
              refine so_buildSlice (out := [.slice a1 s cx, .slice (some ⟨2 * N69 + 1, 0, none⟩) 1 1, .slice a2 (l.drop s).length (cx - s)]) (s := 1) rfl rfl (fun _ => (by repeat (first | exact List.Mem.head _ | apply List.Mem.tail))) (by repeat (first | exact Opps.nil | apply Opps.cons rfl)) Tryz.underlying66 inf22 rfl rfl (by kernel_rfl) rfl rfl ?_
              intro N73
              refine so_freezeG .zero (fun _ => List.sublist_cons_self _ _) ?_
              intro Ha Aa ga hAa hga
              refine so_freezeG .zero (fun _ => List.Sublist.refl _) ?_
              intro Hb Ab gb hAb hgb
              have hrow := rows3 ((gb.get _ hAa).trans hga) (gb.sub _ hAa) (by rw [List.length_take]; omega) ((r1.gr ga).gr gb) (one_file hu hn hp hgb hAb) rfl ((r2.gr ga).gr gb)
              refine so_callF (fun u9 H' A' => CellA A' H' (.row 40 k24) u9 (.row (flatR [[.row (l.take s)], [.row [[.v (.string u), .v (.int .i64 n), .v (.string p)]]], [.row (l.drop s)]]))) rfl rfl (fun _ => (by repeat (first | exact List.Mem.head _ | apply List.Mem.tail))) rfl has20 (by repeat (first | exact Opvs.nil | apply Opvs.cons rfl)) (fun H hH => concat_ok hH.lt (CellA.gr hH.gr _ _ _ hrow) (by rw [flat3]; simp) (by rw [flat3]; simp; omega)) ?_
              intro u9 H9 A9 g9 hT
              refine so_assign rfl rfl rfl ?_
              refine so_assign rfl rfl rfl ?_
              refine so_then ?_
              refine sx_ret ?_
              refine sk_return2 (.tmp rfl (.tmp rfl .nil)) ?_
              exact fun H hH => addR_of hH (addE_ok he hfe hdp hsb h256) (by rw [addR_ok (addE_ok he hfe hdp hsb h256), addL_place hJ hg hend, ← flat3]; exact hT)
          · skip
            refine sx_region (E := E) ?_
            refine so_move rfl rfl rfl ?_
            refine so_lenL rfl rfl rfl rfl rfl rfl Tryz.underlying22 ?_
            refine so_bin rfl rfl rfl rfl (by first | exact bin_geq_t (by omega) | exact bin_geq_f (by omega)) ?_
            refine so_then ?_
            refine sx_true rfl ?_
            refine sx_seq ?_
            refine sx_region (E := E) ?_
            refine so_assign rfl rfl rfl ?_
            refine so_assign rfl rfl rfl ?_
            refine so_then ?_
            refine sx_ret ?_
            refine sk_then_ret ?_
            refine sk_return2 (.tmp rfl (.tmp rfl .nil)) ?_
            exact fun H hH => addErr hH (addE_lim he hfe hdp hsb h256) (by decide)
        · skip
          have hsb : staB l [.v (.string u), .v (.int .i64 n), .v (.string p)] = true := by rw [sta_lat]; show (match lat (nmP u.data.toList) l with | none => false | some d => decide (n < rvOf d)) = true; rw [hla] <;> exact decide_eq_true (by show n < en; omega)
          refine sx_region (E := E) ?_
          refine so_move rfl rfl rfl ?_
          refine so_fieldO (o' := 0) rfl rfl rfl Tryz.underlying24 rfl inf9 rfl rfl ?_
          refine so_load rfl rfl rfl (by first | exact ld_own Tryz.underlying9 rfl (by repeat (first | exact List.Mem.head _ | apply List.Mem.tail)) (by first | exact cellsOf_get rfl | rfl) | exact ld_data Tryz.underlying9 rfl (by first | assumption | exact InA.add (by assumption) | exact InA.add (InA.add (by assumption))) (by assumption)) ?_
          refine so_call rfl rfl (fun h => nomatch h) rfl has13 (by repeat (first | exact Opvs.nil | apply Opvs.cons rfl)) (fun H hH => (slatest_ok hH.lt (CellA.gr hH.gr _ _ _ hx) u).e (by rw [hla])) ?_
          refine so_move rfl rfl rfl ?_
          refine so_extract rfl rfl rfl rfl ?_
          refine so_extract rfl rfl rfl rfl ?_
          refine so_alloc (cs := (.string ⟨#[]⟩ :: .int .i64 0 :: .string ⟨#[]⟩ :: [])) rfl rfl (fun h => nomatch h) inf24 rfl rfl ?_
          intro N10
          refine so_storeA rfl (fun h => nomatch h) rfl rfl inf24 (by first | exact cellsOf_length _ _ | rfl) rfl (by repeat (first | exact .zero | apply Upd.succ)) (by first | exact cellsOf_set rfl | exact cellsOf_setr rfl | exact cellsOf_store rfl | exact store_all rfl | rfl) (by first | exact cellsOf_in rfl rfl | exact cellsOf_in rfl (cellsOf_length _ _) | exact cellsOf_le rfl | exact Nat.le_of_ble_eq_true rfl | omega) (fun h => nomatch h) ?_
          refine so_assign rfl rfl rfl ?_
          refine so_then ?_
          refine sx_seq ?_
          refine sx_region (E := E) ?_
          refine so_move rfl rfl rfl ?_
          refine so_move rfl rfl rfl ?_
          first | refine so_fieldO (o' := 1) rfl rfl rfl Tryz.underlying24 rfl inf3 rfl rfl ?_ | refine so_skip rfl rfl rfl ?_
          first | refine so_load rfl rfl rfl (by first | exact ld_own Tryz.underlying3 rfl (by repeat (first | exact List.Mem.head _ | apply List.Mem.tail)) (by first | exact cellsOf_get rfl | rfl) | exact ld_data Tryz.underlying3 rfl (by first | assumption | exact InA.add (by assumption) | exact InA.add (InA.add (by assumption))) (by assumption)) ?_ | refine so_skip rfl rfl rfl ?_
          first | refine so_fieldO (o' := 1) rfl rfl rfl Tryz.underlying24 rfl inf3 rfl rfl ?_ | refine so_skip rfl rfl rfl ?_
          first | refine so_load rfl rfl rfl (by first | exact ld_own Tryz.underlying3 rfl (by repeat (first | exact List.Mem.head _ | apply List.Mem.tail)) (by first | exact cellsOf_get rfl | rfl) | exact ld_data Tryz.underlying3 rfl (by first | assumption | exact InA.add (by assumption) | exact InA.add (InA.add (by assumption))) (by assumption)) ?_ | refine so_skip rfl rfl rfl ?_
          first | refine so_bin rfl rfl rfl rfl (by first | exact bin_gtr_t (by omega) | exact bin_gtr_f (by omega)) ?_ | refine so_skip rfl rfl rfl ?_
          first | refine so_pick_t rfl rfl rfl rfl ?_ | refine so_pick_f rfl rfl rfl rfl ?_
          refine so_then ?_
          refine sx_true rfl ?_
          refine sx_seq ?_
          refine sx_region (E := E) ?_
          refine so_assign rfl rfl rfl ?_
          refine so_assign rfl rfl rfl ?_
          refine so_then ?_
          refine sx_ret ?_
          refine sk_then_ret ?_
          refine sk_return2 (.tmp rfl (.tmp rfl .nil)) ?_
          exact fun H hH => addErr hH (addE_sta he hfe hdp hsb) (by decide)
      · skip
        refine sx_region (E := E) ?_
        refine so_move rfl rfl rfl ?_
        refine so_fieldO (o' := 0) rfl rfl rfl Tryz.underlying24 rfl inf9 rfl rfl ?_
        refine so_load rfl rfl rfl (by first | exact ld_own Tryz.underlying9 rfl (by repeat (first | exact List.Mem.head _ | apply List.Mem.tail)) (by first | exact cellsOf_get rfl | rfl) | exact ld_data Tryz.underlying9 rfl (by first | assumption | exact InA.add (by assumption) | exact InA.add (InA.add (by assumption))) (by assumption)) ?_
        refine so_fieldO (o' := 1) rfl rfl rfl Tryz.underlying24 rfl inf3 rfl rfl ?_
        refine so_load rfl rfl rfl (by first | exact ld_own Tryz.underlying3 rfl (by repeat (first | exact List.Mem.head _ | apply List.Mem.tail)) (by first | exact cellsOf_get rfl | rfl) | exact ld_data Tryz.underlying3 rfl (by first | assumption | exact InA.add (by assumption) | exact InA.add (InA.add (by assumption))) (by assumption)) ?_
        refine so_call rfl rfl (fun h => nomatch h) rfl has18 (by repeat (first | exact Opvs.nil | apply Opvs.cons rfl)) (fun H hH => (find_ok hH.lt (CellA.gr hH.gr _ _ _ hx) u n).e (by rw [ho])) ?_
        refine so_move rfl rfl rfl ?_
        refine so_extract rfl rfl rfl rfl ?_
        refine so_extract rfl rfl rfl rfl ?_
        refine so_alloc (cs := (.string ⟨#[]⟩ :: .int .i64 0 :: .string ⟨#[]⟩ :: [])) rfl rfl (fun h => nomatch h) inf24 rfl rfl ?_
        intro N8
        refine so_storeA rfl (fun h => nomatch h) rfl rfl inf24 (by first | exact cellsOf_length _ _ | rfl) rfl (by repeat (first | exact .zero | apply Upd.succ)) (by first | exact cellsOf_set rfl | exact cellsOf_setr rfl | exact cellsOf_store rfl | exact store_all rfl | rfl) (by first | exact cellsOf_in rfl rfl | exact cellsOf_in rfl (cellsOf_length _ _) | exact cellsOf_le rfl | exact Nat.le_of_ble_eq_true rfl | omega) (fun h => nomatch h) ?_
        refine so_assign rfl rfl rfl ?_
        refine so_then ?_
        refine sx_seq ?_
        refine sx_region (E := E) ?_
        refine so_move rfl rfl rfl ?_
        refine so_then ?_
        refine sx_true rfl ?_
        refine sx_seq ?_
        refine sx_region (E := E) ?_
        refine so_assign rfl rfl rfl ?_
        refine so_assign rfl rfl rfl ?_
        refine so_then ?_
        refine sx_ret ?_
        refine sk_then_ret ?_
        refine sk_return2 (.tmp rfl (.tmp rfl .nil)) ?_
        exact fun H hH => addErr hH (addE_dup he hfe (by rw [← fnd_dup]; show (fnd l u.data.toList n).isSome = true; rw [ho]; rfl)) (by decide)
    · skip
      refine sx_region (E := E) ?_
      refine so_move rfl rfl rfl ?_
      refine so_bin rfl rfl rfl rfl (by first | exact bin_neq_f (by first | rfl | assumption | omega) | exact bin_neq_t (by first | rfl | assumption | omega)) ?_
      refine so_then ?_
      refine sx_true rfl ?_
      refine sx_seq ?_
      refine sx_region (E := E) ?_
      refine so_move rfl rfl rfl ?_
      refine so_assign rfl rfl rfl ?_
      refine so_assign rfl rfl rfl ?_
      refine so_then ?_
      refine sx_ret ?_
      refine sk_then_ret ?_
      refine sk_return2 (.tmp rfl (.tmp rfl .nil)) ?_
      exact fun H hH => addErr hH (addE_file he hfe) hfe
  · skip
    refine sx_region (E := E) ?_
    refine so_move rfl rfl rfl ?_
    refine so_bin rfl rfl rfl rfl (by first | exact bin_neq_f (by first | rfl | assumption | omega) | exact bin_neq_t (by first | rfl | assumption | omega)) ?_
    refine so_then ?_
    refine sx_true rfl ?_
    refine sx_seq ?_
    refine sx_region (E := E) ?_
    refine so_move rfl rfl rfl ?_
    refine so_assign rfl rfl rfl ?_
    refine so_assign rfl rfl rfl ?_
    refine so_then ?_
    refine sx_ret ?_
    refine sk_then_ret ?_
    refine sk_return2 (.tmp rfl (.tmp rfl .nil)) ?_
    exact fun H hH => addErr hH (addE_lib he) he

end Go.Proofs.YthnplnlhibalcaaGreatDoor
