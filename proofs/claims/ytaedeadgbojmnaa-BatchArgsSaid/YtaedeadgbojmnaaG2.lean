/-
  Walks, laid by program.
-/
import Derived.Test.YtaedeadgbojmnaaG1
set_option linter.unusedVariables false
set_option linter.unusedSimpArgs false
set_option maxRecDepth 100000
namespace Go.Proofs.Ytaedeadgbojmnaa
open Go Go.AM

def RowR (l : List Txt) (A : Nat → Prop) (S : AH) (u : Value) (H' : AH) : Prop := Kept S.nx S H' ∧ CellA (fun j => A j ∨ (S.nx ≤ j ∧ j < H'.nx)) H' (.row 16 [.str]) u (.row (strs l))
theorem rowR_of {S H0 H : AH} {A A1 : Nat → Prop} {L : OL} {v : Value} {l : List Txt} (hH : HS S H0 A A1 L H) (h : CellA A1 H0 (.row 16 [.str]) v (.row (strs l))) : RowR l A S v H :=
  ⟨hH.kept, CellA.gr (hH.gr.trans ⟨fun j hj => (hH.sub j hj).imp id fun h => ⟨h, hH.lt j hj⟩, fun _ _ => rfl, rfl⟩) _ _ _ h⟩
theorem strs_len (l : List Txt) : (strs l).length = l.length := by simp [strs]
theorem strs_get {l : List Txt} {i : Nat} {u : ByteArray} (h : (strs l)[i]? = some [.v (.string u)]) : l[i]? = some u.data.toList := by
  simp only [strs, List.getElem?_map, Option.map_eq_some_iff] at h
  obtain ⟨a, h1, h2⟩ := h
  cases h2
  exact h1
theorem rows_short {A : Nat → Prop} {H : AH} {l : List Txt} {ax : Option Addr} {cx : Nat} (r : RowD A H 16 [.str] (strs l) ax cx) : ∀ s ∈ l, s.length ≤ maxLen := by
  intro s hs
  obtain ⟨i, hi, rfl⟩ := List.getElem_of_mem hs
  obtain ⟨p, xs, c, _, _, h3, _, h5⟩ := r.at' i (by rw [strs_len]; exact hi)
  obtain ⟨u, rfl, rfl, hu⟩ := str1 h5
  have := strs_get h3
  rw [List.getElem?_eq_getElem hi] at this
  rw [Option.some.inj this]
  exact hu
/-- an own row of texts that has become data -/
theorem row_texts {A : Nat → Prop} {H : AH} {N cap : Nat} {o rest : List Txt} {ex : Bool} (hg : H.tr.get N = some (.cells ((o ++ rest).map encS) 1 ex)) (hA : A N) (hs : ∀ s ∈ o, s.length ≤ maxLen) (hcap : o.length ≤ cap) (hb : o.length ≤ 8796093020000) : CellA A H (.row 16 [.str]) (.slice (some ⟨2 * N + 1, 0, none⟩) o.length cap) (.row (strs o)) := by
  refine row_own hg hA rfl (strs_len o).symm (by rw [strs_len, List.length_map, List.length_append]; omega) (fun i c hc => ?_) (by rw [strs_len]; exact hcap) (by rw [strs_len]; omega) (by rw [strs_len]; omega)
  have hi : i < o.length := by have := lt_of_getElem? hc; rwa [strs_len] at this
  simp only [strs, List.getElem?_map, List.getElem?_eq_getElem hi, Option.map_some, Option.some.injEq] at hc
  subst hc
  have e : (((o ++ rest).map encS).drop (i * 1)).take 1 = [encS o[i]] := by
    rw [Nat.mul_one, List.drop_eq_getElem_cons (by rw [List.length_map, List.length_append]; omega)]
    simp only [List.take_succ_cons, List.take_zero, List.getElem_map, List.getElem_append_left hi]
  rw [e]
  simp only [CellsA, CellA]
  exact ⟨⟨rfl, ⟨⟨o[i]⟩⟩, rfl, hs _ (List.getElem_mem hi)⟩, trivial⟩
theorem row_texts' {A : Nat → Prop} {H : AH} {N : Nat} {o : List Txt} {ex : Bool} (hg : H.tr.get N = some (.cells (o.map encS) 1 ex)) (hA : A N) (hs : ∀ s ∈ o, s.length ≤ maxLen) (hb : o.length ≤ 8796093020000) : CellA A H (.row 16 [.str]) (.slice (some ⟨2 * N + 1, 0, none⟩) o.length o.length) (.row (strs o)) :=
  row_texts (rest := []) (by rw [List.append_nil]; exact hg) hA hs (Nat.le_refl _) hb
theorem take_snoc {l : List Txt} {i : Nat} {y : Txt} (h : l[i]? = some y) : l.take (i + 1) = l.take i ++ [y] := by rw [List.take_add_one, h]; rfl
theorem enc_snoc (o : List Txt) (y : Txt) : o.map encS ++ [encS y] = (o ++ [y]).map encS := by simp
theorem len_snoc (o : List Txt) (y : Txt) : o.length + 1 = (o ++ [y]).length := by simp
theorem insL_len (s : Txt) (l : List Txt) : (insL s l).length ≤ l.length + 1 := by
  induction l with
  | nil => simp [insL]
  | cons y r ih =>
    simp only [insL]
    by_cases e : s < y
    · rw [if_pos e]; simp
    · rw [if_neg e]; simp only [List.length_cons]; omega
theorem insCase (b : Bool) (p : Prop) [Decidable p] : (b = false ∧ p) ∨ (b = false ∧ ¬ p) ∨ b = true := by
  cases b with
  | true => exact .inr (.inr rfl)
  | false => by_cases h : p
             · exact .inl ⟨rfl, h⟩
             · exact .inr (.inl ⟨rfl, h⟩)
theorem ins1 {l o : List Txt} {i : Nat} {s y : Txt} (hli : l[i]? = some y) (ho : o = insL s (l.take i)) (hb : false = anyG s (l.take i)) (hlt : s < y) : (o ++ [s]) ++ [y] = insL s (l.take (i + 1)) ∧ true = anyG s (l.take (i + 1)) := by
  refine ⟨?_, by rw [take_snoc hli, anyG_snoc, decide_eq_true hlt, Bool.or_true]⟩
  rw [take_snoc hli, insL_snoc_f hb.symm, if_pos hlt, ho, insL_none hb.symm, List.append_assoc]; rfl
theorem ins2 {l o : List Txt} {i : Nat} {s y : Txt} (hli : l[i]? = some y) (ho : o = insL s (l.take i)) (hb : false = anyG s (l.take i)) (hlt : ¬ s < y) : o ++ [y] = insL s (l.take (i + 1)) ∧ false = anyG s (l.take (i + 1)) := by
  refine ⟨?_, by rw [take_snoc hli, anyG_snoc, ← hb, decide_eq_false hlt]; rfl⟩
  rw [take_snoc hli, insL_snoc_f hb.symm, if_neg hlt, ho, insL_none hb.symm]
theorem ins3 {l o : List Txt} {i : Nat} {s y : Txt} (hli : l[i]? = some y) (ho : o = insL s (l.take i)) (hb : true = anyG s (l.take i)) : o ++ [y] = insL s (l.take (i + 1)) ∧ true = anyG s (l.take (i + 1)) := by
  refine ⟨?_, by rw [take_snoc hli, anyG_snoc, ← hb]; rfl⟩
  rw [take_snoc hli, insL_snoc_t hb.symm, ho]
theorem insF_in {s : Txt} {l : List Txt} (h : s ∈ l) : insF s l = l := by unfold insF; rw [if_pos h]
theorem not_mem_of {s : Txt} {l : List Txt} (h : ∀ j, j < l.length → l[j]? ≠ some s) : s ∉ l := fun hm => by
  obtain ⟨j, hj, e⟩ := List.getElem_of_mem hm
  exact h j hj (by rw [List.getElem?_eq_getElem hj, e])
theorem insF_big {s : Txt} {l : List Txt} (h : s ∉ l) (k : anyG s l = true) : insF s l = insL s l := by unfold insF; rw [if_neg h, if_pos k]
theorem insF_end {s : Txt} {l : List Txt} (h : s ∉ l) (k : anyG s l = false) : insF s l = insL s l ++ [s] := by unfold insF; rw [if_neg h, if_neg (by rw [k]; simp), insL_none k]
theorem insF_short {s : Txt} {l : List Txt} (hs : s.length ≤ maxLen) (hl : ∀ x ∈ l, x.length ≤ maxLen) : ∀ x ∈ insF s l, x.length ≤ maxLen := fun x hx => by
  rcases (insF_mem s l x).1 hx with rfl | h
  · exact hs
  · exact hl x h
set_option maxHeartbeats 2000000 in
theorem insert_ok {S : AH} {A : Nat → Prop} (hA : ∀ j, A j → j < S.nx) {x : Value} {l : List Txt} {q : ByteArray} (hq : q.size ≤ maxLen) (hx : CellA A S (.row 16 [.str]) x (.row (strs l))) (hlen : l.length ≤ 8796093010000) : XCall Try.prog 33 [x, .string q] S (RowR (insF q.data.toList l) A S) := by
  obtain ⟨l2, ax, cx, e2, rfl, rx⟩ := hx.rowD
  cases e2
  have hsl := strs_len l
  refine x_enter (E := E) (n := 50) (rs := [.tmp 4]) (l := [(1, _), (0, _)]) (fn_own Try.func33 rfl rfl rfl) hA rfl ?_
  refine sx_seq ?_
  refine sx_region (E := E) ?_
  refine so_assign rfl rfl rfl ?_
  refine so_then ?_
  refine sx_seq ?_
  refine sx_region (E := E) ?_
  refine so_buildSlice (out := []) (s := 1) rfl rfl (fun h => nomatch h) (by repeat (first | exact Opps.nil | apply Opps.cons rfl)) Try.underlying67 inf9 rfl rfl (by kernel_rfl) rfl rfl ?_
  intro N8
  refine so_assign rfl rfl rfl ?_
  refine so_then ?_
  refine sx_seq ?_
  refine sx_region (E := E) ?_
  refine so_assign rfl rfl rfl ?_
  refine so_then ?_
  refine sx_seq ?_
  refine sx_seq ?_
  refine sx_region (E := E) ?_
  refine so_assign rfl rfl rfl ?_
  refine so_then ?_
  refine sx_block ?_
  refine sx_loop (σ := Nat × Nat × List Txt × Bool × Bool) (fun z => (strs l).length - z.1) (fun z => [(0, .slice ax (strs l).length cx), (1, .string q), (5, .slice (some ⟨2 * z.2.1 + 1, 0, none⟩) z.2.2.1.length z.2.2.1.length), (6, .bool z.2.2.2.2), (7, .int .i64 ((z.1 : Nat) : Int))]) (fun _ => S) (fun _ => A) (fun z => [(z.2.1, .cells (z.2.2.1.map encS) 1 z.2.2.2.1)]) (fun z => z.1 ≤ (strs l).length ∧ (∀ j, j < z.1 → l[j]? ≠ some q.data.toList) ∧ z.2.2.1 = insL q.data.toList (l.take z.1) ∧ z.2.2.2.2 = anyG q.data.toList (l.take z.1)) ((0, N8, [], true, false)) (⟨Nat.zero_le _, fun j h => absurd h (Nat.not_lt_zero _), rfl, rfl⟩) (by repeat (first | exact .nil | refine .cons rfl ?_)) rfl rfl (by repeat (first | exact List.nil_sublist _ | apply List.Sublist.cons_cons | apply List.Sublist.cons)) ?_
  intro s hJ t1
  obtain ⟨i, M, o, ex, b⟩ := s
  obtain ⟨hJ, hg, ho, hb⟩ := hJ
  dsimp only at hJ hg ho hb ⊢
  refine sx_seq ?_
  refine sx_seq ?_
  rcases Nat.lt_or_ge i (strs l).length with hk | hk
  · skip
    obtain ⟨qx, us, d, rfl, ix, hcx, lx, kx⟩ := rx.at' i hk
    obtain ⟨u, rfl, rfl, hu⟩ := str1 kx
    obtain ⟨x0, e0, lx⟩ := aloads_one lx
    cases e0
    have hli := strs_get hcx
    have hol := insL_len q.data.toList (l.take i)
    rw [← ho, List.length_take] at hol
    have hol2 := (len_snoc o q.data.toList).symm
    refine sx_region (E := E) ?_
    refine so_move rfl rfl rfl ?_
    refine so_move rfl rfl rfl ?_
    refine so_lenL rfl rfl rfl rfl rfl rfl Try.underlying67 ?_
    refine so_bin rfl rfl rfl rfl (by first | exact bin_lss_t (by omega) | exact bin_lss_f (by omega)) ?_
    refine so_then ?_
    refine sx_true rfl ?_
    refine sx_skip ?_
    refine sk_then ?_
    refine sx_seq ?_
    refine sx_block ?_
    refine sx_seq ?_
    refine sx_seq ?_
    by_cases heq : u.data.toList = q.data.toList
    · skip
      refine sx_region (E := E) ?_
      refine so_move rfl rfl rfl ?_
      refine so_move rfl rfl rfl ?_
      first | refine so_indexO rfl rfl rfl rfl Try.underlying67 inf9 rfl (by omega) rfl ?_ | refine so_index rfl rfl rfl rfl Try.underlying67 inf9 rfl (by omega) ?_
      refine so_load rfl rfl rfl (by first | exact ld_own Try.underlying9 rfl (by repeat (first | exact List.Mem.head _ | apply List.Mem.tail)) (by first | exact cellsOf_get rfl | rfl) | exact ld_data Try.underlying9 rfl (by first | assumption | exact InA.add (by assumption) | exact InA.add (InA.add (by assumption))) (by assumption)) ?_
      refine so_move rfl rfl rfl ?_
      refine so_bin rfl rfl rfl rfl (by first | exact bin_seql_t (by first | rfl | assumption | decide) | exact bin_seql_f (by first | rfl | assumption | decide)) ?_
      refine so_then ?_
      refine sx_true rfl ?_
      refine sx_seq ?_
      refine sx_region (E := E) ?_
      refine so_move rfl rfl rfl ?_
      refine so_assign rfl rfl rfl ?_
      refine so_then ?_
      refine sx_ret ?_
      refine sk_then_ret ?_
      refine sk_block_ret ?_
      refine sk_then_ret ?_
      refine sk_loop_ret ?_
      refine sk_block_ret ?_
      refine sk_then_ret ?_
      refine sk_return1 (.tmp rfl .nil) ?_
      exact fun H hH => rowR_of hH (by rw [insF_in (List.mem_of_getElem? (heq ▸ hli))]; exact rx.cell)
    · skip
      refine sx_region (E := E) ?_
      refine so_move rfl rfl rfl ?_
      refine so_move rfl rfl rfl ?_
      first | refine so_indexO rfl rfl rfl rfl Try.underlying67 inf9 rfl (by omega) rfl ?_ | refine so_index rfl rfl rfl rfl Try.underlying67 inf9 rfl (by omega) ?_
      refine so_load rfl rfl rfl (by first | exact ld_own Try.underlying9 rfl (by repeat (first | exact List.Mem.head _ | apply List.Mem.tail)) (by first | exact cellsOf_get rfl | rfl) | exact ld_data Try.underlying9 rfl (by first | assumption | exact InA.add (by assumption) | exact InA.add (InA.add (by assumption))) (by assumption)) ?_
      refine so_move rfl rfl rfl ?_
      refine so_bin rfl rfl rfl rfl (by first | exact bin_seql_t (by first | rfl | assumption | decide) | exact bin_seql_f (by first | rfl | assumption | decide)) ?_
      refine so_then ?_
      refine sx_false rfl ?_
      refine sx_skip ?_
      refine sk_then ?_
      refine sx_seq ?_
      refine sx_seq ?_
      rcases insCase b (q.data.toList < u.data.toList) with ⟨rfl, hlt⟩ | ⟨rfl, hlt⟩ | rfl
      · skip
        refine sx_region (E := E) ?_
        refine so_move rfl rfl rfl ?_
        refine so_not rfl rfl rfl rfl ?_
        refine so_move rfl rfl rfl ?_
        first | refine so_move rfl rfl rfl ?_ | refine so_skip rfl rfl rfl ?_
        first | refine so_move rfl rfl rfl ?_ | refine so_skip rfl rfl rfl ?_
        first | refine so_indexO rfl rfl rfl rfl Try.underlying67 inf9 rfl (by omega) rfl ?_ | refine so_index rfl rfl rfl rfl Try.underlying67 inf9 rfl (by omega) ?_ | refine so_skip rfl rfl rfl ?_
        first | refine so_load rfl rfl rfl (by first | exact ld_own Try.underlying9 rfl (by repeat (first | exact List.Mem.head _ | apply List.Mem.tail)) (by first | exact cellsOf_get rfl | rfl) | exact ld_data Try.underlying9 rfl (by first | assumption | exact InA.add (by assumption) | exact InA.add (InA.add (by assumption))) (by assumption)) ?_ | refine so_skip rfl rfl rfl ?_
        first | refine so_move rfl rfl rfl ?_ | refine so_skip rfl rfl rfl ?_
        first | refine so_bin rfl rfl rfl rfl (by first | exact bin_sgtr (gtr_t hlt) | exact bin_sgtr (gtr_f hlt) | exact bin_gtr_t (by omega) | exact bin_gtr_f (by omega)) ?_ | refine so_skip rfl rfl rfl ?_
        first | refine so_pick_t rfl rfl rfl rfl ?_ | refine so_pick_f rfl rfl rfl rfl ?_
        refine so_then ?_
        refine sx_true rfl ?_
        refine sx_seq ?_
        refine sx_region (E := E) ?_
        refine so_move rfl rfl rfl ?_
        refine so_move rfl rfl rfl ?_
        refine so_buildSlice (out := [encS q.data.toList]) (s := 1) rfl rfl (fun h => nomatch h) (by repeat (first | exact Opps.nil | apply Opps.cons rfl)) Try.underlying67 inf9 rfl rfl (by kernel_rfl) rfl rfl ?_
        intro N34
        refine so_appAny (m := 1) (bt := 16) (sz := 1) (cs' := (o ++ [q.data.toList]).map encS) (k := (o ++ [q.data.toList]).length) rfl rfl (fun h => nomatch h) rfl rfl rfl rfl rfl Try.underlying67 Try.underlying67 rfl inf9 rfl rfl (by decide) rfl (by decide) (first_own (List.Mem.head _) rfl) (.succ .zero) (by rw [List.length_map, Nat.mul_one]) rfl (roomB_of (by omega)) (by omega) (enc_snoc _ _) (fun h => nomatch h) (len_snoc _ _) ?_
        intro M2
        refine so_assign rfl rfl rfl ?_
        refine so_then ?_
        refine sx_region (E := E) ?_
        refine so_assign rfl rfl rfl ?_
        refine so_then ?_
        refine sx_region (E := E) ?_
        refine so_move rfl rfl rfl ?_
        refine so_move rfl rfl rfl ?_
        refine so_move rfl rfl rfl ?_
        first | refine so_indexO rfl rfl rfl rfl Try.underlying67 inf9 rfl (by omega) rfl ?_ | refine so_index rfl rfl rfl rfl Try.underlying67 inf9 rfl (by omega) ?_
        refine so_load rfl rfl rfl (by first | exact ld_own Try.underlying9 rfl (by repeat (first | exact List.Mem.head _ | apply List.Mem.tail)) (by first | exact cellsOf_get rfl | rfl) | exact ld_data Try.underlying9 rfl (by first | assumption | exact InA.add (by assumption) | exact InA.add (InA.add (by assumption))) (by assumption)) ?_
        refine so_buildSlice (out := [encS u.data.toList]) (s := 1) rfl rfl (fun h => nomatch h) (by repeat (first | exact Opps.nil | apply Opps.cons rfl)) Try.underlying67 inf9 rfl rfl (by kernel_rfl) rfl rfl ?_
        intro N41
        refine so_appAny (m := 1) (bt := 16) (sz := 1) (cs' := ((o ++ [q.data.toList]) ++ [u.data.toList]).map encS) (k := ((o ++ [q.data.toList]) ++ [u.data.toList]).length) rfl rfl (fun h => nomatch h) rfl rfl rfl rfl rfl Try.underlying67 Try.underlying67 rfl inf9 rfl rfl (by decide) rfl (by decide) (first_own (List.Mem.head _) rfl) (.succ .zero) (by rw [List.length_map, Nat.mul_one]) rfl (roomB_of (by omega)) (by omega) (enc_snoc _ _) (fun h => nomatch h) (len_snoc _ _) ?_
        intro M3
        refine so_assign rfl rfl rfl ?_
        refine so_nil ?_
        refine sk_block ?_
        refine sk_then ?_
        refine sx_region (E := E) ?_
        refine so_move rfl rfl rfl ?_
        refine so_bin rfl rfl rfl rfl (by first | exact bin_incr (by omega) | exact bin_add (wrap64 (by omega) (by omega)) | exact bin_add rfl) ?_
        refine so_assign rfl rfl rfl ?_
        refine so_nil ?_
        exact sk_round (i + 1, M3, (o ++ [q.data.toList]) ++ [u.data.toList], false, true) (show (strs l).length - (i + 1) < (strs l).length - i by omega) ⟨show i + 1 ≤ (strs l).length by omega, fun j hj => (if e : j = i then (by rw [e, hli]; exact fun h => heq (Option.some.inj h)) else hg j (by omega)), ins1 hli ho hb hlt⟩ (by repeat (first | exact .nil | refine .cons rfl ?_)) rfl rfl (by repeat (first | exact List.nil_sublist _ | apply List.Sublist.cons_cons | apply List.Sublist.cons))
      · skip
        refine sx_region (E := E) ?_
        refine so_move rfl rfl rfl ?_
        refine so_not rfl rfl rfl rfl ?_
        refine so_move rfl rfl rfl ?_
        first | refine so_move rfl rfl rfl ?_ | refine so_skip rfl rfl rfl ?_
        first | refine so_move rfl rfl rfl ?_ | refine so_skip rfl rfl rfl ?_
        first | refine so_indexO rfl rfl rfl rfl Try.underlying67 inf9 rfl (by omega) rfl ?_ | refine so_index rfl rfl rfl rfl Try.underlying67 inf9 rfl (by omega) ?_ | refine so_skip rfl rfl rfl ?_
        first | refine so_load rfl rfl rfl (by first | exact ld_own Try.underlying9 rfl (by repeat (first | exact List.Mem.head _ | apply List.Mem.tail)) (by first | exact cellsOf_get rfl | rfl) | exact ld_data Try.underlying9 rfl (by first | assumption | exact InA.add (by assumption) | exact InA.add (InA.add (by assumption))) (by assumption)) ?_ | refine so_skip rfl rfl rfl ?_
        first | refine so_move rfl rfl rfl ?_ | refine so_skip rfl rfl rfl ?_
        first | refine so_bin rfl rfl rfl rfl (by first | exact bin_sgtr (gtr_t hlt) | exact bin_sgtr (gtr_f hlt) | exact bin_gtr_t (by omega) | exact bin_gtr_f (by omega)) ?_ | refine so_skip rfl rfl rfl ?_
        first | refine so_pick_t rfl rfl rfl rfl ?_ | refine so_pick_f rfl rfl rfl rfl ?_
        refine so_then ?_
        refine sx_false rfl ?_
        refine sx_skip ?_
        refine sk_then ?_
        refine sx_region (E := E) ?_
        refine so_move rfl rfl rfl ?_
        refine so_move rfl rfl rfl ?_
        refine so_move rfl rfl rfl ?_
        first | refine so_indexO rfl rfl rfl rfl Try.underlying67 inf9 rfl (by omega) rfl ?_ | refine so_index rfl rfl rfl rfl Try.underlying67 inf9 rfl (by omega) ?_
        refine so_load rfl rfl rfl (by first | exact ld_own Try.underlying9 rfl (by repeat (first | exact List.Mem.head _ | apply List.Mem.tail)) (by first | exact cellsOf_get rfl | rfl) | exact ld_data Try.underlying9 rfl (by first | assumption | exact InA.add (by assumption) | exact InA.add (InA.add (by assumption))) (by assumption)) ?_
        refine so_buildSlice (out := [encS u.data.toList]) (s := 1) rfl rfl (fun h => nomatch h) (by repeat (first | exact Opps.nil | apply Opps.cons rfl)) Try.underlying67 inf9 rfl rfl (by kernel_rfl) rfl rfl ?_
        intro N41
        refine so_appAny (m := 1) (bt := 16) (sz := 1) (cs' := (o ++ [u.data.toList]).map encS) (k := (o ++ [u.data.toList]).length) rfl rfl (fun h => nomatch h) rfl rfl rfl rfl rfl Try.underlying67 Try.underlying67 rfl inf9 rfl rfl (by decide) rfl (by decide) (first_own (List.Mem.head _) rfl) (.succ .zero) (by rw [List.length_map, Nat.mul_one]) rfl (roomB_of (by omega)) (by omega) (enc_snoc _ _) (fun h => nomatch h) (len_snoc _ _) ?_
        intro M3
        refine so_assign rfl rfl rfl ?_
        refine so_nil ?_
        refine sk_block ?_
        refine sk_then ?_
        refine sx_region (E := E) ?_
        refine so_move rfl rfl rfl ?_
        refine so_bin rfl rfl rfl rfl (by first | exact bin_incr (by omega) | exact bin_add (wrap64 (by omega) (by omega)) | exact bin_add rfl) ?_
        refine so_assign rfl rfl rfl ?_
        refine so_nil ?_
        exact sk_round (i + 1, M3, o ++ [u.data.toList], false, false) (show (strs l).length - (i + 1) < (strs l).length - i by omega) ⟨show i + 1 ≤ (strs l).length by omega, fun j hj => (if e : j = i then (by rw [e, hli]; exact fun h => heq (Option.some.inj h)) else hg j (by omega)), ins2 hli ho hb hlt⟩ (by repeat (first | exact .nil | refine .cons rfl ?_)) rfl rfl (by repeat (first | exact List.nil_sublist _ | apply List.Sublist.cons_cons | apply List.Sublist.cons))
      · skip
        refine sx_region (E := E) ?_
        refine so_move rfl rfl rfl ?_
        refine so_not rfl rfl rfl rfl ?_
        refine so_move rfl rfl rfl ?_
        first | refine so_move rfl rfl rfl ?_ | refine so_skip rfl rfl rfl ?_
        first | refine so_move rfl rfl rfl ?_ | refine so_skip rfl rfl rfl ?_
        first | refine so_indexO rfl rfl rfl rfl Try.underlying67 inf9 rfl (by omega) rfl ?_ | refine so_index rfl rfl rfl rfl Try.underlying67 inf9 rfl (by omega) ?_ | refine so_skip rfl rfl rfl ?_
        first | refine so_load rfl rfl rfl (by first | exact ld_own Try.underlying9 rfl (by repeat (first | exact List.Mem.head _ | apply List.Mem.tail)) (by first | exact cellsOf_get rfl | rfl) | exact ld_data Try.underlying9 rfl (by first | assumption | exact InA.add (by assumption) | exact InA.add (InA.add (by assumption))) (by assumption)) ?_ | refine so_skip rfl rfl rfl ?_
        first | refine so_move rfl rfl rfl ?_ | refine so_skip rfl rfl rfl ?_
        first | refine so_bin rfl rfl rfl rfl (by first | exact bin_sgtr (gtr_t hlt) | exact bin_sgtr (gtr_f hlt) | exact bin_gtr_t (by omega) | exact bin_gtr_f (by omega)) ?_ | refine so_skip rfl rfl rfl ?_
        first | refine so_pick_t rfl rfl rfl rfl ?_ | refine so_pick_f rfl rfl rfl rfl ?_
        refine so_then ?_
        refine sx_false rfl ?_
        refine sx_skip ?_
        refine sk_then ?_
        refine sx_region (E := E) ?_
        refine so_move rfl rfl rfl ?_
        refine so_move rfl rfl rfl ?_
        refine so_move rfl rfl rfl ?_
        first | refine so_indexO rfl rfl rfl rfl Try.underlying67 inf9 rfl (by omega) rfl ?_ | refine so_index rfl rfl rfl rfl Try.underlying67 inf9 rfl (by omega) ?_
        refine so_load rfl rfl rfl (by first | exact ld_own Try.underlying9 rfl (by repeat (first | exact List.Mem.head _ | apply List.Mem.tail)) (by first | exact cellsOf_get rfl | rfl) | exact ld_data Try.underlying9 rfl (by first | assumption | exact InA.add (by assumption) | exact InA.add (InA.add (by assumption))) (by assumption)) ?_
        refine so_buildSlice (out := [encS u.data.toList]) (s := 1) rfl rfl (fun h => nomatch h) (by repeat (first | exact Opps.nil | apply Opps.cons rfl)) Try.underlying67 inf9 rfl rfl (by kernel_rfl) rfl rfl ?_
        intro N41
        refine so_appAny (m := 1) (bt := 16) (sz := 1) (cs' := (o ++ [u.data.toList]).map encS) (k := (o ++ [u.data.toList]).length) rfl rfl (fun h => nomatch h) rfl rfl rfl rfl rfl Try.underlying67 Try.underlying67 rfl inf9 rfl rfl (by decide) rfl (by decide) (first_own (List.Mem.head _) rfl) (.succ .zero) (by rw [List.length_map, Nat.mul_one]) rfl (roomB_of (by omega)) (by omega) (enc_snoc _ _) (fun h => nomatch h) (len_snoc _ _) ?_
        intro M3
        refine so_assign rfl rfl rfl ?_
        refine so_nil ?_
        refine sk_block ?_
        refine sk_then ?_
        refine sx_region (E := E) ?_
        refine so_move rfl rfl rfl ?_
        refine so_bin rfl rfl rfl rfl (by first | exact bin_incr (by omega) | exact bin_add (wrap64 (by omega) (by omega)) | exact bin_add rfl) ?_
        refine so_assign rfl rfl rfl ?_
        refine so_nil ?_
        exact sk_round (i + 1, M3, o ++ [u.data.toList], false, true) (show (strs l).length - (i + 1) < (strs l).length - i by omega) ⟨show i + 1 ≤ (strs l).length by omega, fun j hj => (if e : j = i then (by rw [e, hli]; exact fun h => heq (Option.some.inj h)) else hg j (by omega)), ins3 hli ho hb⟩ (by repeat (first | exact .nil | refine .cons rfl ?_)) rfl rfl (by repeat (first | exact List.nil_sublist _ | apply List.Sublist.cons_cons | apply List.Sublist.cons))
  · skip
    obtain rfl : i = (strs l).length := by omega
    have hnm : q.data.toList ∉ l := not_mem_of fun j hj => hg j (by omega)
    rw [hsl, List.take_length] at ho hb
    have hol := insL_len q.data.toList l
    rw [← ho] at hol
    refine sx_region (E := E) ?_
    refine so_move rfl rfl rfl ?_
    refine so_move rfl rfl rfl ?_
    refine so_lenL rfl rfl rfl rfl rfl rfl Try.underlying67 ?_
    refine so_bin rfl rfl rfl rfl (by first | exact bin_lss_t (by omega) | exact bin_lss_f (by omega)) ?_
    refine so_then ?_
    refine sx_false rfl ?_
    refine sx_exit ?_
    refine sk_then_exit ?_
    refine sk_loop_exit ?_
    refine sk_block_exit ?_
    refine sk_then ?_
    refine sx_seq ?_
    refine sx_seq ?_
    cases b
    · skip
      refine sx_region (E := E) ?_
      refine so_move rfl rfl rfl ?_
      refine so_not rfl rfl rfl rfl ?_
      refine so_then ?_
      refine sx_true rfl ?_
      refine sx_region (E := E) ?_
      refine so_move rfl rfl rfl ?_
      refine so_move rfl rfl rfl ?_
      refine so_buildSlice (out := [encS q.data.toList]) (s := 1) rfl rfl (fun h => nomatch h) (by repeat (first | exact Opps.nil | apply Opps.cons rfl)) Try.underlying67 inf9 rfl rfl (by kernel_rfl) rfl rfl ?_
      intro N47
      refine so_appAny (m := 1) (bt := 16) (sz := 1) (cs' := (o ++ [q.data.toList]).map encS) (k := (o ++ [q.data.toList]).length) rfl rfl (fun h => nomatch h) rfl rfl rfl rfl rfl Try.underlying67 Try.underlying67 rfl inf9 rfl rfl (by decide) rfl (by decide) (first_own (List.Mem.head _) rfl) (.succ .zero) (by rw [List.length_map, Nat.mul_one]) rfl (roomB_of (by omega)) (by omega) (enc_snoc _ _) (fun h => nomatch h) (len_snoc _ _) ?_
      intro M2
      refine so_assign rfl rfl rfl ?_
      refine so_then ?_
      refine sx_seq ?_
      refine sx_freeze .zero ?_
      intro Hf Af gf hAf hgf
      replace rx := rx.gr gf
      refine sx_region (E := E) ?_
      refine so_move rfl rfl rfl ?_
      refine so_assign rfl rfl rfl ?_
      refine so_then ?_
      refine sx_ret ?_
      refine sk_return1 (.tmp rfl .nil) ?_
      exact fun H hH => rowR_of hH (by rw [insF_end hnm hb.symm, ← ho]; exact row_texts' hgf hAf (by rw [ho, ← insF_end hnm hb.symm]; exact insF_short hq (rows_short rx)) (by rw [← len_snoc]; omega))
    · skip
      refine sx_region (E := E) ?_
      refine so_move rfl rfl rfl ?_
      refine so_not rfl rfl rfl rfl ?_
      refine so_then ?_
      refine sx_false rfl ?_
      refine sx_skip ?_
      refine sk_then ?_
      refine sx_seq ?_
      refine sx_freeze .zero ?_
      intro Hf Af gf hAf hgf
      replace rx := rx.gr gf
      refine sx_region (E := E) ?_
      refine so_move rfl rfl rfl ?_
      refine so_assign rfl rfl rfl ?_
      refine so_then ?_
      refine sx_ret ?_
      refine sk_return1 (.tmp rfl .nil) ?_
      exact fun H hH => rowR_of hH (by rw [insF_big hnm hb.symm, ← ho]; exact row_texts' hgf hAf (by rw [ho, ← insF_big hnm hb.symm]; exact insF_short hq (rows_short rx)) (by omega))

end Go.Proofs.Ytaedeadgbojmnaa
