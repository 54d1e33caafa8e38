/-
  Walks, laid by program.
-/
import Derived.Test.YtaedeadgbojmnaaB7
set_option linter.unusedVariables false
set_option linter.unusedSimpArgs false
set_option maxRecDepth 100000
namespace Go.Proofs.Ytaedeadgbojmnaa
open Go Go.AM

/-- the second text of an element -/
def strP : List CT → List UInt8
  | _ :: d :: _ => d.str
  | _ => []
/-- the error of the k-th bind -/
def bindErr (bl : List (List CT)) (np k : Nat) : Int :=
  match bl[k]? with
  | none => 0
  | some c => if nameB (strP c) = false then 13 else if contB (strs fieldsL) (strF c) = false then 9 else if contB (bl.take k) (strF c) = true then 10 else if (np : Int) ≤ pIx (strF c) then 2 else 0
/-- the first that is not nothing -/
def firstE (f : Nat → Int) (n : Nat) : Int :=
  match (List.range n).find? (fun k => decide (f k ≠ 0)) with
  | some k => f k
  | none => 0
theorem firstE_found {f : Nat → Int} {n k : Nat} (hk : k < n) (h : f k ≠ 0) (hb : ∀ j, j < k → f j = 0) : firstE f n = f k := by
  have : (List.range n).find? (fun k => decide (f k ≠ 0)) = some k := by
    rw [List.find?_range_eq_some]
    exact ⟨by simpa using h, by simpa using hk, fun j hj => by simpa using hb j hj⟩
  simp only [firstE, this]
theorem firstE_none {f : Nat → Int} {n : Nat} (hb : ∀ j, j < n → f j = 0) : firstE f n = 0 := by
  have : (List.range n).find? (fun k => decide (f k ≠ 0)) = none := by
    rw [List.find?_eq_none]
    intro j hj
    simpa using hb j (List.mem_range.1 hj)
  simp only [firstE, this]
def actErr (bl : List (List CT)) (np : Nat) : Int := if 16 < bl.length then 3 else firstE (bindErr bl np) bl.length
theorem actErr_big {bl : List (List CT)} {np : Nat} (h : 16 < bl.length) : actErr bl np = 3 := by rw [actErr, if_pos h]
theorem actErr_at {bl : List (List CT)} {np k : Nat} {e : Int} (h : bl.length ≤ 16) (hk : k < bl.length) (hb : ∀ j, j < k → bindErr bl np j = 0) (he : bindErr bl np k = e) (h0 : e ≠ 0) : actErr bl np = e := by
  rw [actErr, if_neg (by omega), firstE_found hk (by rw [he]; exact h0) hb, he]
theorem actErr_ok {bl : List (List CT)} {np : Nat} (h : bl.length ≤ 16) (hb : ∀ j, j < bl.length → bindErr bl np j = 0) : actErr bl np = 0 := by
  rw [actErr, if_neg (by omega), firstE_none hb]
section
variable {bl : List (List CT)} {np k : Nat} {c : List CT}
theorem bindErr_13 (hc : bl[k]? = some c) (h : nameB (strP c) = false) : bindErr bl np k = 13 := by simp only [bindErr, hc, h, if_true]
theorem bindErr_9 (hc : bl[k]? = some c) (h1 : nameB (strP c) = true) (h : contB (strs fieldsL) (strF c) = false) : bindErr bl np k = 9 := by simp only [bindErr, hc, h1, h, if_true, Bool.true_eq_false, if_false]
theorem bindErr_10 (hc : bl[k]? = some c) (h1 : nameB (strP c) = true) (h2 : contB (strs fieldsL) (strF c) = true) (h : contB (bl.take k) (strF c) = true) : bindErr bl np k = 10 := by simp only [bindErr, hc, h1, h2, h, if_true, Bool.true_eq_false, if_false]
theorem bindErr_2 (hc : bl[k]? = some c) (h1 : nameB (strP c) = true) (h2 : contB (strs fieldsL) (strF c) = true) (h3 : contB (bl.take k) (strF c) = false) (h : (np : Int) ≤ pIx (strF c)) : bindErr bl np k = 2 := by simp only [bindErr, hc, h1, h2, h3, h, if_true, Bool.true_eq_false, Bool.false_eq_true, if_false]
theorem bindErr_0 (hc : bl[k]? = some c) (h1 : nameB (strP c) = true) (h2 : contB (strs fieldsL) (strF c) = true) (h3 : contB (bl.take k) (strF c) = false) (h : ¬ (np : Int) ≤ pIx (strF c)) : bindErr bl np k = 0 := by simp only [bindErr, hc, h1, h2, h3, h, Bool.true_eq_false, Bool.false_eq_true, if_false]
end
theorem valid_cases {q : List UInt8} (h : contB (strs fieldsL) q = true) : (∃ fo, fieldOff q = some fo ∧ pIx q = -1) ∨ ∃ k, k < 4 ∧ q = paramN k ∧ pIx q = k := by
  rw [contB, List.any_eq_true] at h
  obtain ⟨c, hc, hq⟩ := h
  simp only [strs, List.mem_map] at hc
  obtain ⟨s, hs, rfl⟩ := hc
  obtain rfl : s = q := of_decide_eq_true hq
  have key : ∀ s ∈ fieldsL, ((fieldOff s).isSome = true ∧ pIx s = -1) ∨ ∃ k, k < 4 ∧ s = paramN k ∧ pIx s = k := by
    have : ∀ s ∈ fieldsL, ((fieldOff s).isSome = true ∧ pIx s = -1) ∨ (s = paramN 0 ∧ pIx s = 0) ∨ (s = paramN 1 ∧ pIx s = 1) ∨ (s = paramN 2 ∧ pIx s = 2) ∨ (s = paramN 3 ∧ pIx s = 3) := by decide
    intro s hs
    rcases this s hs with h | ⟨h, e⟩ | ⟨h, e⟩ | ⟨h, e⟩ | ⟨h, e⟩
    · exact .inl h
    · exact .inr ⟨0, by omega, h, e⟩
    · exact .inr ⟨1, by omega, h, e⟩
    · exact .inr ⟨2, by omega, h, e⟩
    · exact .inr ⟨3, by omega, h, e⟩
  rcases key _ hs with ⟨h, e⟩ | h
  · obtain ⟨fo, hfo⟩ := Option.isSome_iff_exists.1 h
    exact .inl ⟨fo, hfo, e⟩
  · exact .inr h
theorem field_nil {N sz np cap : Nat} {cs : List Value} {ex : Bool} {pa : Option Addr} {q : ByteArray} (h35 : cs[35]? = some (.slice pa np cap)) (hv : contB (strs fieldsL) q.data.toList = true) (hr : (np : Int) ≤ pIx q.data.toList) {S : AH} (hlt : N < S.nx) (hN : S.tr.get N = some (.cells cs sz ex)) :
    XCall Try.prog 22 [.pointer (some ⟨2 * N + 1, 0, none⟩), .string q] S fun v H' => v = .pointer none ∧ Kept S.nx S H' := by
  rcases valid_cases hv with ⟨fo, _, e⟩ | ⟨k, hk, hq, e⟩
  · rw [e] at hr; omega
  · rw [e] at hr
    have hnk : np ≤ k := by omega
    rw [bytes_eq hq]
    match k, hk with
    | 0, _ => exact field_param0_ge hlt hN h35 hnk
    | 1, _ => exact field_param1_ge hlt hN h35 hnk
    | 2, _ => exact field_param2_ge hlt hN h35 hnk
    | 3, _ => exact field_param3_ge hlt hN h35 hnk
theorem field_prm {N sz np cap k : Nat} {cs : List Value} {ex : Bool} {pa : Addr} {q : ByteArray} (h35 : cs[35]? = some (.slice (some pa) np cap)) (hk : k < 4) (hq : q.data.toList = paramN k) (hr : k < np) {S : AH} (hlt : N < S.nx) (hN : S.tr.get N = some (.cells cs sz ex)) :
    XCall Try.prog 22 [.pointer (some ⟨2 * N + 1, 0, none⟩), .string q] S fun v H' => v = .pointer (some (pa.add (k * 1))) ∧ Kept S.nx S H' := by
  rw [bytes_eq hq]
  match k, hk with
  | 0, _ => exact field_param0_lt hlt hN h35 hr
  | 1, _ => exact field_param1_lt hlt hN h35 hr
  | 2, _ => exact field_param2_lt hlt hN h35 hr
  | 3, _ => exact field_param3_lt hlt hN h35 hr
theorem field_ptr {N sz np cap : Nat} {cs : List Value} {ex : Bool} {pa : Option Addr} {q : ByteArray} (h35 : cs[35]? = some (.slice pa np cap)) (hn : pa = none → np = 0) (hv : contB (strs fieldsL) q.data.toList = true) (hr : ¬ (np : Int) ≤ pIx q.data.toList) :
    ∃ a : Addr, ∀ S : AH, N < S.nx → S.tr.get N = some (.cells cs sz ex) → XCall Try.prog 22 [.pointer (some ⟨2 * N + 1, 0, none⟩), .string q] S fun v H' => v = .pointer (some a) ∧ Kept S.nx S H' := by
  rcases valid_cases hv with ⟨fo, hfo, e⟩ | ⟨k, hk, hq, e⟩
  · exact ⟨_, fun S hlt hN => field_ok hlt hfo⟩
  · rw [e] at hr
    cases pa with
    | none => have := hn rfl; omega
    | some p => exact ⟨_, fun S hlt hN => field_prm h35 hk hq (by omega) hlt hN⟩
theorem closure_ok {S : AH} {N sz : Nat} {cs : List Value} {ex : Bool} {q : ByteArray} (hlt : N < S.nx) (hN : S.tr.get N = some (.cells cs sz ex)) (h0 : cs[0]? = some (.string q)) (u p : ByteArray) : XCall Try.prog 47 [.agg ⟨[.string u, .string p]⟩, .pointer (some ⟨2 * N + 1, 0, none⟩)] S fun v H' => v = .bool (decide (u.data.toList = q.data.toList)) ∧ Kept S.nx S H' := by
  refine x_enter (E := E) (n := 9) (rs := [.tmp 3]) (l := [(1, _), (0, _)]) (fn_own Try.func47 rfl rfl rfl) (A0 := fun j => j = N) (fun j h => by rw [h]; exact hlt) rfl ?_
  refine sx_seq ?_
  refine sx_region (E := E) ?_
  refine so_boxA rfl rfl (fun h => nomatch h) rfl ?_
  intro N2
  refine so_assign rfl rfl rfl ?_
  refine so_then ?_
  refine sx_seq ?_
  by_cases heq : u.data.toList = q.data.toList
  · skip
    refine sx_region (E := E) ?_
    refine so_fieldO (o' := 0) rfl rfl rfl Try.underlying79 rfl inf9 rfl rfl ?_
    refine so_load rfl rfl rfl (by first | exact ld_own Try.underlying9 rfl (by repeat (first | exact List.Mem.head _ | apply List.Mem.tail)) (by first | exact cellsOf_get rfl | rfl) | exact ld_data Try.underlying9 rfl (by first | assumption | exact InA.add (by assumption) | exact InA.add (InA.add (by assumption))) (by assumption)) ?_
    refine so_fieldO (o' := 0) rfl rfl rfl Try.underlying79 rfl inf9 rfl rfl ?_
    refine so_load rfl rfl rfl (by first | exact ld_data Try.underlying9 rfl (InA.own rfl) ((aload_own hN _ _).trans h0) | exact ld_own Try.underlying9 rfl (by repeat (first | exact List.Mem.head _ | apply List.Mem.tail)) (by first | exact cellsOf_get rfl | rfl) | exact ld_data Try.underlying9 rfl (by first | assumption | exact InA.add (by assumption) | exact InA.add (InA.add (by assumption))) (by assumption)) ?_
    refine so_bin rfl rfl rfl rfl (by first | exact bin_seql_t (by first | rfl | assumption | decide) | exact bin_seql_f (by first | rfl | assumption | decide)) ?_
    refine so_assign rfl rfl rfl ?_
    refine so_then ?_
    refine sx_ret ?_
    refine sk_return1 (.tmp rfl .nil) ?_
    exact fun H hH => ⟨by rw [decide_eq_true heq], hH.kept⟩
  · skip
    refine sx_region (E := E) ?_
    refine so_fieldO (o' := 0) rfl rfl rfl Try.underlying79 rfl inf9 rfl rfl ?_
    refine so_load rfl rfl rfl (by first | exact ld_own Try.underlying9 rfl (by repeat (first | exact List.Mem.head _ | apply List.Mem.tail)) (by first | exact cellsOf_get rfl | rfl) | exact ld_data Try.underlying9 rfl (by first | assumption | exact InA.add (by assumption) | exact InA.add (InA.add (by assumption))) (by assumption)) ?_
    refine so_fieldO (o' := 0) rfl rfl rfl Try.underlying79 rfl inf9 rfl rfl ?_
    refine so_load rfl rfl rfl (by first | exact ld_data Try.underlying9 rfl (InA.own rfl) ((aload_own hN _ _).trans h0) | exact ld_own Try.underlying9 rfl (by repeat (first | exact List.Mem.head _ | apply List.Mem.tail)) (by first | exact cellsOf_get rfl | rfl) | exact ld_data Try.underlying9 rfl (by first | assumption | exact InA.add (by assumption) | exact InA.add (InA.add (by assumption))) (by assumption)) ?_
    refine so_bin rfl rfl rfl rfl (by first | exact bin_seql_t (by first | rfl | assumption | decide) | exact bin_seql_f (by first | rfl | assumption | decide)) ?_
    refine so_assign rfl rfl rfl ?_
    refine so_then ?_
    refine sx_ret ?_
    refine sk_return1 (.tmp rfl .nil) ?_
    exact fun H hH => ⟨by rw [decide_eq_false heq], hH.kept⟩

theorem indexF_ok {S : AH} {A : Nat → Prop} (hA : ∀ j, A j → j < S.nx) {x : Value} {l : List (List CT)} {q : ByteArray} {N sz : Nat} {ds : List Value} {ex : Bool} (hx : CellA A S (.row 32 k79) x (.row l)) (hlt : N < S.nx) (hN : S.tr.get N = some (.cells ds sz ex)) (h0 : ds[0]? = some (.string q)) : XCall Try.prog 59 [x, .func (.func 47) ⟨[]⟩ ⟨[.pointer (some ⟨2 * N + 1, 0, none⟩)]⟩] S fun v H' => v = .int .i64 (idxI l q.data.toList) ∧ Kept S.nx S H' := by
  obtain ⟨l2, ax, cx, e2, rfl, rx⟩ := hx.rowD
  cases e2
  have hb := rx.len
  refine x_enter (E := E) (n := 19) (rs := [.tmp 4]) (l := [(1, _), (0, _)]) (fn_own Try.func59 rfl rfl rfl) hA rfl ?_
  refine sx_seq ?_
  refine sx_region (E := E) ?_
  refine so_assign rfl rfl rfl ?_
  refine so_then ?_
  refine sx_seq ?_
  refine sx_seq ?_
  refine sx_region (E := E) ?_
  refine so_move rfl rfl rfl ?_
  refine so_lenL rfl rfl rfl rfl rfl rfl Try.underlying49 ?_
  refine so_move rfl rfl rfl ?_
  refine so_then ?_
  refine sx_block ?_
  refine sx_loop (σ := Nat) (fun k => l.length - k) (fun k => [(0, .slice ax l.length cx), (1, .func (.func 47) ⟨[]⟩ ⟨[.pointer (some ⟨2 * N + 1, 0, none⟩)]⟩), (7, .int .i64 ((l.length : Nat) : Int)), (8, .int .i64 ((k : Nat) : Int))]) (fun _ => S) (fun _ => A) (fun _ => []) (fun k => k ≤ l.length ∧ (∀ j c, j < k → l[j]? = some c → strF c ≠ q.data.toList)) (0) (⟨Nat.zero_le _, fun j b h => absurd h (Nat.not_lt_zero _)⟩) (by repeat (first | exact .nil | refine .cons rfl ?_)) rfl rfl (by repeat (first | exact List.nil_sublist _ | apply List.Sublist.cons_cons | apply List.Sublist.cons)) ?_
  intro s hJ t1
  obtain ⟨hJ, hg⟩ := hJ
  refine sx_seq ?_
  rcases Nat.lt_or_ge s l.length with hk | hk
  · skip
    obtain ⟨px, xs, c, rfl, ix, hc, lx, kx⟩ := rx.at' s hk
    obtain ⟨u, p, rfl, rfl, hu, hp⟩ := str2 kx
    refine sx_region (E := E) ?_
    refine so_bin rfl rfl rfl rfl (by first | exact bin_lss_t (by omega) | exact bin_lss_f (by omega)) ?_
    refine so_then ?_
    refine sx_seq ?_
    refine sx_true rfl ?_
    refine sx_skip ?_
    refine sk_then ?_
    refine sx_seq ?_
    refine sx_block ?_
    refine sx_seq ?_
    refine sx_region (E := E) ?_
    refine so_move rfl rfl rfl ?_
    refine so_assign rfl rfl rfl ?_
    refine so_then ?_
    refine sx_seq ?_
    by_cases heq : strF [.v (.string u), .v (.string p)] = q.data.toList
    · skip
      have hde : decide (u.data.toList = q.data.toList) = true := decide_eq_true heq
      refine sx_region (E := E) ?_
      refine so_move rfl rfl rfl ?_
      refine so_move rfl rfl rfl ?_
      refine so_move rfl rfl rfl ?_
      first | refine so_indexO rfl rfl rfl rfl Try.underlying49 inf79 rfl (by omega) rfl ?_ | refine so_index rfl rfl rfl rfl Try.underlying49 inf79 rfl (by omega) ?_
      refine so_load rfl rfl rfl (by first | exact ld_ownA Try.underlying79 rfl inf79 rfl (by repeat (first | exact List.Mem.head _ | apply List.Mem.tail)) (by first | exact cellsOf_le rfl | decide | omega) (by first | exact cellsOf_all | exact take_all rfl | exact cellsOf_part rfl | rfl) | exact ld_dataA Try.underlying79 rfl inf79 rfl (by first | assumption | exact InA.add (by assumption) | exact InA.add (InA.add (by assumption))) (by assumption)) ?_
      refine so_callV rfl rfl (fun h => nomatch h) rfl rfl has47 (by repeat (first | exact Opvs.nil | apply Opvs.cons rfl)) rfl (fun H hH => (closure_ok (Nat.lt_of_lt_of_le hlt hH.kept.nx) ((hH.kept.get N hlt).trans hN) h0 u p).b hde) ?_
      refine so_then ?_
      refine sx_true rfl ?_
      refine sx_seq ?_
      refine sx_region (E := E) ?_
      refine so_move rfl rfl rfl ?_
      refine so_assign rfl rfl rfl ?_
      refine so_then ?_
      refine sx_ret ?_
      refine sk_block_ret ?_
      refine sk_then_ret ?_
      refine sk_loop_ret ?_
      refine sk_block_ret ?_
      refine sk_then_ret ?_
      refine sk_return1 (.tmp rfl .nil) ?_
      exact fun H hH => ⟨by rw [idxI_found hc heq hg], hH.kept⟩
    · skip
      have hde : decide (u.data.toList = q.data.toList) = false := decide_eq_false heq
      refine sx_region (E := E) ?_
      refine so_move rfl rfl rfl ?_
      refine so_move rfl rfl rfl ?_
      refine so_move rfl rfl rfl ?_
      first | refine so_indexO rfl rfl rfl rfl Try.underlying49 inf79 rfl (by omega) rfl ?_ | refine so_index rfl rfl rfl rfl Try.underlying49 inf79 rfl (by omega) ?_
      refine so_load rfl rfl rfl (by first | exact ld_ownA Try.underlying79 rfl inf79 rfl (by repeat (first | exact List.Mem.head _ | apply List.Mem.tail)) (by first | exact cellsOf_le rfl | decide | omega) (by first | exact cellsOf_all | exact take_all rfl | exact cellsOf_part rfl | rfl) | exact ld_dataA Try.underlying79 rfl inf79 rfl (by first | assumption | exact InA.add (by assumption) | exact InA.add (InA.add (by assumption))) (by assumption)) ?_
      refine so_callV rfl rfl (fun h => nomatch h) rfl rfl has47 (by repeat (first | exact Opvs.nil | apply Opvs.cons rfl)) rfl (fun H hH => (closure_ok (Nat.lt_of_lt_of_le hlt hH.kept.nx) ((hH.kept.get N hlt).trans hN) h0 u p).b hde) ?_
      refine so_then ?_
      refine sx_false rfl ?_
      refine sx_skip ?_
      refine sk_block ?_
      refine sk_then ?_
      refine sx_region (E := E) ?_
      refine so_bin rfl rfl rfl rfl (by first | exact bin_incr (by omega) | exact bin_add (wrap64 (by omega) (by omega)) | exact bin_add rfl) ?_
      refine so_move rfl rfl rfl ?_
      refine so_nil ?_
      refine sk_round (s + 1) (show l.length - (s + 1) < l.length - s by omega) ⟨by omega, fun j b2 hj hb2 => ?_⟩ (by repeat (first | exact .nil | refine .cons rfl ?_)) rfl rfl (by repeat (first | exact List.nil_sublist _ | apply List.Sublist.cons_cons | apply List.Sublist.cons))
      by_cases e : j = s
      · subst e; rw [hc] at hb2; cases hb2; exact heq
      · exact hg j b2 (by omega) hb2
  · skip
    refine sx_region (E := E) ?_
    refine so_bin rfl rfl rfl rfl (by first | exact bin_lss_t (by omega) | exact bin_lss_f (by omega)) ?_
    refine so_then ?_
    refine sx_seq ?_
    refine sx_false rfl ?_
    refine sx_exit ?_
    refine sk_then_exit ?_
    refine sk_loop_exit ?_
    refine sk_block_exit ?_
    refine sk_then ?_
    refine sx_seq ?_
    refine sx_region (E := E) ?_
    refine so_assign rfl rfl rfl ?_
    refine so_then ?_
    refine sx_ret ?_
    refine sk_return1 (.tmp rfl .nil) ?_
    exact fun H hH => ⟨by rw [idxI_none fun j c h1 h2 => hg j c (by omega) h2], hH.kept⟩

theorem containsF_ok {S : AH} {A : Nat → Prop} (hA : ∀ j, A j → j < S.nx) {x : Value} {l : List (List CT)} {q : ByteArray} {N sz : Nat} {ds : List Value} {ex : Bool} (hx : CellA A S (.row 32 k79) x (.row l)) (hlt : N < S.nx) (hN : S.tr.get N = some (.cells ds sz ex)) (h0 : ds[0]? = some (.string q)) : XCall Try.prog 46 [x, .func (.func 47) ⟨[]⟩ ⟨[.pointer (some ⟨2 * N + 1, 0, none⟩)]⟩] S fun v H' => v = .bool (contB l q.data.toList) ∧ Kept S.nx S H' := by
  refine x_enter (E := E) (n := 9) (rs := [.tmp 4]) (l := [(1, _), (0, _)]) (fn_own Try.func46 rfl rfl rfl) hA rfl ?_
  refine sx_seq ?_
  refine sx_region (E := E) ?_
  refine so_assign rfl rfl rfl ?_
  refine so_then ?_
  refine sx_seq ?_
  rcases idx_cont l q.data.toList with ⟨hi, hc⟩ | ⟨hi, hc⟩
  · skip
    refine sx_region (E := E) ?_
    refine so_move rfl rfl rfl ?_
    refine so_move rfl rfl rfl ?_
    refine so_call rfl rfl (fun h => nomatch h) rfl has59 (by repeat (first | exact Opvs.nil | apply Opvs.cons rfl)) (fun H hH => indexF_ok hH.lt (CellA.gr hH.gr _ _ _ hx) (Nat.lt_of_lt_of_le hlt hH.kept.nx) ((hH.kept.get N hlt).trans hN) h0) ?_
    refine so_bin rfl rfl rfl rfl (by first | exact bin_geq_t (by omega) | exact bin_geq_f (by omega)) ?_
    refine so_assign rfl rfl rfl ?_
    refine so_then ?_
    refine sx_ret ?_
    refine sk_return1 (.tmp rfl .nil) ?_
    exact fun H hH => ⟨by rw [hc], hH.kept⟩
  · skip
    refine sx_region (E := E) ?_
    refine so_move rfl rfl rfl ?_
    refine so_move rfl rfl rfl ?_
    refine so_call rfl rfl (fun h => nomatch h) rfl has59 (by repeat (first | exact Opvs.nil | apply Opvs.cons rfl)) (fun H hH => indexF_ok hH.lt (CellA.gr hH.gr _ _ _ hx) (Nat.lt_of_lt_of_le hlt hH.kept.nx) ((hH.kept.get N hlt).trans hN) h0) ?_
    refine so_bin rfl rfl rfl rfl (by first | exact bin_geq_t (by omega) | exact bin_geq_f (by omega)) ?_
    refine so_assign rfl rfl rfl ?_
    refine so_then ?_
    refine sx_ret ?_
    refine sk_return1 (.tmp rfl .nil) ?_
    exact fun H hH => ⟨by rw [hc], hH.kept⟩

end Go.Proofs.Ytaedeadgbojmnaa
