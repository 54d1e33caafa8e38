/-
  Walks, laid by program.
-/
import Derived.Test.YtaedeadgbojmnaaC6a
set_option linter.unusedVariables false
set_option linter.unusedSimpArgs false
set_option maxRecDepth 100000
namespace Go.Proofs.Ytaedeadgbojmnaa
open Go Go.AM
theorem off_kind {q : List UInt8} {fo : Nat} (h : fieldOff q = some fo) : Nat.blt fo 84 = true ∧ k48[fo]? = some (.int .i64) ∧ fo ≠ 35 := by
  unfold fieldOff at h
  by_cases e0 : q = [97]
  · rw [if_pos e0] at h; cases h; exact ⟨rfl, rfl, by decide⟩
  rw [if_neg e0] at h
  by_cases e1 : q = [97, 116]
  · rw [if_pos e1] at h; cases h; exact ⟨rfl, rfl, by decide⟩
  rw [if_neg e1] at h
  by_cases e2 : q = [98]
  · rw [if_pos e2] at h; cases h; exact ⟨rfl, rfl, by decide⟩
  rw [if_neg e2] at h
  by_cases e3 : q = [100, 120]
  · rw [if_pos e3] at h; cases h; exact ⟨rfl, rfl, by decide⟩
  rw [if_neg e3] at h
  by_cases e4 : q = [100, 121]
  · rw [if_pos e4] at h; cases h; exact ⟨rfl, rfl, by decide⟩
  rw [if_neg e4] at h
  by_cases e5 : q = [103]
  · rw [if_pos e5] at h; cases h; exact ⟨rfl, rfl, by decide⟩
  rw [if_neg e5] at h
  by_cases e6 : q = [104]
  · rw [if_pos e6] at h; cases h; exact ⟨rfl, rfl, by decide⟩
  rw [if_neg e6] at h
  by_cases e7 : q = [105, 100]
  · rw [if_pos e7] at h; cases h; exact ⟨rfl, rfl, by decide⟩
  rw [if_neg e7] at h
  by_cases e8 : q = [111, 112, 97, 99, 105, 116, 121]
  · rw [if_pos e8] at h; cases h; exact ⟨rfl, rfl, by decide⟩
  rw [if_neg e8] at h
  by_cases e9 : q = [112, 97, 114, 101, 110, 116]
  · rw [if_pos e9] at h; cases h; exact ⟨rfl, rfl, by decide⟩
  rw [if_neg e9] at h
  by_cases e10 : q = [114]
  · rw [if_pos e10] at h; cases h; exact ⟨rfl, rfl, by decide⟩
  rw [if_neg e10] at h
  by_cases e11 : q = [116, 111]
  · rw [if_pos e11] at h; cases h; exact ⟨rfl, rfl, by decide⟩
  rw [if_neg e11] at h
  by_cases e12 : q = [118, 97, 108, 117, 101]
  · rw [if_pos e12] at h; cases h; exact ⟨rfl, rfl, by decide⟩
  rw [if_neg e12] at h
  by_cases e13 : q = [119]
  · rw [if_pos e13] at h; cases h; exact ⟨rfl, rfl, by decide⟩
  rw [if_neg e13] at h
  by_cases e14 : q = [120]
  · rw [if_pos e14] at h; cases h; exact ⟨rfl, rfl, by decide⟩
  rw [if_neg e14] at h
  by_cases e15 : q = [121]
  · rw [if_pos e15] at h; cases h; exact ⟨rfl, rfl, by decide⟩
  rw [if_neg e15] at h
  cases h

/-- the map's entries -/
def mes : List (List CT) → Nat → List (Value × Value × Nat)
  | [], _ => []
  | a :: r, k => (.string ⟨⟨strF a⟩⟩, .int .i64 (argV a), k) :: mes r (k + 1)
theorem mes_snoc (a : List CT) : ∀ (l : List (List CT)) (k : Nat), mes (l ++ [a]) k = mes l k ++ [(.string ⟨⟨strF a⟩⟩, .int .i64 (argV a), k + l.length)]
  | [], k => rfl
  | b :: r, k => by
    simp only [List.cons_append, mes, mes_snoc a r (k + 1), List.length_cons]
    rw [show k + 1 + r.length = k + (r.length + 1) by omega]
theorem afind_no {s : ByteArray} : ∀ (l : List (List CT)) (k j : Nat), (∀ a ∈ l, strF a ≠ s.data.toList) → afind .string (.string s) (mes l k) j = some none
  | [], _, _, _ => rfl
  | a :: r, k, j, h => by
    have h1 : (s.data.toList == strF a) = false := beq_eq_false_iff_ne.2 fun e => h a (List.mem_cons_self ..) e.symm
    simp only [mes, afind, akind, cond_true, asame, h1, cond_false]
    exact afind_no r (k + 1) (j + 1) fun b hb => h b (List.mem_cons_of_mem _ hb)
theorem afind_yes {s : ByteArray} {a : List CT} : ∀ (l : List (List CT)) (k j : Nat), (l.find? fun a => decide (strF a = s.data.toList)) = some a → ∃ i, afind .string (.string s) (mes l k) j = some (some (i, .int .i64 (argV a)))
  | [], _, _, h => by simp at h
  | b :: r, k, j, h => by
    by_cases e : strF b = s.data.toList
    · rw [List.find?_cons_of_pos (by simp [e])] at h
      cases h
      refine ⟨j, ?_⟩
      have h1 : (s.data.toList == strF a) = true := beq_iff_eq.2 e.symm
      simp only [mes, afind, akind, cond_true, asame, h1]
    · rw [List.find?_cons_of_neg (by simp [e])] at h
      obtain ⟨i, hi⟩ := afind_yes r (k + 1) (j + 1) h
      refine ⟨i, ?_⟩
      have h1 : (s.data.toList == strF b) = false := beq_eq_false_iff_ne.2 fun e' => e e'.symm
      simp only [mes, afind, akind, cond_true, asame, h1, cond_false]
      exact hi
theorem look_no {S H0 : AH} {A0 A : Nat → Prop} {L : OL} {N k cl : Nat} {l : List (List CT)} {s : ByteArray} (hm : (N, AObj.map (mes l k) cl) ∈ L) (h : ∀ a ∈ l, strF a ≠ s.data.toList) : ∀ H, HS S H0 A0 A L H → alookup E 75 (.map (some (2 * N + 1))) (.string s) true H = some (.tuple ⟨[.int .i64 0, .bool false]⟩) := fun H hH => by
  have hg : H.tr.get N = some (.map (mes l k) cl) := (hH.own _ hm).1
  have hu : E.und 75 = some (.map 9 3) := Try.underlying75
  have h9 : E.und 9 = some .string := Try.underlying9
  simp only [alookup, hu, h9, inf3, akind, cond_true, odd_mod, cond_false, odd_div, hg, afind_no l k 0 h, if_true]
  rfl
theorem look_yes {S H0 : AH} {A0 A : Nat → Prop} {L : OL} {N k cl : Nat} {l : List (List CT)} {s : ByteArray} {a : List CT} (hm : (N, AObj.map (mes l k) cl) ∈ L) (h : (l.find? fun a => decide (strF a = s.data.toList)) = some a) : ∀ H, HS S H0 A0 A L H → alookup E 75 (.map (some (2 * N + 1))) (.string s) true H = some (.tuple ⟨[.int .i64 (argV a), .bool true]⟩) := fun H hH => by
  have hg : H.tr.get N = some (.map (mes l k) cl) := (hH.own _ hm).1
  have hu : E.und 75 = some (.map 9 3) := Try.underlying75
  have h9 : E.und 9 = some .string := Try.underlying9
  obtain ⟨i, hi⟩ := afind_yes l k 0 h
  simp only [alookup, hu, h9, inf3, akind, cond_true, odd_mod, cond_false, odd_div, hg, hi, if_true]
theorem lookA_find {al : List (List CT)} {p : List UInt8} {a : List CT} (h : (al.find? fun a => decide (strF a = p)) = some a) : lookA al p = some (argV a) := by simp only [lookA, h, Option.map_some]
theorem arg_wf {A : Nat → Prop} {H : AH} {ba : Nat} {al : List (List CT)} {aa : Option Addr} {ca : Nat} (ra : RowD A H ba k73 al aa ca) {p : List UInt8} {a : List CT} (h : (al.find? fun a => decide (strF a = p)) = some a) : (Lit.int .i64 (argV a)).wf = true := by
  obtain ⟨j, hj⟩ := List.getElem?_of_mem (List.mem_of_find?_eq_some h)
  obtain ⟨q, us, d, _, _, hc, _, ka⟩ := ra.at' j (lt_of_getElem? hj)
  obtain ⟨u, n, rfl, rfl, _, hn⟩ := arg2 ka
  rw [hj] at hc; cases hc
  exact hn
theorem setC_off {c : Nat → CT} {q : List UInt8} {v : Int} {fo : Nat} (h : fieldOff q = some fo) : setC c q v = upC c fo (numC v) := by simp only [setC, h]
theorem setC_prm {c : Nat → CT} {q : List UInt8} {v : Int} {k : Nat} {pl : List (List CT)} (hk : k < 4) (hq : q = paramN k) (he : pIx q = k) (hp : c 35 = .row pl) : setC c q v = upC c 35 (.row (pl.set k [numC v])) := by
  simp only [setC, hq, paramN_off k hk, hp, rowOf]
  rw [← hq, he]; rfl
theorem ptsX_up {A : Nat → Prop} {H : AH} {ks : List Kd} {ex : Nat → Bool} {x : Nat → Value} {c : Nat → CT} (h : PtsX A H ks ex x c) {o : Nat} {k : Kd} {v : Value} {d : CT} (hk : ks[o]? = some k) (hv : CellA A H k v d) : PtsX A H ks ex (upd1 x o v) (upC c o d) := fun i k' hk' he => by
  by_cases e : i = o
  · subst e; rw [hk] at hk'; cases hk'
    rw [upd1_same]; simp only [upC, if_true]; exact hv
  · rw [upd1_ne x v e]; simp only [upC, if_neg e]; exact h i k' hk' he
theorem ptsX_upE {A : Nat → Prop} {H : AH} {ks : List Kd} {ex : Nat → Bool} {x : Nat → Value} {c : Nat → CT} (h : PtsX A H ks ex x c) {o : Nat} {d : CT} (ho : ex o = true) : PtsX A H ks ex x (upC c o d) := fun i k' hk' he => by
  by_cases e : i = o
  · subst e; rw [ho] at he; cases he
  · simp only [upC, if_neg e]; exact h i k' hk' he
/-- a number in a row of numbers -/
theorem prm_set {A : Nat → Prop} {H : AH} {pc : List Value} {pl : List (List CT)} {k : Nat} {v : Int} (hl : pc.length = pl.length) (hk : k < pl.length) (hv : (Lit.int .i64 v).wf = true) (h : ∀ (i : Nat) c, pl[i]? = some c → CellsA A H [.int .i64] ((pc.drop (i * 1)).take 1) c) :
    ∀ (i : Nat) c, (pl.set k [numC v])[i]? = some c → CellsA A H [.int .i64] (((pc.take (0 + k * 1) ++ ([Value.int .i64 v] ++ pc.drop (0 + k * 1 + 1))).drop (i * 1)).take 1) c := by
  intro i c hc
  rw [Nat.zero_add, Nat.mul_one, Nat.mul_one]
  have hi : i < pl.length := by have := lt_of_getElem? hc; rwa [List.length_set] at this
  have hget : ∀ j, (pc.take k ++ ([Value.int .i64 v] ++ pc.drop (k + 1)))[j]? = if j = k then some (.int .i64 v) else pc[j]? := by
    intro j
    by_cases e1 : j < k
    · rw [List.getElem?_append_left (by simp; omega), List.getElem?_take, if_pos e1, if_neg (by omega)]
    · rw [List.getElem?_append_right (by simp; omega)]
      simp only [List.length_take, Nat.min_eq_left (show k ≤ pc.length by omega)]
      by_cases e2 : j = k
      · subst e2; simp
      · rw [if_neg e2, List.getElem?_append_right (by simp; omega), List.getElem?_drop]
        congr 1; simp; omega
  have hone : ((pc.take k ++ ([Value.int .i64 v] ++ pc.drop (k + 1))).drop i).take 1 = [if i = k then Value.int .i64 v else pc[i]'(by omega)] := by
    apply List.ext_getElem?
    intro j
    rw [List.getElem?_take, List.getElem?_drop, hget]
    cases j with
    | zero =>
      simp only [Nat.add_zero, show (0 : Nat) < 1 by omega, if_true, List.getElem?_cons_zero]
      by_cases e : i = k
      · simp [e]
      · simp [e, List.getElem?_eq_getElem (show i < pc.length by omega)]
    | succ j => simp
  rw [hone]
  by_cases e : i = k
  · subst e
    rw [List.getElem?_set_self hi] at hc; cases hc
    simp only [if_true, CellsA]
    exact ⟨num_cell hv, trivial⟩
  · rw [List.getElem?_set_ne (fun h => e h.symm)] at hc
    rw [if_neg e]
    have := h i c hc
    rw [Nat.mul_one, List.drop_eq_getElem_cons (by omega), List.take_succ_cons, List.take_zero] at this
    exact this
set_option maxHeartbeats 2000000 in
theorem fill_ok {S : AH} {A : Nat → Prop} (hA : ∀ j, A j → j < S.nx) {x : Nat → Value} {c : Nat → CT} (px : Pts A S k51 x c) {z : Value} {ba : Nat} {al : List (List CT)} (hz : CellA A S (.row ba k73) z (.row al)) : XCall Try.prog 7 [.agg ⟨cellsOf 85 x⟩, z] S (FillR c al A S) := by
  obtain ⟨bl, ab, cb, eb, hb84, rb⟩ := (px 84 _ rfl).rowD
  obtain ⟨pl, ap, cp, ep, hp35, rp⟩ := (px 35 _ rfl).rowD
  obtain ⟨al2, aa, ca, e2, rfl, ra⟩ := hz.rowD
  cases e2
  obtain ⟨hbo, hpo⟩ := parts_fn c eb ep
  have hbb := rb.len
  have haa := ra.len
  clear hz
  refine x_enter (E := E) (n := 73) (rs := [.cell 4 48, .tmp 5]) (l := [(1, _), (0, _)]) (fn_own Try.func7 rfl rfl rfl) hA rfl ?_
  refine sx_seq ?_
  refine sx_region (E := E) ?_
  refine so_boxA rfl rfl (fun h => nomatch h) rfl ?_
  intro N2
  refine so_alloc (cs := (.int .i64 0 :: .int .i64 0 :: .int .i64 0 :: .int .i64 0 :: .int .i64 0 :: .int .i64 0 :: .string ⟨#[]⟩ :: .string ⟨#[]⟩ :: .int .i64 0 :: .int .i64 0 :: .int .i64 0 :: .string ⟨#[]⟩ :: .bool false :: .bool false :: .bool false :: .int .i64 0 :: .int .i64 0 :: .int .i64 0 :: .int .i64 0 :: .slice none 0 0 :: .int .i64 0 :: .int .i64 0 :: .int .i64 0 :: .int .i64 0 :: .int .i64 0 :: .int .i64 0 :: .int .i64 0 :: .int .i64 0 :: .int .i64 0 :: .slice none 0 0 :: .int .i64 0 :: .int .i64 0 :: .int .i64 0 :: .int .i64 0 :: .int .i64 0 :: .slice none 0 0 :: .int .i64 0 :: .slice none 0 0 :: .slice none 0 0 :: .int .i64 0 :: .int .i64 0 :: .int .i64 0 :: .int .i64 0 :: .string ⟨#[]⟩ :: .int .i64 0 :: .int .i64 0 :: .int .i64 0 :: .int .i64 0 :: .int .i64 0 :: .int .i64 0 :: .slice none 0 0 :: .int .i64 0 :: .int .i64 0 :: .slice none 0 0 :: .int .i64 0 :: .int .i64 0 :: .slice none 0 0 :: .int .i64 0 :: .int .i64 0 :: .int .i64 0 :: .int .i64 0 :: .int .i64 0 :: .int .i64 0 :: .int .i64 0 :: .int .i64 0 :: .int .i64 0 :: .int .i64 0 :: .int .i64 0 :: .int .i64 0 :: .int .i64 0 :: .int .i64 0 :: .slice none 0 0 :: .bool false :: .slice none 0 0 :: .int .i64 0 :: .int .i64 0 :: .int .i64 0 :: .int .i64 0 :: .int .i64 0 :: .int .i64 0 :: .int .i64 0 :: .int .i64 0 :: .int .i64 0 :: .int .i64 0 :: [])) rfl rfl (fun h => nomatch h) inf48 rfl rfl ?_
  intro N4
  refine so_assign rfl rfl rfl ?_
  refine so_then ?_
  refine sx_seq ?_
  refine sx_seq ?_
  refine sx_region (E := E) ?_
  refine so_load rfl rfl rfl (by first | exact ld_ownA Try.underlying51 rfl inf51 rfl (by repeat (first | exact List.Mem.head _ | apply List.Mem.tail)) (by first | exact cellsOf_le rfl | decide | omega) (by first | exact cellsOf_all | exact take_all rfl | exact cellsOf_part rfl | rfl) | exact ld_dataA Try.underlying51 rfl inf51 rfl (by first | assumption | exact InA.add (by assumption) | exact InA.add (InA.add (by assumption))) (by assumption)) ?_
  refine so_buildSlice (out := cellsOf 85 x) rfl rfl (fun h => nomatch h) (by repeat (first | exact Opps.nil | apply Opps.cons rfl)) Try.underlying61 inf51 rfl rfl (by kernel_rfl) rfl rfl ?_
  intro N18
  refine so_freeze .zero ?_
  intro H1 A1 g1 hA1 hg1
  replace px := px.gr g1
  replace rb := rb.gr g1
  replace ra := ra.gr g1
  have hrow := one_row hg1 hA1 px
  refine so_call rfl rfl (fun h => nomatch h) rfl has17 (by repeat (first | exact Opvs.nil | apply Opvs.cons rfl)) (fun H hH => (check_ok hH.lt (CellA.gr hH.gr _ _ _ hrow)).i (chk_one _)) ?_
  refine so_assign rfl rfl rfl ?_
  refine so_then ?_
  refine sx_seq ?_
  by_cases he : errOf (ctsOf 85 c) = 0
  · skip
    refine sx_region (E := E) ?_
    refine so_move rfl rfl rfl ?_
    refine so_bin rfl rfl rfl rfl (by first | exact bin_neq_f (by first | rfl | assumption | omega) | exact bin_neq_t (by first | rfl | assumption | omega)) ?_
    refine so_then ?_
    refine sx_false rfl ?_
    refine sx_skip ?_
    refine sk_then ?_
    refine sx_seq ?_
    refine sx_region (E := E) ?_
    refine so_makeMap rfl rfl (fun h => nomatch h) ?_
    intro N24
    refine so_assign rfl rfl rfl ?_
    refine so_then ?_
    refine sx_seq ?_
    refine sx_seq ?_
    refine sx_region (E := E) ?_
    refine so_move rfl rfl rfl ?_
    refine so_lenL rfl rfl rfl rfl rfl rfl Try.underlying52 ?_
    refine so_move rfl rfl rfl ?_
    refine so_then ?_
    refine sx_block ?_
    refine sx_loop (σ := Nat) (fun i => al.length - i) (fun i => [(2, .pointer (some ⟨2 * N2 + 1, 0, none⟩)), (4, .pointer (some ⟨2 * N4 + 1, 0, none⟩)), (7, .map (some (2 * N24 + 1))), (25, .slice aa al.length ca), (26, .int .i64 ((al.length : Nat) : Int)), (27, .int .i64 ((i : Nat) : Int))]) (fun _ => H1) (fun _ => A1) (fun i => [(N24, .map (mes (al.take i) 0) i), (N4, .cells (.int .i64 0 :: .int .i64 0 :: .int .i64 0 :: .int .i64 0 :: .int .i64 0 :: .int .i64 0 :: .string ⟨#[]⟩ :: .string ⟨#[]⟩ :: .int .i64 0 :: .int .i64 0 :: .int .i64 0 :: .string ⟨#[]⟩ :: .bool false :: .bool false :: .bool false :: .int .i64 0 :: .int .i64 0 :: .int .i64 0 :: .int .i64 0 :: .slice none 0 0 :: .int .i64 0 :: .int .i64 0 :: .int .i64 0 :: .int .i64 0 :: .int .i64 0 :: .int .i64 0 :: .int .i64 0 :: .int .i64 0 :: .int .i64 0 :: .slice none 0 0 :: .int .i64 0 :: .int .i64 0 :: .int .i64 0 :: .int .i64 0 :: .int .i64 0 :: .slice none 0 0 :: .int .i64 0 :: .slice none 0 0 :: .slice none 0 0 :: .int .i64 0 :: .int .i64 0 :: .int .i64 0 :: .int .i64 0 :: .string ⟨#[]⟩ :: .int .i64 0 :: .int .i64 0 :: .int .i64 0 :: .int .i64 0 :: .int .i64 0 :: .int .i64 0 :: .slice none 0 0 :: .int .i64 0 :: .int .i64 0 :: .slice none 0 0 :: .int .i64 0 :: .int .i64 0 :: .slice none 0 0 :: .int .i64 0 :: .int .i64 0 :: .int .i64 0 :: .int .i64 0 :: .int .i64 0 :: .int .i64 0 :: .int .i64 0 :: .int .i64 0 :: .int .i64 0 :: .int .i64 0 :: .int .i64 0 :: .int .i64 0 :: .int .i64 0 :: .int .i64 0 :: .slice none 0 0 :: .bool false :: .slice none 0 0 :: .int .i64 0 :: .int .i64 0 :: .int .i64 0 :: .int .i64 0 :: .int .i64 0 :: .int .i64 0 :: .int .i64 0 :: .int .i64 0 :: .int .i64 0 :: .int .i64 0 :: []) (boxsz E 48) true), (N2, .cells (cellsOf 85 x) (boxsz E 51) true)]) (fun i => i ≤ al.length ∧ (∀ (i2 k2 : Nat) (a b : List CT), k2 < i2 → i2 < i → al[i2]? = some a → al[k2]? = some b → strF a ≠ strF b)) (0) (⟨Nat.zero_le _, fun i2 k2 a b _ h => absurd h (Nat.not_lt_zero _)⟩) (by repeat (first | exact .nil | refine .cons rfl ?_)) rfl rfl (by repeat (first | exact List.nil_sublist _ | apply List.Sublist.cons_cons | apply List.Sublist.cons)) ?_
    intro s hJ t1
    obtain ⟨hJ, hg⟩ := hJ
    refine sx_seq ?_
    rcases Nat.lt_or_ge s al.length with hk | hk
    · skip
      obtain ⟨qa, us, d, rfl, ia, hci, la, ka⟩ := ra.at' s hk
      obtain ⟨u, n, rfl, rfl, hu, hn⟩ := arg2 ka
      refine sx_region (E := E) ?_
      refine so_bin rfl rfl rfl rfl (by first | exact bin_lss_t (by omega) | exact bin_lss_f (by omega)) ?_
      refine so_then ?_
      refine sx_seq ?_
      refine sx_true rfl ?_
      refine sx_skip ?_
      refine sk_then ?_
      refine sx_seq ?_
      refine sx_block ?_
      refine sx_seq ?_
      refine sx_region (E := E) ?_
      first | refine so_indexO rfl rfl rfl rfl Try.underlying52 inf73 rfl (by omega) rfl ?_ | refine so_index rfl rfl rfl rfl Try.underlying52 inf73 rfl (by omega) ?_
      refine so_load rfl rfl rfl (by first | exact ld_ownA Try.underlying73 rfl inf73 rfl (by repeat (first | exact List.Mem.head _ | apply List.Mem.tail)) (by first | exact cellsOf_le rfl | decide | omega) (by first | exact cellsOf_all | exact take_all rfl | exact cellsOf_part rfl | rfl) | exact ld_dataA Try.underlying73 rfl inf73 rfl (by first | assumption | exact InA.add (by assumption) | exact InA.add (InA.add (by assumption))) (by assumption)) ?_
      refine so_alloc (cs := (.string ⟨#[]⟩ :: .int .i64 0 :: [])) rfl rfl (fun h => nomatch h) inf73 rfl rfl ?_
      intro N9
      refine so_storeA rfl (fun h => nomatch h) rfl rfl inf73 (by first | exact cellsOf_length _ _ | rfl) rfl (by repeat (first | exact .zero | apply Upd.succ)) (by first | exact cellsOf_set rfl | exact cellsOf_setr rfl | exact cellsOf_store rfl | exact store_all rfl | rfl) (by first | exact cellsOf_in rfl rfl | exact cellsOf_in rfl (cellsOf_length _ _) | exact cellsOf_le rfl | exact Nat.le_of_ble_eq_true rfl | omega) (fun h => nomatch h) ?_
      refine so_then ?_
      refine sx_seq ?_
      refine sx_seq ?_
      rcases hfa : ((al.take s).find? fun a => decide (strF a = u.data.toList)) with _ | a
      · skip
        have hno : ∀ a ∈ al.take s, strF a ≠ u.data.toList := fun a ha h => by
          rw [List.find?_eq_none] at hfa
          have := hfa a ha
          simp [h] at this
        refine sx_region (E := E) ?_
        refine so_move rfl rfl rfl ?_
        refine so_fieldO (o' := 0) rfl rfl rfl Try.underlying73 rfl inf9 rfl rfl ?_
        refine so_load rfl rfl rfl (by first | exact ld_own Try.underlying9 rfl (by repeat (first | exact List.Mem.head _ | apply List.Mem.tail)) (by first | exact (cellsOf_get rfl).trans (congrArg some hb84) | exact cellsOf_get rfl | rfl) | exact ld_data Try.underlying9 rfl (by first | assumption | exact InA.add (by assumption) | exact InA.add (InA.add (by assumption))) (by assumption)) ?_
        first | refine so_lookup rfl rfl rfl rfl (look_yes (by repeat (first | exact List.Mem.head _ | apply List.Mem.tail)) hfa) ?_ | refine so_lookup rfl rfl rfl rfl (look_no (by repeat (first | exact List.Mem.head _ | apply List.Mem.tail)) hno) ?_
        refine so_move rfl rfl rfl ?_
        refine so_extract rfl rfl rfl rfl ?_
        refine so_extract rfl rfl rfl rfl ?_
        refine so_assign rfl rfl rfl ?_
        refine so_assign rfl rfl rfl ?_
        refine so_then ?_
        refine sx_seq ?_
        refine sx_region (E := E) ?_
        refine so_move rfl rfl rfl ?_
        refine so_then ?_
        refine sx_false rfl ?_
        refine sx_skip ?_
        refine sk_then ?_
        refine sx_region (E := E) ?_
        refine so_move rfl rfl rfl ?_
        refine so_fieldO (o' := 0) rfl rfl rfl Try.underlying73 rfl inf9 rfl rfl ?_
        refine so_load rfl rfl rfl (by first | exact ld_own Try.underlying9 rfl (by repeat (first | exact List.Mem.head _ | apply List.Mem.tail)) (by first | exact (cellsOf_get rfl).trans (congrArg some hb84) | exact cellsOf_get rfl | rfl) | exact ld_data Try.underlying9 rfl (by first | assumption | exact InA.add (by assumption) | exact InA.add (InA.add (by assumption))) (by assumption)) ?_
        refine so_fieldO (o' := 1) rfl rfl rfl Try.underlying73 rfl inf3 rfl rfl ?_
        refine so_load rfl rfl rfl (by first | exact ld_own Try.underlying3 rfl (by repeat (first | exact List.Mem.head _ | apply List.Mem.tail)) (by first | exact (cellsOf_get rfl).trans (congrArg some hb84) | exact cellsOf_get rfl | rfl) | exact ld_data Try.underlying3 rfl (by first | assumption | exact InA.add (by assumption) | exact InA.add (InA.add (by assumption))) (by assumption)) ?_
        refine so_mapSet (es' := mes (al.take (s + 1)) 0) (cl' := s + 1) rfl (fun h => nomatch h) rfl rfl rfl Try.underlying75 Try.underlying9 rfl (by repeat (first | exact .zero | apply Upd.succ)) (.inr ⟨afind_no _ 0 0 hno, (by rw [List.take_succ_eq_append_getElem hk, mes_snoc, List.length_take, Nat.min_eq_left (Nat.le_of_lt hk), Nat.zero_add, (List.getElem?_eq_some_iff.1 hci).2]; rfl), rfl⟩) (fun h => nomatch h) ?_
        refine so_nil ?_
        refine sk_block ?_
        refine sk_then ?_
        refine sx_region (E := E) ?_
        refine so_bin rfl rfl rfl rfl (by first | exact bin_incr (by omega) | exact bin_add (wrap64 (by omega) (by omega)) | exact bin_add rfl) ?_
        refine so_move rfl rfl rfl ?_
        refine so_nil ?_
        refine sk_round (s + 1) (show al.length - (s + 1) < al.length - s by omega) ⟨show s + 1 ≤ al.length by omega, fun i2 k2 a b h1 h2 h3 h4 => ?_⟩ (by repeat (first | exact .nil | refine .cons rfl ?_)) rfl rfl (by repeat (first | exact List.nil_sublist _ | apply List.Sublist.cons_cons | apply List.Sublist.cons))
        by_cases e : i2 = s
        · subst e; rw [hci] at h3; cases h3; exact fun h => hno b (List.mem_of_getElem? (i := k2) (by rw [List.getElem?_take, if_pos h1]; exact h4)) h.symm
        · exact hg i2 k2 a b h1 (by omega) h3 h4
      · skip
        refine sx_region (E := E) ?_
        refine so_move rfl rfl rfl ?_
        refine so_fieldO (o' := 0) rfl rfl rfl Try.underlying73 rfl inf9 rfl rfl ?_
        refine so_load rfl rfl rfl (by first | exact ld_own Try.underlying9 rfl (by repeat (first | exact List.Mem.head _ | apply List.Mem.tail)) (by first | exact (cellsOf_get rfl).trans (congrArg some hb84) | exact cellsOf_get rfl | rfl) | exact ld_data Try.underlying9 rfl (by first | assumption | exact InA.add (by assumption) | exact InA.add (InA.add (by assumption))) (by assumption)) ?_
        first | refine so_lookup rfl rfl rfl rfl (look_yes (by repeat (first | exact List.Mem.head _ | apply List.Mem.tail)) hfa) ?_ | refine so_lookup rfl rfl rfl rfl (look_no (by repeat (first | exact List.Mem.head _ | apply List.Mem.tail)) hno) ?_
        refine so_move rfl rfl rfl ?_
        refine so_extract rfl rfl rfl rfl ?_
        refine so_extract rfl rfl rfl rfl ?_
        refine so_assign rfl rfl rfl ?_
        refine so_assign rfl rfl rfl ?_
        refine so_then ?_
        refine sx_seq ?_
        refine sx_region (E := E) ?_
        refine so_move rfl rfl rfl ?_
        refine so_then ?_
        refine sx_true rfl ?_
        refine sx_seq ?_
        refine sx_region (E := E) ?_
        refine so_build (v := .agg ⟨k48.map zeroK⟩) rfl rfl .nil (by kernel_rfl) ?_
        refine so_storeA rfl (fun h => nomatch h) rfl rfl inf48 (by kernel_rfl) (by kernel_rfl) (by repeat (first | exact .zero | apply Upd.succ)) (store_all (by kernel_rfl)) (Nat.le_of_ble_eq_true (by kernel_rfl)) (fun h => nomatch h) ?_
        refine so_assign rfl rfl rfl ?_
        refine so_then ?_
        refine sx_ret ?_
        refine sk_then_ret ?_
        refine sk_block_ret ?_
        refine sk_then_ret ?_
        refine sk_loop_ret ?_
        refine sk_block_ret ?_
        refine sk_then_ret ?_
        refine sk_return2 (.cell rfl (by first | exact ld_ownA Try.underlying48 rfl inf48 rfl (by repeat (first | exact List.Mem.head _ | apply List.Mem.tail)) (by first | exact cellsOf_le rfl | decide | omega) (by first | exact cellsOf_all | exact take_all rfl | exact cellsOf_part rfl | rfl) | exact ld_dataA Try.underlying48 rfl inf48 rfl (by first | assumption | exact InA.add (by assumption) | exact InA.add (InA.add (by assumption))) (by assumption)) (.tmp rfl .nil)) ?_
        exact fun H hH => fillR_of hH (.dup he (by
          obtain ⟨j, hj⟩ := List.getElem?_of_mem (List.mem_of_find?_eq_some hfa)
          have hjs := lt_of_getElem? hj
          rw [List.length_take] at hjs
          rw [List.getElem?_take, if_pos (by omega)] at hj
          have h1 := List.find?_some hfa
          exact ⟨s, j, _, a, by omega, hci, hj, (of_decide_eq_true h1).symm⟩)) zero_edit
    · skip
      obtain rfl : s = al.length := by omega
      have hnd : ¬ dupA al := by
        rintro ⟨i, k, a, b, h1, h2, h3, h4⟩
        exact hg i k a b h1 (lt_of_getElem? h2) h2 h3 h4
      rw [List.take_length]
      refine sx_region (E := E) ?_
      refine so_bin rfl rfl rfl rfl (by first | exact bin_lss_t (by omega) | exact bin_lss_f (by omega)) ?_
      refine so_then ?_
      refine sx_seq ?_
      refine sx_false rfl ?_
      refine sx_exit ?_
      refine sk_then_exit ?_
      refine sk_loop_exit ?_
      refine sk_block_exit ?_
      refine sk_then ?_
      refine sx_seq ?_
      refine sx_region (E := E) ?_
      refine so_fieldO (o' := 0) rfl rfl rfl Try.underlying51 rfl inf48 rfl rfl ?_
      refine so_load rfl rfl rfl (by first | exact ld_ownA Try.underlying48 rfl inf48 rfl (by repeat (first | exact List.Mem.head _ | apply List.Mem.tail)) (by first | exact cellsOf_le rfl | decide | omega) (by first | exact cellsOf_all | exact take_all rfl | exact cellsOf_part rfl | rfl) | exact ld_dataA Try.underlying48 rfl inf48 rfl (by first | assumption | exact InA.add (by assumption) | exact InA.add (InA.add (by assumption))) (by assumption)) ?_
      refine so_callL (CloneT k48 84 35 c pl) rfl rfl (fun h => nomatch h) rfl has21 (by repeat (first | exact Opvs.nil | apply Opvs.cons rfl)) (fun H hH => cloneEdit_ok hH.lt ((pts_edit px).gr hH.gr) ep) ?_
      intro u13 H3 A3 L3 g3 hT
      obtain ⟨y, rfl, py, hpk⟩ := hT
      replace rb := rb.gr g3
      replace ra := ra.gr g3
      rcases hpk with ⟨hv3, hpl0, rfl⟩ | ⟨M, cells, ex, hv3, rfl, hcl, hone, hce⟩
      · skip
        refine so_alloc (cs := (.int .i64 0 :: .int .i64 0 :: .int .i64 0 :: .int .i64 0 :: .int .i64 0 :: .int .i64 0 :: .string ⟨#[]⟩ :: .string ⟨#[]⟩ :: .int .i64 0 :: .int .i64 0 :: .int .i64 0 :: .string ⟨#[]⟩ :: .bool false :: .bool false :: .bool false :: .int .i64 0 :: .int .i64 0 :: .int .i64 0 :: .int .i64 0 :: .slice none 0 0 :: .int .i64 0 :: .int .i64 0 :: .int .i64 0 :: .int .i64 0 :: .int .i64 0 :: .int .i64 0 :: .int .i64 0 :: .int .i64 0 :: .int .i64 0 :: .slice none 0 0 :: .int .i64 0 :: .int .i64 0 :: .int .i64 0 :: .int .i64 0 :: .int .i64 0 :: .slice none 0 0 :: .int .i64 0 :: .slice none 0 0 :: .slice none 0 0 :: .int .i64 0 :: .int .i64 0 :: .int .i64 0 :: .int .i64 0 :: .string ⟨#[]⟩ :: .int .i64 0 :: .int .i64 0 :: .int .i64 0 :: .int .i64 0 :: .int .i64 0 :: .int .i64 0 :: .slice none 0 0 :: .int .i64 0 :: .int .i64 0 :: .slice none 0 0 :: .int .i64 0 :: .int .i64 0 :: .slice none 0 0 :: .int .i64 0 :: .int .i64 0 :: .int .i64 0 :: .int .i64 0 :: .int .i64 0 :: .int .i64 0 :: .int .i64 0 :: .int .i64 0 :: .int .i64 0 :: .int .i64 0 :: .int .i64 0 :: .int .i64 0 :: .int .i64 0 :: .int .i64 0 :: .slice none 0 0 :: .bool false :: .slice none 0 0 :: .int .i64 0 :: .int .i64 0 :: .int .i64 0 :: .int .i64 0 :: .int .i64 0 :: .int .i64 0 :: .int .i64 0 :: .int .i64 0 :: .int .i64 0 :: .int .i64 0 :: [])) rfl rfl (fun h => nomatch h) inf48 rfl rfl ?_
        intro N12
        refine so_storeA rfl (fun h => nomatch h) rfl rfl inf48 (by first | exact cellsOf_length _ _ | rfl) (py.one rfl (fun i hi => by have h9 : i = 35 := Nat.eq_of_beq_eq_true hi; subst h9; rw [hv3]; rfl)) (by repeat (first | exact .zero | apply Upd.succ)) (by first | exact cellsOf_set rfl | exact cellsOf_setr rfl | exact cellsOf_store rfl | exact store_all rfl | rfl) (by first | exact cellsOf_in rfl rfl | exact cellsOf_in rfl (cellsOf_length _ _) | exact cellsOf_le rfl | exact Nat.le_of_ble_eq_true rfl | omega) (fun h => nomatch h) ?_
        refine so_then ?_
        refine sx_seq ?_
        refine sx_seq ?_
        refine sx_region (E := E) ?_
        refine so_fieldO (o' := 84) rfl rfl rfl Try.underlying51 rfl inf49 rfl rfl ?_
        refine so_load rfl rfl rfl (by first | exact ld_own Try.underlying49 rfl (by repeat (first | exact List.Mem.head _ | apply List.Mem.tail)) (by first | exact (cellsOf_get rfl).trans (congrArg some hb84) | exact cellsOf_get rfl | rfl) | exact ld_data Try.underlying49 rfl (by first | assumption | exact InA.add (by assumption) | exact InA.add (InA.add (by assumption))) (by assumption)) ?_
        refine so_lenL rfl rfl rfl rfl rfl rfl Try.underlying49 ?_
        refine so_move rfl rfl rfl ?_
        refine so_then ?_
        refine sx_block ?_
        refine sx_loop (σ := Nat × (Nat → Value) × (Nat → CT) × List Value) (fun q => bl.length - q.1) (fun q => [(2, .pointer (some ⟨2 * N2 + 1, 0, none⟩)), (4, .pointer (some ⟨2 * N4 + 1, 0, none⟩)), (7, .map (some (2 * N24 + 1))), (12, .pointer (some ⟨2 * N12 + 1, 0, none⟩)), (50, .slice ab bl.length cb), (51, .int .i64 ((bl.length : Nat) : Int)), (52, .int .i64 ((q.1 : Nat) : Int))]) (fun _ => H3) (fun _ => A3) (fun q => [(N12, .cells (cellsOf 84 q.2.1) (boxsz E 48) true), (N24, .map (mes al 0) al.length), (N4, .cells (.int .i64 0 :: .int .i64 0 :: .int .i64 0 :: .int .i64 0 :: .int .i64 0 :: .int .i64 0 :: .string ⟨#[]⟩ :: .string ⟨#[]⟩ :: .int .i64 0 :: .int .i64 0 :: .int .i64 0 :: .string ⟨#[]⟩ :: .bool false :: .bool false :: .bool false :: .int .i64 0 :: .int .i64 0 :: .int .i64 0 :: .int .i64 0 :: .slice none 0 0 :: .int .i64 0 :: .int .i64 0 :: .int .i64 0 :: .int .i64 0 :: .int .i64 0 :: .int .i64 0 :: .int .i64 0 :: .int .i64 0 :: .int .i64 0 :: .slice none 0 0 :: .int .i64 0 :: .int .i64 0 :: .int .i64 0 :: .int .i64 0 :: .int .i64 0 :: .slice none 0 0 :: .int .i64 0 :: .slice none 0 0 :: .slice none 0 0 :: .int .i64 0 :: .int .i64 0 :: .int .i64 0 :: .int .i64 0 :: .string ⟨#[]⟩ :: .int .i64 0 :: .int .i64 0 :: .int .i64 0 :: .int .i64 0 :: .int .i64 0 :: .int .i64 0 :: .slice none 0 0 :: .int .i64 0 :: .int .i64 0 :: .slice none 0 0 :: .int .i64 0 :: .int .i64 0 :: .slice none 0 0 :: .int .i64 0 :: .int .i64 0 :: .int .i64 0 :: .int .i64 0 :: .int .i64 0 :: .int .i64 0 :: .int .i64 0 :: .int .i64 0 :: .int .i64 0 :: .int .i64 0 :: .int .i64 0 :: .int .i64 0 :: .int .i64 0 :: .int .i64 0 :: .slice none 0 0 :: .bool false :: .slice none 0 0 :: .int .i64 0 :: .int .i64 0 :: .int .i64 0 :: .int .i64 0 :: .int .i64 0 :: .int .i64 0 :: .int .i64 0 :: .int .i64 0 :: .int .i64 0 :: .int .i64 0 :: []) (boxsz E 48) true), (N2, .cells (cellsOf 85 x) (boxsz E 51) true)]) (fun q => q.1 ≤ bl.length ∧ fillB al (bl.drop q.1) q.2.2.1 = fillB al bl c ∧ PtsX A3 H3 k48 (only 35) q.2.1 q.2.2.1 ∧ q.2.1 35 = .slice none 0 0 ∧ (∃ pb, q.2.2.1 35 = .row pb ∧ pb.length = pl.length)) ((0, y, c, [])) (⟨Nat.zero_le _, rfl, py, hv3, pl, ep, rfl⟩) (by repeat (first | exact .nil | refine .cons rfl ?_)) rfl rfl (by repeat (first | exact List.nil_sublist _ | apply List.Sublist.cons_cons | apply List.Sublist.cons)) ?_
        intro s hJ t2
        obtain ⟨b, y, cc, pc⟩ := s
        obtain ⟨hJ, hfb, py, hv3, pb, ecc, hpb⟩ := hJ
        dsimp only at hJ hfb py hv3 ecc hpb ⊢
        refine sx_seq ?_
        rcases Nat.lt_or_ge b bl.length with hk | hk
        · skip
          obtain ⟨qb, us, d, rfl, ib, hcb, lb, kb⟩ := rb.at' b hk
          obtain ⟨u, p, rfl, rfl, hu, hp⟩ := str2 kb
          have hao := act_ok he b _ (by rw [hbo]; exact hcb)
          rw [hpo] at hao
          refine sx_region (E := E) ?_
          refine so_bin rfl rfl rfl rfl (by first | exact bin_lss_t (by omega) | exact bin_lss_f (by omega)) ?_
          refine so_then ?_
          refine sx_seq ?_
          refine sx_true rfl ?_
          refine sx_skip ?_
          refine sk_then ?_
          refine sx_seq ?_
          refine sx_block ?_
          refine sx_seq ?_
          refine sx_region (E := E) ?_
          first | refine so_indexO rfl rfl rfl rfl Try.underlying49 inf79 rfl (by omega) rfl ?_ | refine so_index rfl rfl rfl rfl Try.underlying49 inf79 rfl (by omega) ?_
          refine so_load rfl rfl rfl (by first | exact ld_ownA Try.underlying79 rfl inf79 rfl (by repeat (first | exact List.Mem.head _ | apply List.Mem.tail)) (by first | exact cellsOf_le rfl | decide | omega) (by first | exact cellsOf_all | exact take_all rfl | exact cellsOf_part rfl | rfl) | exact ld_dataA Try.underlying79 rfl inf79 rfl (by first | assumption | exact InA.add (by assumption) | exact InA.add (InA.add (by assumption))) (by assumption)) ?_
          refine so_alloc (cs := (.string ⟨#[]⟩ :: .string ⟨#[]⟩ :: [])) rfl rfl (fun h => nomatch h) inf79 rfl rfl ?_
          intro N14
          refine so_storeA rfl (fun h => nomatch h) rfl rfl inf79 (by first | exact cellsOf_length _ _ | rfl) rfl (by repeat (first | exact .zero | apply Upd.succ)) (by first | exact cellsOf_set rfl | exact cellsOf_setr rfl | exact cellsOf_store rfl | exact store_all rfl | rfl) (by first | exact cellsOf_in rfl rfl | exact cellsOf_in rfl (cellsOf_length _ _) | exact cellsOf_le rfl | exact Nat.le_of_ble_eq_true rfl | omega) (fun h => nomatch h) ?_
          refine so_then ?_
          refine sx_seq ?_
          rcases hfa : (al.find? fun a => decide (strF a = p.data.toList)) with _ | a
          · skip
            have hno : ∀ a ∈ al, strF a ≠ p.data.toList := fun a ha h => by
              rw [List.find?_eq_none] at hfa
              have := hfa a ha
              simp [h] at this
            have hla : lookA al (strP [CT.v (.string u), CT.v (.string p)]) = none := lookA_none (fun j a h1 h2 => hno a (List.mem_of_getElem? h2))
            refine sx_region (E := E) ?_
            refine so_move rfl rfl rfl ?_
            refine so_fieldO (o' := 1) rfl rfl rfl Try.underlying79 rfl inf9 rfl rfl ?_
            refine so_load rfl rfl rfl (by first | exact ld_own Try.underlying9 rfl (by repeat (first | exact List.Mem.head _ | apply List.Mem.tail)) (by first | exact (cellsOf_get rfl).trans (congrArg some hb84) | exact cellsOf_get rfl | rfl) | exact ld_data Try.underlying9 rfl (by first | assumption | exact InA.add (by assumption) | exact InA.add (InA.add (by assumption))) (by assumption)) ?_
            first | refine so_lookup rfl rfl rfl rfl (look_yes (by repeat (first | exact List.Mem.head _ | apply List.Mem.tail)) hfa) ?_ | refine so_lookup rfl rfl rfl rfl (look_no (by repeat (first | exact List.Mem.head _ | apply List.Mem.tail)) hno) ?_
            refine so_move rfl rfl rfl ?_
            refine so_extract rfl rfl rfl rfl ?_
            refine so_extract rfl rfl rfl rfl ?_
            refine so_assign rfl rfl rfl ?_
            refine so_assign rfl rfl rfl ?_
            refine so_then ?_
            refine sx_seq ?_
            refine sx_seq ?_
            refine sx_region (E := E) ?_
            refine so_move rfl rfl rfl ?_
            refine so_not rfl rfl rfl rfl ?_
            refine so_then ?_
            refine sx_true rfl ?_
            refine sx_seq ?_
            refine sx_region (E := E) ?_
            refine so_build (v := .agg ⟨k48.map zeroK⟩) rfl rfl .nil (by kernel_rfl) ?_
            refine so_storeA rfl (fun h => nomatch h) rfl rfl inf48 (by kernel_rfl) (by kernel_rfl) (by repeat (first | exact .zero | apply Upd.succ)) (store_all (by kernel_rfl)) (Nat.le_of_ble_eq_true (by kernel_rfl)) (fun h => nomatch h) ?_
            refine so_assign rfl rfl rfl ?_
            refine so_then ?_
            refine sx_ret ?_
            refine sk_then_ret ?_
            refine sk_block_ret ?_
            refine sk_then_ret ?_
            refine sk_loop_ret ?_
            refine sk_block_ret ?_
            refine sk_then_ret ?_
            refine sk_return2 (.cell rfl (by first | exact ld_ownA Try.underlying48 rfl inf48 rfl (by repeat (first | exact List.Mem.head _ | apply List.Mem.tail)) (by first | exact cellsOf_le rfl | decide | omega) (by first | exact cellsOf_all | exact take_all rfl | exact cellsOf_part rfl | rfl) | exact ld_dataA Try.underlying48 rfl inf48 rfl (by first | assumption | exact InA.add (by assumption) | exact InA.add (InA.add (by assumption))) (by assumption)) (.tmp rfl .nil)) ?_
            exact fun H hH => fillR_of hH (.none he hnd (by rw [show rowOf (c 84) = bl by rw [eb]; rfl, ← hfb, fillB_step hcb, hla])) zero_edit
          · skip
            have hla : lookA al (strP [CT.v (.string u), CT.v (.string p)]) = some (argV a) := lookA_find hfa
            have hwf := arg_wf ra hfa
            refine sx_region (E := E) ?_
            refine so_move rfl rfl rfl ?_
            refine so_fieldO (o' := 1) rfl rfl rfl Try.underlying79 rfl inf9 rfl rfl ?_
            refine so_load rfl rfl rfl (by first | exact ld_own Try.underlying9 rfl (by repeat (first | exact List.Mem.head _ | apply List.Mem.tail)) (by first | exact (cellsOf_get rfl).trans (congrArg some hb84) | exact cellsOf_get rfl | rfl) | exact ld_data Try.underlying9 rfl (by first | assumption | exact InA.add (by assumption) | exact InA.add (InA.add (by assumption))) (by assumption)) ?_
            first | refine so_lookup rfl rfl rfl rfl (look_yes (by repeat (first | exact List.Mem.head _ | apply List.Mem.tail)) hfa) ?_ | refine so_lookup rfl rfl rfl rfl (look_no (by repeat (first | exact List.Mem.head _ | apply List.Mem.tail)) hno) ?_
            refine so_move rfl rfl rfl ?_
            refine so_extract rfl rfl rfl rfl ?_
            refine so_extract rfl rfl rfl rfl ?_
            refine so_assign rfl rfl rfl ?_
            refine so_assign rfl rfl rfl ?_
            refine so_then ?_
            refine sx_seq ?_
            refine sx_seq ?_
            refine sx_region (E := E) ?_
            refine so_move rfl rfl rfl ?_
            refine so_not rfl rfl rfl rfl ?_
            refine so_then ?_
            refine sx_false rfl ?_
            refine sx_skip ?_
            refine sk_then ?_
            obtain ⟨fo, hfo, he2⟩ : ∃ fo, fieldOff u.data.toList = some fo ∧ pIx u.data.toList = -1 := by
              rcases valid_cases (q := u.data.toList) hao.1 with h | ⟨kk, hkk, hq, he2⟩
              · exact h
              · exfalso
                have h9 : ¬ ((pl.length : Nat) : Int) ≤ pIx u.data.toList := hao.2
                rw [he2, hpl0] at h9
                exact h9 (by simp)
            · skip
              have hok := off_kind hfo
              refine sx_region (E := E) ?_
              refine so_fieldO (o' := 0) rfl rfl rfl Try.underlying79 rfl inf9 rfl rfl ?_
              refine so_load rfl rfl rfl (by first | exact ld_own Try.underlying9 rfl (by repeat (first | exact List.Mem.head _ | apply List.Mem.tail)) (by first | exact (cellsOf_get rfl).trans (congrArg some hb84) | exact cellsOf_get rfl | rfl) | exact ld_data Try.underlying9 rfl (by first | assumption | exact InA.add (by assumption) | exact InA.add (InA.add (by assumption))) (by assumption)) ?_
              refine so_call rfl rfl (fun h => nomatch h) rfl has22 (by repeat (first | exact Opvs.nil | apply Opvs.cons rfl)) ((by first | exact fun H hH => field_ok (hH.own _ (List.Mem.tail _ (List.Mem.head _))).2.2.1 hfo | exact fun H hH => (field_prm ((cellsOf_get rfl).trans (congrArg some hv3)) hkk hq hkp (hH.own _ (List.Mem.tail _ (List.Mem.head _))).2.2.1 (hH.own _ (List.Mem.tail _ (List.Mem.head _))).1).mono fun v H2 _ h => ⟨h.1.trans (by rw [own_add]), h.2⟩)) ?_
              refine so_move rfl rfl rfl ?_
              first | refine so_nilCheck rfl rfl rfl ?_ | refine so_nilCheckF rfl rfl rfl ?_
              first | refine so_storeS rfl (fun h => nomatch h) rfl rfl inf3 rfl rfl (.succ .zero) (cellsOf_set hok.1) (by rw [cellsOf_length]; exact Nat.le_of_ble_eq_true hok.1) (fun h => nomatch h) ?_ | refine so_storeS (off := 0 + kk * 1) rfl (fun h => nomatch h) rfl rfl inf3 rfl rfl (.succ (.succ .zero)) rfl (by omega) (fun h => nomatch h) ?_
              refine so_nil ?_
              refine sk_block ?_
              refine sk_then ?_
              refine sx_region (E := E) ?_
              refine so_bin rfl rfl rfl rfl (by first | exact bin_incr (by omega) | exact bin_add (wrap64 (by omega) (by omega)) | exact bin_add rfl) ?_
              refine so_move rfl rfl rfl ?_
              refine so_nil ?_
              exact sk_round (b + 1, upd1 y fo (.int .i64 (argV a)), upC cc fo (numC (argV a)), pc) (show bl.length - (b + 1) < bl.length - b by omega) ⟨show b + 1 ≤ bl.length by omega, (by show fillB al (bl.drop (b + 1)) (upC cc fo (numC (argV a))) = fillB al bl c; rw [← hfb, fillB_step hcb, hla]; show fillB al (bl.drop (b + 1)) (upC cc fo (numC (argV a))) = fillB al (bl.drop (b + 1)) (setC cc u.data.toList (argV a)); rw [setC_off hfo]), ptsX_up py hok.2.1 (num_cell hwf), (by show upd1 y fo _ 35 = _; rw [upd1_ne y _ (fun (h : 35 = fo) => hok.2.2 h.symm)]; exact hv3), pb, (by show upC cc fo _ 35 = _; unfold upC; rw [if_neg (fun (h : 35 = fo) => hok.2.2 h.symm)]; exact ecc), hpb⟩ (by repeat (first | exact .nil | refine .cons rfl ?_)) rfl rfl (by repeat (first | exact List.nil_sublist _ | apply List.Sublist.cons_cons | apply List.Sublist.cons))
        · skip
          refine sx_region (E := E) ?_
          refine so_bin rfl rfl rfl rfl (by first | exact bin_lss_t (by omega) | exact bin_lss_f (by omega)) ?_
          refine so_then ?_
          refine sx_seq ?_
          refine sx_false rfl ?_
          refine sx_exit ?_
          refine sk_then_exit ?_
          refine sk_loop_exit ?_
          refine sk_block_exit ?_
          refine sk_then ?_
          refine sx_seq ?_
          have pyf : Pts A3 H3 k48 y cc := fun i k hk => by
            by_cases e : i = 35
            · subst e; cases hk; rw [hv3, ecc]; have h0 : pb = [] := List.eq_nil_of_length_eq_zero (by rw [hpb, hpl0]; rfl)
              subst h0; simp only [CellA]; exact ⟨by simp, by simp, .inl ⟨trivial, trivial⟩⟩
            · exact py i k hk (by cases hq : only 35 i with | false => rfl | true => exact absurd (Nat.eq_of_beq_eq_true hq) e)
          clear py
          rename Pts A3 H3 k48 y cc => py
          refine sx_region (E := E) ?_
          refine so_load rfl rfl rfl (by first | exact ld_ownA Try.underlying48 rfl inf48 rfl (by repeat (first | exact List.Mem.head _ | apply List.Mem.tail)) (by first | exact cellsOf_le rfl | decide | omega) (by first | exact cellsOf_all | exact take_all rfl | exact cellsOf_part rfl | rfl) | exact ld_dataA Try.underlying48 rfl inf48 rfl (by first | assumption | exact InA.add (by assumption) | exact InA.add (InA.add (by assumption))) (by assumption)) ?_
          refine so_storeA rfl (fun h => nomatch h) rfl rfl inf48 (by first | exact cellsOf_length _ _ | rfl) (CellsA.one (py.cells (n := 84) rfl)) (by repeat (first | exact .zero | apply Upd.succ)) (by first | exact cellsOf_set rfl | exact cellsOf_setr rfl | exact cellsOf_store rfl | exact store_all rfl | rfl) (by first | exact cellsOf_in rfl rfl | exact cellsOf_in rfl (cellsOf_length _ _) | exact cellsOf_le rfl | exact Nat.le_of_ble_eq_true rfl | omega) (fun h => nomatch h) ?_
          refine so_assign rfl rfl rfl ?_
          refine so_then ?_
          refine sx_ret ?_
          refine sk_return2 (.cell rfl (by first | exact ld_ownA Try.underlying48 rfl inf48 rfl (by repeat (first | exact List.Mem.head _ | apply List.Mem.tail)) (by first | exact cellsOf_le rfl | decide | omega) (by first | exact cellsOf_all | exact take_all rfl | exact cellsOf_part rfl | rfl) | exact ld_dataA Try.underlying48 rfl inf48 rfl (by first | assumption | exact InA.add (by assumption) | exact InA.add (InA.add (by assumption))) (by assumption)) (.tmp rfl .nil)) ?_
          exact fun H hH => fillR_of hH (.ok he hnd (by
            rw [show rowOf (c 84) = bl by rw [eb]; rfl, ← hfb]
            obtain rfl : b = bl.length := by omega
            rw [List.drop_length]; rfl)) (py.cells rfl)
      · skip
        rw [Nat.mul_one] at hcl
        refine so_alloc (cs := (.int .i64 0 :: .int .i64 0 :: .int .i64 0 :: .int .i64 0 :: .int .i64 0 :: .int .i64 0 :: .string ⟨#[]⟩ :: .string ⟨#[]⟩ :: .int .i64 0 :: .int .i64 0 :: .int .i64 0 :: .string ⟨#[]⟩ :: .bool false :: .bool false :: .bool false :: .int .i64 0 :: .int .i64 0 :: .int .i64 0 :: .int .i64 0 :: .slice none 0 0 :: .int .i64 0 :: .int .i64 0 :: .int .i64 0 :: .int .i64 0 :: .int .i64 0 :: .int .i64 0 :: .int .i64 0 :: .int .i64 0 :: .int .i64 0 :: .slice none 0 0 :: .int .i64 0 :: .int .i64 0 :: .int .i64 0 :: .int .i64 0 :: .int .i64 0 :: .slice none 0 0 :: .int .i64 0 :: .slice none 0 0 :: .slice none 0 0 :: .int .i64 0 :: .int .i64 0 :: .int .i64 0 :: .int .i64 0 :: .string ⟨#[]⟩ :: .int .i64 0 :: .int .i64 0 :: .int .i64 0 :: .int .i64 0 :: .int .i64 0 :: .int .i64 0 :: .slice none 0 0 :: .int .i64 0 :: .int .i64 0 :: .slice none 0 0 :: .int .i64 0 :: .int .i64 0 :: .slice none 0 0 :: .int .i64 0 :: .int .i64 0 :: .int .i64 0 :: .int .i64 0 :: .int .i64 0 :: .int .i64 0 :: .int .i64 0 :: .int .i64 0 :: .int .i64 0 :: .int .i64 0 :: .int .i64 0 :: .int .i64 0 :: .int .i64 0 :: .int .i64 0 :: .slice none 0 0 :: .bool false :: .slice none 0 0 :: .int .i64 0 :: .int .i64 0 :: .int .i64 0 :: .int .i64 0 :: .int .i64 0 :: .int .i64 0 :: .int .i64 0 :: .int .i64 0 :: .int .i64 0 :: .int .i64 0 :: [])) rfl rfl (fun h => nomatch h) inf48 rfl rfl ?_
        intro N12
        refine so_storeA rfl (fun h => nomatch h) rfl rfl inf48 (by first | exact cellsOf_length _ _ | rfl) (py.one rfl (fun i hi => by have h9 : i = 35 := Nat.eq_of_beq_eq_true hi; subst h9; rw [hv3]; rfl)) (by repeat (first | exact .zero | apply Upd.succ)) (by first | exact cellsOf_set rfl | exact cellsOf_setr rfl | exact cellsOf_store rfl | exact store_all rfl | rfl) (by first | exact cellsOf_in rfl rfl | exact cellsOf_in rfl (cellsOf_length _ _) | exact cellsOf_le rfl | exact Nat.le_of_ble_eq_true rfl | omega) (fun h => nomatch h) ?_
        refine so_then ?_
        refine sx_seq ?_
        refine sx_seq ?_
        refine sx_region (E := E) ?_
        refine so_fieldO (o' := 84) rfl rfl rfl Try.underlying51 rfl inf49 rfl rfl ?_
        refine so_load rfl rfl rfl (by first | exact ld_own Try.underlying49 rfl (by repeat (first | exact List.Mem.head _ | apply List.Mem.tail)) (by first | exact (cellsOf_get rfl).trans (congrArg some hb84) | exact cellsOf_get rfl | rfl) | exact ld_data Try.underlying49 rfl (by first | assumption | exact InA.add (by assumption) | exact InA.add (InA.add (by assumption))) (by assumption)) ?_
        refine so_lenL rfl rfl rfl rfl rfl rfl Try.underlying49 ?_
        refine so_move rfl rfl rfl ?_
        refine so_then ?_
        refine sx_block ?_
        refine sx_loop (σ := Nat × (Nat → Value) × (Nat → CT) × List Value) (fun q => bl.length - q.1) (fun q => [(2, .pointer (some ⟨2 * N2 + 1, 0, none⟩)), (4, .pointer (some ⟨2 * N4 + 1, 0, none⟩)), (7, .map (some (2 * N24 + 1))), (12, .pointer (some ⟨2 * N12 + 1, 0, none⟩)), (50, .slice ab bl.length cb), (51, .int .i64 ((bl.length : Nat) : Int)), (52, .int .i64 ((q.1 : Nat) : Int))]) (fun _ => H3) (fun _ => A3) (fun q => [(N12, .cells (cellsOf 84 q.2.1) (boxsz E 48) true), (M, .cells q.2.2.2 1 ex), (N24, .map (mes al 0) al.length), (N4, .cells (.int .i64 0 :: .int .i64 0 :: .int .i64 0 :: .int .i64 0 :: .int .i64 0 :: .int .i64 0 :: .string ⟨#[]⟩ :: .string ⟨#[]⟩ :: .int .i64 0 :: .int .i64 0 :: .int .i64 0 :: .string ⟨#[]⟩ :: .bool false :: .bool false :: .bool false :: .int .i64 0 :: .int .i64 0 :: .int .i64 0 :: .int .i64 0 :: .slice none 0 0 :: .int .i64 0 :: .int .i64 0 :: .int .i64 0 :: .int .i64 0 :: .int .i64 0 :: .int .i64 0 :: .int .i64 0 :: .int .i64 0 :: .int .i64 0 :: .slice none 0 0 :: .int .i64 0 :: .int .i64 0 :: .int .i64 0 :: .int .i64 0 :: .int .i64 0 :: .slice none 0 0 :: .int .i64 0 :: .slice none 0 0 :: .slice none 0 0 :: .int .i64 0 :: .int .i64 0 :: .int .i64 0 :: .int .i64 0 :: .string ⟨#[]⟩ :: .int .i64 0 :: .int .i64 0 :: .int .i64 0 :: .int .i64 0 :: .int .i64 0 :: .int .i64 0 :: .slice none 0 0 :: .int .i64 0 :: .int .i64 0 :: .slice none 0 0 :: .int .i64 0 :: .int .i64 0 :: .slice none 0 0 :: .int .i64 0 :: .int .i64 0 :: .int .i64 0 :: .int .i64 0 :: .int .i64 0 :: .int .i64 0 :: .int .i64 0 :: .int .i64 0 :: .int .i64 0 :: .int .i64 0 :: .int .i64 0 :: .int .i64 0 :: .int .i64 0 :: .int .i64 0 :: .slice none 0 0 :: .bool false :: .slice none 0 0 :: .int .i64 0 :: .int .i64 0 :: .int .i64 0 :: .int .i64 0 :: .int .i64 0 :: .int .i64 0 :: .int .i64 0 :: .int .i64 0 :: .int .i64 0 :: .int .i64 0 :: []) (boxsz E 48) true), (N2, .cells (cellsOf 85 x) (boxsz E 51) true)]) (fun q => q.1 ≤ bl.length ∧ fillB al (bl.drop q.1) q.2.2.1 = fillB al bl c ∧ PtsX A3 H3 k48 (only 35) q.2.1 q.2.2.1 ∧ q.2.1 35 = .slice (some ⟨2 * M + 1, 0, none⟩) pl.length pl.length ∧ (∃ pb, q.2.2.1 35 = .row pb ∧ pb.length = pl.length ∧ q.2.2.2.length = pl.length ∧ (∀ (i : Nat) c, pb[i]? = some c → CellsA A3 H3 [.int .i64] ((q.2.2.2.drop (i * 1)).take 1) c))) ((0, y, c, cells)) (⟨Nat.zero_le _, rfl, py, hv3, pl, ep, rfl, hcl, hce⟩) (by repeat (first | exact .nil | refine .cons rfl ?_)) rfl rfl (by repeat (first | exact List.nil_sublist _ | apply List.Sublist.cons_cons | apply List.Sublist.cons)) ?_
        intro s hJ t2
        obtain ⟨b, y, cc, pc⟩ := s
        obtain ⟨hJ, hfb, py, hv3, pb, ecc, hpb, hpc, hce⟩ := hJ
        dsimp only at hJ hfb py hv3 ecc hpb hpc hce ⊢
        refine sx_seq ?_
        rcases Nat.lt_or_ge b bl.length with hk | hk
        · skip
          obtain ⟨qb, us, d, rfl, ib, hcb, lb, kb⟩ := rb.at' b hk
          obtain ⟨u, p, rfl, rfl, hu, hp⟩ := str2 kb
          have hao := act_ok he b _ (by rw [hbo]; exact hcb)
          rw [hpo] at hao
          refine sx_region (E := E) ?_
          refine so_bin rfl rfl rfl rfl (by first | exact bin_lss_t (by omega) | exact bin_lss_f (by omega)) ?_
          refine so_then ?_
          refine sx_seq ?_
          refine sx_true rfl ?_
          refine sx_skip ?_
          refine sk_then ?_
          refine sx_seq ?_
          refine sx_block ?_
          refine sx_seq ?_
          refine sx_region (E := E) ?_
          first | refine so_indexO rfl rfl rfl rfl Try.underlying49 inf79 rfl (by omega) rfl ?_ | refine so_index rfl rfl rfl rfl Try.underlying49 inf79 rfl (by omega) ?_
          refine so_load rfl rfl rfl (by first | exact ld_ownA Try.underlying79 rfl inf79 rfl (by repeat (first | exact List.Mem.head _ | apply List.Mem.tail)) (by first | exact cellsOf_le rfl | decide | omega) (by first | exact cellsOf_all | exact take_all rfl | exact cellsOf_part rfl | rfl) | exact ld_dataA Try.underlying79 rfl inf79 rfl (by first | assumption | exact InA.add (by assumption) | exact InA.add (InA.add (by assumption))) (by assumption)) ?_
          refine so_alloc (cs := (.string ⟨#[]⟩ :: .string ⟨#[]⟩ :: [])) rfl rfl (fun h => nomatch h) inf79 rfl rfl ?_
          intro N14
          refine so_storeA rfl (fun h => nomatch h) rfl rfl inf79 (by first | exact cellsOf_length _ _ | rfl) rfl (by repeat (first | exact .zero | apply Upd.succ)) (by first | exact cellsOf_set rfl | exact cellsOf_setr rfl | exact cellsOf_store rfl | exact store_all rfl | rfl) (by first | exact cellsOf_in rfl rfl | exact cellsOf_in rfl (cellsOf_length _ _) | exact cellsOf_le rfl | exact Nat.le_of_ble_eq_true rfl | omega) (fun h => nomatch h) ?_
          refine so_then ?_
          refine sx_seq ?_
          rcases hfa : (al.find? fun a => decide (strF a = p.data.toList)) with _ | a
          · skip
            have hno : ∀ a ∈ al, strF a ≠ p.data.toList := fun a ha h => by
              rw [List.find?_eq_none] at hfa
              have := hfa a ha
              simp [h] at this
            have hla : lookA al (strP [CT.v (.string u), CT.v (.string p)]) = none := lookA_none (fun j a h1 h2 => hno a (List.mem_of_getElem? h2))
            refine sx_region (E := E) ?_
            refine so_move rfl rfl rfl ?_
            refine so_fieldO (o' := 1) rfl rfl rfl Try.underlying79 rfl inf9 rfl rfl ?_
            refine so_load rfl rfl rfl (by first | exact ld_own Try.underlying9 rfl (by repeat (first | exact List.Mem.head _ | apply List.Mem.tail)) (by first | exact (cellsOf_get rfl).trans (congrArg some hb84) | exact cellsOf_get rfl | rfl) | exact ld_data Try.underlying9 rfl (by first | assumption | exact InA.add (by assumption) | exact InA.add (InA.add (by assumption))) (by assumption)) ?_
            first | refine so_lookup rfl rfl rfl rfl (look_yes (by repeat (first | exact List.Mem.head _ | apply List.Mem.tail)) hfa) ?_ | refine so_lookup rfl rfl rfl rfl (look_no (by repeat (first | exact List.Mem.head _ | apply List.Mem.tail)) hno) ?_
            refine so_move rfl rfl rfl ?_
            refine so_extract rfl rfl rfl rfl ?_
            refine so_extract rfl rfl rfl rfl ?_
            refine so_assign rfl rfl rfl ?_
            refine so_assign rfl rfl rfl ?_
            refine so_then ?_
            refine sx_seq ?_
            refine sx_seq ?_
            refine sx_region (E := E) ?_
            refine so_move rfl rfl rfl ?_
            refine so_not rfl rfl rfl rfl ?_
            refine so_then ?_
            refine sx_true rfl ?_
            refine sx_seq ?_
            refine sx_region (E := E) ?_
            refine so_build (v := .agg ⟨k48.map zeroK⟩) rfl rfl .nil (by kernel_rfl) ?_
            refine so_storeA rfl (fun h => nomatch h) rfl rfl inf48 (by kernel_rfl) (by kernel_rfl) (by repeat (first | exact .zero | apply Upd.succ)) (store_all (by kernel_rfl)) (Nat.le_of_ble_eq_true (by kernel_rfl)) (fun h => nomatch h) ?_
            refine so_assign rfl rfl rfl ?_
            refine so_then ?_
            refine sx_ret ?_
            refine sk_then_ret ?_
            refine sk_block_ret ?_
            refine sk_then_ret ?_
            refine sk_loop_ret ?_
            refine sk_block_ret ?_
            refine sk_then_ret ?_
            refine sk_return2 (.cell rfl (by first | exact ld_ownA Try.underlying48 rfl inf48 rfl (by repeat (first | exact List.Mem.head _ | apply List.Mem.tail)) (by first | exact cellsOf_le rfl | decide | omega) (by first | exact cellsOf_all | exact take_all rfl | exact cellsOf_part rfl | rfl) | exact ld_dataA Try.underlying48 rfl inf48 rfl (by first | assumption | exact InA.add (by assumption) | exact InA.add (InA.add (by assumption))) (by assumption)) (.tmp rfl .nil)) ?_
            exact fun H hH => fillR_of hH (.none he hnd (by rw [show rowOf (c 84) = bl by rw [eb]; rfl, ← hfb, fillB_step hcb, hla])) zero_edit
          · skip
            have hla : lookA al (strP [CT.v (.string u), CT.v (.string p)]) = some (argV a) := lookA_find hfa
            have hwf := arg_wf ra hfa
            refine sx_region (E := E) ?_
            refine so_move rfl rfl rfl ?_
            refine so_fieldO (o' := 1) rfl rfl rfl Try.underlying79 rfl inf9 rfl rfl ?_
            refine so_load rfl rfl rfl (by first | exact ld_own Try.underlying9 rfl (by repeat (first | exact List.Mem.head _ | apply List.Mem.tail)) (by first | exact (cellsOf_get rfl).trans (congrArg some hb84) | exact cellsOf_get rfl | rfl) | exact ld_data Try.underlying9 rfl (by first | assumption | exact InA.add (by assumption) | exact InA.add (InA.add (by assumption))) (by assumption)) ?_
            first | refine so_lookup rfl rfl rfl rfl (look_yes (by repeat (first | exact List.Mem.head _ | apply List.Mem.tail)) hfa) ?_ | refine so_lookup rfl rfl rfl rfl (look_no (by repeat (first | exact List.Mem.head _ | apply List.Mem.tail)) hno) ?_
            refine so_move rfl rfl rfl ?_
            refine so_extract rfl rfl rfl rfl ?_
            refine so_extract rfl rfl rfl rfl ?_
            refine so_assign rfl rfl rfl ?_
            refine so_assign rfl rfl rfl ?_
            refine so_then ?_
            refine sx_seq ?_
            refine sx_seq ?_
            refine sx_region (E := E) ?_
            refine so_move rfl rfl rfl ?_
            refine so_not rfl rfl rfl rfl ?_
            refine so_then ?_
            refine sx_false rfl ?_
            refine sx_skip ?_
            refine sk_then ?_
            rcases valid_cases (q := u.data.toList) hao.1 with ⟨fo, hfo, he2⟩ | ⟨kk, hkk, hq, he2⟩
            · skip
              have hok := off_kind hfo
              refine sx_region (E := E) ?_
              refine so_fieldO (o' := 0) rfl rfl rfl Try.underlying79 rfl inf9 rfl rfl ?_
              refine so_load rfl rfl rfl (by first | exact ld_own Try.underlying9 rfl (by repeat (first | exact List.Mem.head _ | apply List.Mem.tail)) (by first | exact (cellsOf_get rfl).trans (congrArg some hb84) | exact cellsOf_get rfl | rfl) | exact ld_data Try.underlying9 rfl (by first | assumption | exact InA.add (by assumption) | exact InA.add (InA.add (by assumption))) (by assumption)) ?_
              refine so_call rfl rfl (fun h => nomatch h) rfl has22 (by repeat (first | exact Opvs.nil | apply Opvs.cons rfl)) ((by first | exact fun H hH => field_ok (hH.own _ (List.Mem.tail _ (List.Mem.head _))).2.2.1 hfo | exact fun H hH => (field_prm ((cellsOf_get rfl).trans (congrArg some hv3)) hkk hq hkp (hH.own _ (List.Mem.tail _ (List.Mem.head _))).2.2.1 (hH.own _ (List.Mem.tail _ (List.Mem.head _))).1).mono fun v H2 _ h => ⟨h.1.trans (by rw [own_add]), h.2⟩)) ?_
              refine so_move rfl rfl rfl ?_
              first | refine so_nilCheck rfl rfl rfl ?_ | refine so_nilCheckF rfl rfl rfl ?_
              first | refine so_storeS rfl (fun h => nomatch h) rfl rfl inf3 rfl rfl (.succ .zero) (cellsOf_set hok.1) (by rw [cellsOf_length]; exact Nat.le_of_ble_eq_true hok.1) (fun h => nomatch h) ?_ | refine so_storeS (off := 0 + kk * 1) rfl (fun h => nomatch h) rfl rfl inf3 rfl rfl (.succ (.succ .zero)) rfl (by omega) (fun h => nomatch h) ?_
              refine so_nil ?_
              refine sk_block ?_
              refine sk_then ?_
              refine sx_region (E := E) ?_
              refine so_bin rfl rfl rfl rfl (by first | exact bin_incr (by omega) | exact bin_add (wrap64 (by omega) (by omega)) | exact bin_add rfl) ?_
              refine so_move rfl rfl rfl ?_
              refine so_nil ?_
              exact sk_round (b + 1, upd1 y fo (.int .i64 (argV a)), upC cc fo (numC (argV a)), pc) (show bl.length - (b + 1) < bl.length - b by omega) ⟨show b + 1 ≤ bl.length by omega, (by show fillB al (bl.drop (b + 1)) (upC cc fo (numC (argV a))) = fillB al bl c; rw [← hfb, fillB_step hcb, hla]; show fillB al (bl.drop (b + 1)) (upC cc fo (numC (argV a))) = fillB al (bl.drop (b + 1)) (setC cc u.data.toList (argV a)); rw [setC_off hfo]), ptsX_up py hok.2.1 (num_cell hwf), (by show upd1 y fo _ 35 = _; rw [upd1_ne y _ (fun (h : 35 = fo) => hok.2.2 h.symm)]; exact hv3), pb, (by show upC cc fo _ 35 = _; unfold upC; rw [if_neg (fun (h : 35 = fo) => hok.2.2 h.symm)]; exact ecc), hpb, hpc, hce⟩ (by repeat (first | exact .nil | refine .cons rfl ?_)) rfl rfl (by repeat (first | exact List.nil_sublist _ | apply List.Sublist.cons_cons | apply List.Sublist.cons))
            · skip
              have hkp : kk < pl.length := by have h9 : ¬ ((pl.length : Nat) : Int) ≤ pIx u.data.toList := hao.2; rw [he2] at h9; omega
              refine sx_region (E := E) ?_
              refine so_fieldO (o' := 0) rfl rfl rfl Try.underlying79 rfl inf9 rfl rfl ?_
              refine so_load rfl rfl rfl (by first | exact ld_own Try.underlying9 rfl (by repeat (first | exact List.Mem.head _ | apply List.Mem.tail)) (by first | exact (cellsOf_get rfl).trans (congrArg some hb84) | exact cellsOf_get rfl | rfl) | exact ld_data Try.underlying9 rfl (by first | assumption | exact InA.add (by assumption) | exact InA.add (InA.add (by assumption))) (by assumption)) ?_
              refine so_call rfl rfl (fun h => nomatch h) rfl has22 (by repeat (first | exact Opvs.nil | apply Opvs.cons rfl)) ((by first | exact fun H hH => field_ok (hH.own _ (List.Mem.tail _ (List.Mem.head _))).2.2.1 hfo | exact fun H hH => (field_prm ((cellsOf_get rfl).trans (congrArg some hv3)) hkk hq hkp (hH.own _ (List.Mem.tail _ (List.Mem.head _))).2.2.1 (hH.own _ (List.Mem.tail _ (List.Mem.head _))).1).mono fun v H2 _ h => ⟨h.1.trans (by rw [own_add]), h.2⟩)) ?_
              refine so_move rfl rfl rfl ?_
              first | refine so_nilCheck rfl rfl rfl ?_ | refine so_nilCheckF rfl rfl rfl ?_
              first | refine so_storeS rfl (fun h => nomatch h) rfl rfl inf3 rfl rfl (.succ .zero) (cellsOf_set hok.1) (by rw [cellsOf_length]; exact Nat.le_of_ble_eq_true hok.1) (fun h => nomatch h) ?_ | refine so_storeS (off := 0 + kk * 1) rfl (fun h => nomatch h) rfl rfl inf3 rfl rfl (.succ (.succ .zero)) rfl (by omega) (fun h => nomatch h) ?_
              refine so_nil ?_
              refine sk_block ?_
              refine sk_then ?_
              refine sx_region (E := E) ?_
              refine so_bin rfl rfl rfl rfl (by first | exact bin_incr (by omega) | exact bin_add (wrap64 (by omega) (by omega)) | exact bin_add rfl) ?_
              refine so_move rfl rfl rfl ?_
              refine so_nil ?_
              exact sk_round (b + 1, y, upC cc 35 (.row (pb.set kk [numC (argV a)])), pc.take (0 + kk * 1) ++ ([.int .i64 (argV a)] ++ pc.drop (0 + kk * 1 + 1))) (show bl.length - (b + 1) < bl.length - b by omega) ⟨show b + 1 ≤ bl.length by omega, (by show fillB al (bl.drop (b + 1)) (upC cc 35 (.row (pb.set kk [numC (argV a)]))) = fillB al bl c; rw [← hfb, fillB_step hcb, hla]; show fillB al (bl.drop (b + 1)) (upC cc 35 (.row (pb.set kk [numC (argV a)]))) = fillB al (bl.drop (b + 1)) (setC cc u.data.toList (argV a)); rw [setC_prm hkk hq he2 ecc]), ptsX_upE py rfl, hv3, _, rfl, (by rw [List.length_set]; exact hpb), (by show (pc.take (0 + kk * 1) ++ ([Value.int .i64 (argV a)] ++ pc.drop (0 + kk * 1 + 1))).length = pl.length; simp; omega), prm_set (hpc.trans hpb.symm) (by omega) hwf hce⟩ (by repeat (first | exact .nil | refine .cons rfl ?_)) rfl rfl (by repeat (first | exact List.nil_sublist _ | apply List.Sublist.cons_cons | apply List.Sublist.cons))
        · skip
          refine sx_region (E := E) ?_
          refine so_bin rfl rfl rfl rfl (by first | exact bin_lss_t (by omega) | exact bin_lss_f (by omega)) ?_
          refine so_then ?_
          refine sx_seq ?_
          refine sx_false rfl ?_
          refine sx_exit ?_
          refine sk_then_exit ?_
          refine sk_loop_exit ?_
          refine sk_block_exit ?_
          refine sk_then ?_
          refine sx_seq ?_
          refine sx_freeze (.succ .zero) ?_
          intro Hf Af gf hAf hgf
          replace py := (py.gr gf)
          have pyf : Pts Af Hf k48 y cc := fun i k hk => by
            by_cases e : i = 35
            · subst e; cases hk; rw [hv3, ecc]; exact row_own hgf hAf rfl hpb.symm (by rw [hpc, hpb, Nat.mul_one]; exact Nat.le_refl _) (fun i c h => CellsA.gr gf _ _ _ (hce i c h)) (by rw [hpb]; exact Nat.le_refl _) (by rw [hpb]; exact rp.len) (by rw [hpb]; exact rp.bytes)
            · exact py i k hk (by cases hq : only 35 i with | false => rfl | true => exact absurd (Nat.eq_of_beq_eq_true hq) e)
          clear py
          rename Pts Af Hf k48 y cc => py
          refine sx_region (E := E) ?_
          refine so_load rfl rfl rfl (by first | exact ld_ownA Try.underlying48 rfl inf48 rfl (by repeat (first | exact List.Mem.head _ | apply List.Mem.tail)) (by first | exact cellsOf_le rfl | decide | omega) (by first | exact cellsOf_all | exact take_all rfl | exact cellsOf_part rfl | rfl) | exact ld_dataA Try.underlying48 rfl inf48 rfl (by first | assumption | exact InA.add (by assumption) | exact InA.add (InA.add (by assumption))) (by assumption)) ?_
          refine so_storeA rfl (fun h => nomatch h) rfl rfl inf48 (by first | exact cellsOf_length _ _ | rfl) (CellsA.one (py.cells (n := 84) rfl)) (by repeat (first | exact .zero | apply Upd.succ)) (by first | exact cellsOf_set rfl | exact cellsOf_setr rfl | exact cellsOf_store rfl | exact store_all rfl | rfl) (by first | exact cellsOf_in rfl rfl | exact cellsOf_in rfl (cellsOf_length _ _) | exact cellsOf_le rfl | exact Nat.le_of_ble_eq_true rfl | omega) (fun h => nomatch h) ?_
          refine so_assign rfl rfl rfl ?_
          refine so_then ?_
          refine sx_ret ?_
          refine sk_return2 (.cell rfl (by first | exact ld_ownA Try.underlying48 rfl inf48 rfl (by repeat (first | exact List.Mem.head _ | apply List.Mem.tail)) (by first | exact cellsOf_le rfl | decide | omega) (by first | exact cellsOf_all | exact take_all rfl | exact cellsOf_part rfl | rfl) | exact ld_dataA Try.underlying48 rfl inf48 rfl (by first | assumption | exact InA.add (by assumption) | exact InA.add (InA.add (by assumption))) (by assumption)) (.tmp rfl .nil)) ?_
          exact fun H hH => fillR_of hH (.ok he hnd (by
            rw [show rowOf (c 84) = bl by rw [eb]; rfl, ← hfb]
            obtain rfl : b = bl.length := by omega
            rw [List.drop_length]; rfl)) (py.cells rfl)
  · skip
    refine sx_region (E := E) ?_
    refine so_move rfl rfl rfl ?_
    refine so_bin rfl rfl rfl rfl (by first | exact bin_neq_f (by first | rfl | assumption | omega) | exact bin_neq_t (by first | rfl | assumption | omega)) ?_
    refine so_then ?_
    refine sx_true rfl ?_
    refine sx_seq ?_
    refine sx_region (E := E) ?_
    refine so_build (v := .agg ⟨k48.map zeroK⟩) rfl rfl .nil (by kernel_rfl) ?_
    refine so_move rfl rfl rfl ?_
    refine so_storeA rfl (fun h => nomatch h) rfl rfl inf48 (by kernel_rfl) (by kernel_rfl) (by repeat (first | exact .zero | apply Upd.succ)) (store_all (by kernel_rfl)) (Nat.le_of_ble_eq_true (by kernel_rfl)) (fun h => nomatch h) ?_
    refine so_assign rfl rfl rfl ?_
    refine so_then ?_
    refine sx_ret ?_
    refine sk_then_ret ?_
    refine sk_return2 (.cell rfl (by first | exact ld_ownA Try.underlying48 rfl inf48 rfl (by repeat (first | exact List.Mem.head _ | apply List.Mem.tail)) (by first | exact cellsOf_le rfl | decide | omega) (by first | exact cellsOf_all | exact take_all rfl | exact cellsOf_part rfl | rfl) | exact ld_dataA Try.underlying48 rfl inf48 rfl (by first | assumption | exact InA.add (by assumption) | exact InA.add (InA.add (by assumption))) (by assumption)) (.tmp rfl .nil)) ?_
    exact fun H hH => fillR_of hH (.chk he) zero_edit

end Go.Proofs.Ytaedeadgbojmnaa
