/-
  Walks, laid by program.
-/
import Derived.Test.YtljakaaebljiiaaGreatDoorB1
set_option linter.unusedVariables false
set_option linter.unusedSimpArgs false
set_option maxRecDepth 100000
namespace Go.Proofs.YtljakaaebljiiaaGreatDoor
open Go Go.AM

theorem str1 {A : Nat → Prop} {H : AH} {xs : List Value} {c : List CT} (h : CellsA A H [.str] xs c) : ∃ u, xs = [.string u] ∧ c = [.v (.string u)] := by
  obtain ⟨h1, h2⟩ := h.len
  match xs, c, h1, h2, h with
  | [x], [d], _, _, h =>
    simp only [CellsA] at h
    obtain ⟨u, rfl, rfl, hu⟩ := h.1.str
    exact ⟨u, rfl, rfl⟩
def rowsS (us : List ByteArray) : List (List CT) := us.map fun u => [.v (.string u)]
theorem row_strs {A : Nat → Prop} {H : AH} {N : Nat} {ex : Bool} {us : List ByteArray} {cs : List Value} (hc : cs = us.map .string) (hg : H.tr.get N = some (.cells cs 1 ex)) (hA : A N) (hu : ∀ u ∈ us, u.size ≤ maxLen) (hl : us.length ≤ 1000) {m : Nat} (hm : m = us.length) :
    CellA A H (.row 16 [.str]) (.slice (some ⟨2 * N + 1, 0, none⟩) m m) (.row (rowsS us)) := by
  subst hc
  have e : (rowsS us).length = us.length := by simp [rowsS]
  refine row_own hg hA rfl (hm.trans e.symm) (by rw [e]; simp) (fun i c hi => ?_) (by rw [e, hm]; exact Nat.le_refl _) (by rw [e]; omega) (by rw [e]; omega)
  rw [rowsS, List.getElem?_map] at hi
  cases hj : us[i]? with
  | none => rw [hj] at hi; simp at hi
  | some u =>
    rw [hj] at hi
    simp at hi
    subst hi
    have e2 : ((us.map Value.string).drop (i * 1)).take 1 = [.string u] := by
      rw [Nat.mul_one]
      apply List.ext_getElem?
      intro k
      cases k with
      | zero => simp [List.getElem?_take, List.getElem?_drop, hj]
      | succ k => simp [List.getElem?_take]
    rw [e2]
    simp only [CellsA, CellA]
    exact ⟨⟨trivial, u, rfl, hu u (List.mem_of_getElem? hj)⟩, trivial⟩
theorem anyF_rows (P : List UInt8 → Bool) (us : List ByteArray) : anyF P (rowsS us) = us.any fun u => P u.data.toList := by
  simp only [anyF, rowsS, List.any_map]; rfl
def us1 : List ByteArray := [⟨#[80, 53]⟩, ⟨#[80, 54]⟩, ⟨#[80, 55]⟩]
def a1 (q : List UInt8) : Bool := (preB q [80, 53] || (preB q [80, 54] || preB q [80, 55]))
theorem any_us1 (q : List UInt8) : anyF (preB q) (rowsS us1) = a1 q := by rw [anyF_rows]; simp only [us1, List.any_cons, List.any_nil, Bool.or_false, a1]
theorem us1_le : ∀ u ∈ us1, u.size ≤ maxLen := by decide
def us2 : List ByteArray := [⟨#[137, 80, 78, 71, 13, 10, 26, 10]⟩]
def a2 (q : List UInt8) : Bool := preB q [137, 80, 78, 71, 13, 10, 26, 10]
theorem any_us2 (q : List UInt8) : anyF (preB q) (rowsS us2) = a2 q := by rw [anyF_rows]; simp only [us2, List.any_cons, List.any_nil, Bool.or_false, a2]
theorem us2_le : ∀ u ∈ us2, u.size ≤ maxLen := by decide
def us3 : List ByteArray := [⟨#[73, 73, 42, 0]⟩, ⟨#[77, 77, 0, 42]⟩]
def a3 (q : List UInt8) : Bool := (preB q [73, 73, 42, 0] || preB q [77, 77, 0, 42])
theorem any_us3 (q : List UInt8) : anyF (preB q) (rowsS us3) = a3 q := by rw [anyF_rows]; simp only [us3, List.any_cons, List.any_nil, Bool.or_false, a3]
theorem us3_le : ∀ u ∈ us3, u.size ≤ maxLen := by decide
def us4 : List ByteArray := [⟨#[73, 69, 68, 49]⟩]
def a4 (q : List UInt8) : Bool := preB q [73, 69, 68, 49]
theorem any_us4 (q : List UInt8) : anyF (preB q) (rowsS us4) = a4 q := by rw [anyF_rows]; simp only [us4, List.any_cons, List.any_nil, Bool.or_false, a4]
theorem us4_le : ∀ u ∈ us4, u.size ≤ maxLen := by decide

theorem or3 (a b c : Bool) : (a = true) ∨ (a = false ∧ b = true) ∨ (a = false ∧ b = false ∧ c = true) ∨ (a = false ∧ b = false ∧ c = false) := by
  cases a <;> cases b <;> cases c <;> simp
theorem or2 (a b : Bool) : (a = true) ∨ (a = false ∧ b = true) ∨ (a = false ∧ b = false) := by
  cases a <;> cases b <;> simp
/-- the format of a file -/
def detV (q : List UInt8) : Int := if a1 q = true then 1 else if a2 q = true then 2 else if a3 q = true then 3 else if a4 q = true then 4 else 0
section
variable {q : List UInt8}
theorem detV_1 (h : a1 q = true) : detV q = 1 := if_pos h
theorem detV_2 (h : a1 q = false) (h2 : a2 q = true) : detV q = 2 := by unfold detV; rw [if_neg (by simp [h]), if_pos h2]
theorem detV_3 (h : a1 q = false) (h2 : a2 q = false) (h3 : a3 q = true) : detV q = 3 := by unfold detV; rw [if_neg (by simp [h]), if_neg (by simp [h2]), if_pos h3]
theorem detV_4 (h : a1 q = false) (h2 : a2 q = false) (h3 : a3 q = false) (h4 : a4 q = true) : detV q = 4 := by unfold detV; rw [if_neg (by simp [h]), if_neg (by simp [h2]), if_neg (by simp [h3]), if_pos h4]
theorem detV_0 (h : a1 q = false) (h2 : a2 q = false) (h3 : a3 q = false) (h4 : a4 q = false) : detV q = 0 := by unfold detV; rw [if_neg (by simp [h]), if_neg (by simp [h2]), if_neg (by simp [h3]), if_neg (by simp [h4])]
end
theorem hasPrefix_ok {S : AH} (s t : ByteArray) : XCall Tryz.prog 18 [.string s, .string t] S fun v H' => v = .bool (preB s.data.toList t.data.toList) ∧ Kept S.nx S H' := by
  refine x_enter (E := E) (n := 8) (rs := [.tmp 4]) (l := [(1, _), (0, _)]) (fn_own Tryz.func18 rfl rfl rfl) (A0 := fun _ => False) (fun j h => h.elim) rfl ?_
  refine sx_seq ?_
  refine sx_region (E := E) ?_
  refine so_assign rfl rfl rfl ?_
  refine so_then ?_
  refine sx_seq ?_
  refine sx_region (E := E) ?_
  refine so_move rfl rfl rfl ?_
  refine so_move rfl rfl rfl ?_
  refine so_call rfl rfl (fun h => nomatch h) rfl has39 (by repeat (first | exact Opvs.nil | apply Opvs.cons rfl)) (fun H hH => pre39_ok s t) ?_
  refine so_assign rfl rfl rfl ?_
  refine so_then ?_
  refine sx_ret ?_
  refine sk_return1 (.tmp rfl .nil) ?_
  exact fun H hH => ⟨rfl, hH.kept⟩

theorem tests_ok {S : AH} {N sz : Nat} {cs : List Value} {ex : Bool} {q : ByteArray} (hlt : N < S.nx) (hN : S.tr.get N = some (.cells cs sz ex)) (h0 : cs[0]? = some (.string q)) (u : ByteArray) : XCall Tryz.prog 17 [.string u, .pointer (some ⟨2 * N + 1, 0, none⟩)] S fun v H' => v = .bool (preB q.data.toList u.data.toList) ∧ Kept S.nx S H' := by
  refine x_enter (E := E) (n := 7) (rs := [.tmp 3]) (l := [(1, _), (0, _)]) (fn_own Tryz.func17 rfl rfl rfl) (A0 := fun j => j = N) (fun j h => by rw [h]; exact hlt) rfl ?_
  refine sx_seq ?_
  refine sx_region (E := E) ?_
  refine so_assign rfl rfl rfl ?_
  refine so_then ?_
  refine sx_seq ?_
  refine sx_region (E := E) ?_
  refine so_load rfl rfl rfl (by first | exact ld_data Tryz.underlying9 rfl (InA.own rfl) ((aload_own hN _ _).trans h0) | exact ld_own Tryz.underlying9 rfl (by repeat (first | exact List.Mem.head _ | apply List.Mem.tail)) (by first | exact cellsOf_get rfl | rfl) | exact ld_data Tryz.underlying9 rfl (by first | assumption | exact InA.add (by assumption) | exact InA.add (InA.add (by assumption))) (by assumption)) ?_
  refine so_move rfl rfl rfl ?_
  refine so_call rfl rfl (fun h => nomatch h) rfl has18 (by repeat (first | exact Opvs.nil | apply Opvs.cons rfl)) (fun H hH => hasPrefix_ok q u) ?_
  refine so_assign rfl rfl rfl ?_
  refine so_then ?_
  refine sx_ret ?_
  refine sk_return1 (.tmp rfl .nil) ?_
  exact fun H hH => ⟨rfl, hH.kept⟩

theorem indexS_ok {S : AH} {A : Nat → Prop} (hA : ∀ j, A j → j < S.nx) {x : Value} {l : List (List CT)} (hx : CellA A S (.row 16 [.str]) x (.row l)) {g : Nat} {fb : List Value} {P : List UInt8 → Bool} (hg : ∃ fn, E.fn g = some fn) (hf : ∀ H, Kept S.nx S H → ∀ (u : ByteArray), XCall Tryz.prog g (.string u :: fb) H fun v H' => v = .bool (P u.data.toList) ∧ Kept H.nx H H') : XCall Tryz.prog 38 [x, .func (.func g) ⟨[]⟩ ⟨fb⟩] S fun v H' => v = .int .i64 (idxF P l) ∧ Kept S.nx S H' := by
  obtain ⟨l2, ax, cx, e2, rfl, rx⟩ := hx.rowD
  cases e2
  have hb := rx.len
  refine x_enter (E := E) (n := 19) (rs := [.tmp 4]) (l := [(1, _), (0, _)]) (fn_own Tryz.func38 rfl rfl rfl) hA rfl ?_
  refine sx_seq ?_
  refine sx_region (E := E) ?_
  refine so_assign rfl rfl rfl ?_
  refine so_then ?_
  refine sx_seq ?_
  refine sx_seq ?_
  refine sx_region (E := E) ?_
  refine so_move rfl rfl rfl ?_
  refine so_lenL rfl rfl rfl rfl rfl rfl Tryz.underlying59 ?_
  refine so_move rfl rfl rfl ?_
  refine so_then ?_
  refine sx_block ?_
  refine sx_loop (σ := Nat) (fun k => l.length - k) (fun k => [(0, .slice ax l.length cx), (1, .func (.func g) ⟨[]⟩ ⟨fb⟩), (7, .int .i64 ((l.length : Nat) : Int)), (8, .int .i64 ((k : Nat) : Int))]) (fun _ => S) (fun _ => A) (fun _ => []) (fun k => k ≤ l.length ∧ (∀ j d, j < k → l[j]? = some d → P (txOf d) = false)) (0) (⟨Nat.zero_le _, fun j d h => absurd h (Nat.not_lt_zero _)⟩) (by repeat (first | exact .nil | refine .cons rfl ?_)) rfl rfl (by repeat (first | exact List.nil_sublist _ | apply List.Sublist.cons_cons | apply List.Sublist.cons)) ?_
  intro s hJ t1
  obtain ⟨hJ, hno⟩ := hJ
  refine sx_seq ?_
  rcases Nat.lt_or_ge s l.length with hk | hk
  · skip
    obtain ⟨qx, us, d, eqx, ix, hc, lx, kx⟩ := rx.at' s hk
    cases eqx
    obtain ⟨u, rfl, rfl⟩ := str1 kx
    obtain ⟨x0, ex0, lx1⟩ := aloads_one lx
    cases ex0
    refine sx_region (E := E) ?_
    refine so_bin rfl rfl rfl rfl (by first | exact bin_lss_t (by omega) | exact bin_lss_f (by omega)) ?_
    refine so_then ?_
    refine sx_seq ?_
    refine sx_true rfl ?_
    refine sx_skip ?_
    refine sk_then ?_
    refine sx_seq ?_
    refine sx_block ?_
    refine sx_seq ?_
    refine sx_region (E := E) ?_
    refine so_move rfl rfl rfl ?_
    refine so_assign rfl rfl rfl ?_
    refine so_then ?_
    refine sx_seq ?_
    cases hp : P u.data.toList
    · skip
      refine sx_region (E := E) ?_
      refine so_move rfl rfl rfl ?_
      refine so_move rfl rfl rfl ?_
      refine so_move rfl rfl rfl ?_
      first | refine so_indexO rfl rfl rfl rfl Tryz.underlying59 inf9 rfl (by omega) rfl ?_ | refine so_index rfl rfl rfl rfl Tryz.underlying59 inf9 rfl (by omega) ?_
      refine so_load rfl rfl rfl (by first | exact ld_data Tryz.underlying9 rfl (InA.add ix) lx1 | exact ld_data Tryz.underlying9 rfl ix lx1 | exact ld_own Tryz.underlying9 rfl (by repeat (first | exact List.Mem.head _ | apply List.Mem.tail)) (by first | exact cellsOf_get rfl | rfl) | exact ld_data Tryz.underlying9 rfl (by first | assumption | exact InA.add (by assumption) | exact InA.add (InA.add (by assumption))) (by assumption)) ?_
      refine so_callV rfl rfl (fun h => nomatch h) rfl rfl hg (by repeat (first | exact Opvs.nil | apply Opvs.cons rfl)) rfl (fun H hH => (hf H hH.kept u).b hp) ?_
      refine so_then ?_
      refine sx_false rfl ?_
      refine sx_skip ?_
      refine sk_block ?_
      refine sk_then ?_
      refine sx_region (E := E) ?_
      refine so_bin rfl rfl rfl rfl (by first | exact bin_incr (by omega) | exact bin_add (wrap64 (by omega) (by omega)) | exact bin_add rfl) ?_
      refine so_move rfl rfl rfl ?_
      refine so_nil ?_
      refine sk_round (s + 1) (show l.length - (s + 1) < l.length - s by omega) ⟨by omega, fun j d2 hj hd2 => ?_⟩ (by repeat (first | exact .nil | refine .cons rfl ?_)) rfl rfl (by repeat (first | exact List.nil_sublist _ | apply List.Sublist.cons_cons | apply List.Sublist.cons))
      by_cases e : j = s
      · subst e; rw [hc] at hd2; cases hd2; exact hp
      · exact hno j d2 (by omega) hd2
    · skip
      refine sx_region (E := E) ?_
      refine so_move rfl rfl rfl ?_
      refine so_move rfl rfl rfl ?_
      refine so_move rfl rfl rfl ?_
      first | refine so_indexO rfl rfl rfl rfl Tryz.underlying59 inf9 rfl (by omega) rfl ?_ | refine so_index rfl rfl rfl rfl Tryz.underlying59 inf9 rfl (by omega) ?_
      refine so_load rfl rfl rfl (by first | exact ld_data Tryz.underlying9 rfl (InA.add ix) lx1 | exact ld_data Tryz.underlying9 rfl ix lx1 | exact ld_own Tryz.underlying9 rfl (by repeat (first | exact List.Mem.head _ | apply List.Mem.tail)) (by first | exact cellsOf_get rfl | rfl) | exact ld_data Tryz.underlying9 rfl (by first | assumption | exact InA.add (by assumption) | exact InA.add (InA.add (by assumption))) (by assumption)) ?_
      refine so_callV rfl rfl (fun h => nomatch h) rfl rfl hg (by repeat (first | exact Opvs.nil | apply Opvs.cons rfl)) rfl (fun H hH => (hf H hH.kept u).b hp) ?_
      refine so_then ?_
      refine sx_true rfl ?_
      refine sx_seq ?_
      refine sx_region (E := E) ?_
      refine so_move rfl rfl rfl ?_
      refine so_assign rfl rfl rfl ?_
      refine so_then ?_
      refine sx_ret ?_
      refine sk_block_ret ?_
      refine sk_then_ret ?_
      refine sk_loop_ret ?_
      refine sk_block_ret ?_
      refine sk_then_ret ?_
      refine sk_return1 (.tmp rfl .nil) ?_
      exact fun H hH => ⟨by rw [idxF_at hc hp hno], hH.kept⟩
  · skip
    refine sx_region (E := E) ?_
    refine so_bin rfl rfl rfl rfl (by first | exact bin_lss_t (by omega) | exact bin_lss_f (by omega)) ?_
    refine so_then ?_
    refine sx_seq ?_
    refine sx_false rfl ?_
    refine sx_exit ?_
    refine sk_then_exit ?_
    refine sk_loop_exit ?_
    refine sk_block_exit ?_
    refine sk_then ?_
    refine sx_seq ?_
    refine sx_region (E := E) ?_
    refine so_assign rfl rfl rfl ?_
    refine so_then ?_
    refine sx_ret ?_
    refine sk_return1 (.tmp rfl .nil) ?_
    exact fun H hH => ⟨by rw [idxF_none fun j d h1 h2 => hno j d (by omega) h2], hH.kept⟩

theorem containsS_ok {S : AH} {A : Nat → Prop} (hA : ∀ j, A j → j < S.nx) {x : Value} {l : List (List CT)} (hx : CellA A S (.row 16 [.str]) x (.row l)) {g : Nat} {fb : List Value} {P : List UInt8 → Bool} (hg : ∃ fn, E.fn g = some fn) (hf : ∀ H, Kept S.nx S H → ∀ (u : ByteArray), XCall Tryz.prog g (.string u :: fb) H fun v H' => v = .bool (P u.data.toList) ∧ Kept H.nx H H') : XCall Tryz.prog 16 [x, .func (.func g) ⟨[]⟩ ⟨fb⟩] S fun v H' => v = .bool (anyF P l) ∧ Kept S.nx S H' := by
  refine x_enter (E := E) (n := 9) (rs := [.tmp 4]) (l := [(1, _), (0, _)]) (fn_own Tryz.func16 rfl rfl rfl) hA rfl ?_
  refine sx_seq ?_
  refine sx_region (E := E) ?_
  refine so_assign rfl rfl rfl ?_
  refine so_then ?_
  refine sx_seq ?_
  rcases idx2 P l with ⟨hi, ha⟩ | ⟨hi, ha⟩
  · skip
    refine sx_region (E := E) ?_
    refine so_move rfl rfl rfl ?_
    refine so_move rfl rfl rfl ?_
    refine so_call rfl rfl (fun h => nomatch h) rfl has38 (by repeat (first | exact Opvs.nil | apply Opvs.cons rfl)) (fun H hH => indexS_ok (P := P) hH.lt (CellA.gr hH.gr _ _ _ hx) hg (fun H2 hk u => hf H2 (hH.kept.trans (hk.mono hH.kept.nx)) u)) ?_
    refine so_bin rfl rfl rfl rfl (by first | exact bin_geq_t (by omega) | exact bin_geq_f (by omega)) ?_
    refine so_assign rfl rfl rfl ?_
    refine so_then ?_
    refine sx_ret ?_
    refine sk_return1 (.tmp rfl .nil) ?_
    exact fun H hH => ⟨by rw [ha], hH.kept⟩
  · skip
    refine sx_region (E := E) ?_
    refine so_move rfl rfl rfl ?_
    refine so_move rfl rfl rfl ?_
    refine so_call rfl rfl (fun h => nomatch h) rfl has38 (by repeat (first | exact Opvs.nil | apply Opvs.cons rfl)) (fun H hH => indexS_ok (P := P) hH.lt (CellA.gr hH.gr _ _ _ hx) hg (fun H2 hk u => hf H2 (hH.kept.trans (hk.mono hH.kept.nx)) u)) ?_
    refine so_bin rfl rfl rfl rfl (by first | exact bin_geq_t (by omega) | exact bin_geq_f (by omega)) ?_
    refine so_assign rfl rfl rfl ?_
    refine so_then ?_
    refine sx_ret ?_
    refine sk_return1 (.tmp rfl .nil) ?_
    exact fun H hH => ⟨by rw [ha], hH.kept⟩

theorem begins1_ok {S : AH} {A : Nat → Prop} (hA : ∀ j, A j → j < S.nx) {x : Value} {l : List (List CT)} (hx : CellA A S (.row 16 [.str]) x (.row l)) {N sz : Nat} {cs : List Value} {ex : Bool} {q : ByteArray} (hAN : A N) (hN : S.tr.get N = some (.cells cs sz ex)) (h0 : cs[0]? = some (.string q)) : XCall Tryz.prog 15 [x, .pointer (some ⟨2 * N + 1, 0, none⟩)] S fun v H' => v = .bool (anyF (preB q.data.toList) l) ∧ Kept S.nx S H' := by
  refine x_enter (E := E) (n := 7) (rs := [.tmp 3]) (l := [(1, _), (0, _)]) (fn_own Tryz.func15 rfl rfl rfl) hA rfl ?_
  refine sx_seq ?_
  refine sx_region (E := E) ?_
  refine so_assign rfl rfl rfl ?_
  refine so_then ?_
  refine sx_seq ?_
  refine sx_region (E := E) ?_
  refine so_move rfl rfl rfl ?_
  refine so_makeFunc rfl rfl (by repeat (first | exact Opvs.nil | apply Opvs.cons rfl)) (by repeat (first | exact Opvs.nil | apply Opvs.cons rfl)) ?_
  refine so_call rfl rfl (fun h => nomatch h) rfl has16 (by repeat (first | exact Opvs.nil | apply Opvs.cons rfl)) (fun H hH => containsS_ok (P := preB q.data.toList) hH.lt (CellA.gr hH.gr _ _ _ hx) has17 (fun H2 hk u => tests_ok (Nat.lt_of_lt_of_le (hH.lt N hAN) hk.nx) ((hk.get _ (hH.lt N hAN)).trans ((hH.base N hAN).trans hN)) h0 u)) ?_
  refine so_assign rfl rfl rfl ?_
  refine so_then ?_
  refine sx_ret ?_
  refine sk_return1 (.tmp rfl .nil) ?_
  exact fun H hH => ⟨rfl, hH.kept⟩

end Go.Proofs.YtljakaaebljiiaaGreatDoor
