/-
  The abstract machine, part 28: append within the room of an own row, append of zeros behind nil, texts compared, rows put together.
-/
import Derived.Test.YtpfgpjopjadmiaaGreatDoorAM25
import Derived.Test.YtpfgpjopjadmiaaGreatDoorAM27
set_option linter.unusedVariables false
set_option linter.unusedSimpArgs false
noncomputable section
namespace Go.AM
open Go.RowKit
section
variable {P : Program} {E : Env P} {G : RG} {i n d : Nat} {r : List Oper} {Q : Fr → AH → Prop} {t : Tr Value} {l : List (Nat × Value)} {H0 : AH} {A : Nat → Prop} {L L' : OL} {v : Value} {x y : Operand} {gd : Option (Nat × Bool)} {af : Array Edge} {ps : String} {ty : TypeId}
/-- within the room of an own row -/
theorem so_appIn {c : Call} {e sT xT : TypeId} {dx : TypeDesc} {ii : TI} {zv : Value} {N sl sc m sz : Nat} {w : Value} {old new cs' : List Value} {ex : Bool} (hw : gok G.ops l gd = true) (hdn : Nat.ble (d + 1) n = true) (hm : G.D = true → i ∈ G.ms) (hc : c.callee = .builtin .append) (ha : c.args.toList = [x, y]) (ht : c.argTypes.toList = [sT, xT])
    (hx : opv l x = some (.slice (some ⟨2 * N + 1, 0, none⟩) sl sc)) (hy : opv l y = some w) (hu : E.und sT = some (.slice e)) (hux : E.und xT = some dx) (hdx : isIntD dx = false) (hi : E.inf e = some ii) (hz : ii.zero = some zv) (hs : ii.size = sz) (hs0 : sz ≠ 0) (hm0 : m ≠ 0) (hf : FirstOk G.S H0 G.A0 A L sz m w new)
    (hr : Upd N (.cells old sz ex) (.cells cs' sz ex) L L') (hroom : sl + m ≤ sc) (hle : sl * sz + m * sz ≤ old.length) (h1 : allOne new = true) (hcs : old.take (sl * sz) ++ (new ++ old.drop (sl * sz + m * sz)) = cs') (hD' : G.D = true → G.Lw.Sublist L') {k : Nat} (hk : sl + m = k)
    (h : SO E G (i + 1) r Q (fr n t ((d, .slice (some ⟨2 * N + 1, 0, none⟩) k sc) :: l)) H0 A L') : SO E G i (⟨some d, .call c, ty, ps, af, gd⟩ :: r) Q (fr n t l) H0 A L := by
  subst hs; subst hcs; subst hk
  refine so_any hw rfl hdn hm fun hD H hH => ?_
  have e1 : (Nat.beq ii.size 0 || ii.zero.isNone) = false := by
    rw [hz]; cases hq : ii.size with
    | zero => exact absurd hq hs0
    | succ k => rfl
  have e2 : Nat.beq m 0 = false := by cases m with | zero => exact absurd rfl hm0 | succ k => rfl
  have e3 : Nat.ble (sl + m) sc = true := Nat.ble_eq_true_of_le hroom
  have hg : H.tr.get N = some (.cells old ii.size ex) := (hH.own _ hr.mem).1
  have hlen := hf.2.1
  refine ⟨_, _, H0, A, L', .inl ?_, hH.set hr, hD.list hD', h⟩
  have e4 : astores H (Addr.add ⟨2 * N + 1, 0, none⟩ (sl * ii.size)) new = some { H with tr := H.tr.set N (some (.cells (old.take (sl * ii.size) ++ (new ++ old.drop (sl * ii.size + m * ii.size))) ii.size ex)) } := by
    rw [own_add, Nat.zero_add, astores_own hg _ none (by rw [hlen]; exact hle) h1, hlen]
  simp only [aop, hc, ha, ht, aappend, opv_ok hx, opv_ok hy, hu, hux, hdx, cond_false, hi, hf.1, e1, hf.2.2.1 H hH, e2, odd_mod, odd_div, hg, show szFits ii.size ii.size e = true by simp [szFits], cond_true, e3, e4]
/-- so many zeros behind nil -/
theorem so_appZ {c : Call} {e sT xT : TypeId} {k0 : IntKind} {ii : TI} {zv : Value} {m sz : Nat} {kk : IntKind} {cs : List Value} (hw : gok G.ops l gd = true) (hdn : Nat.ble (d + 1) n = true) (hm : G.D = true → i ∈ G.ms) (hc : c.callee = .builtin .append) (ha : c.args.toList = [x, y]) (ht : c.argTypes.toList = [sT, xT])
    (hx : opv l x = some (.slice none 0 0)) (hy : opv l y = some (.int kk ((m : Nat) : Int))) (hu : E.und sT = some (.slice e)) (hux : E.und xT = some (.int k0)) (hi : E.inf e = some ii) (hz : ii.zero = some zv) (hs : ii.size = sz) (hs0 : sz ≠ 0) (hm0 : m ≠ 0) (h1 : m ≤ 140737488355328) (h2 : m * ii.bytes ≤ 140737488355328) (hcs : extL (Builtin.zeroCells zv.cells m).toList = cs)
    (h : ∀ N, SO E G (i + 1) r Q (fr n t ((d, .slice (some ⟨2 * N + 1, 0, none⟩) m m) :: l)) H0 A ((N, .cells cs sz false) :: L)) : SO E G i (⟨some d, .call c, ty, ps, af, gd⟩ :: r) Q (fr n t l) H0 A L := by
  subst hs; subst hcs
  refine so_push (f := fun N => .slice (some ⟨2 * N + 1, 0, none⟩) m m) hw rfl hdn hm (fun H hH => ?_) h
  have e1 : (0 : Int) ≤ (m : Int) ∧ (m : Int) ≤ 140737488355328 ∧ m * ii.bytes ≤ 140737488355328 := ⟨by omega, by omega, h2⟩
  have e2 : ¬ (m = 0 ∨ ii.size = 0) := by
    rintro (h | h)
    · exact hm0 h
    · exact hs0 h
  simp only [aop, hc, ha, ht, aappend, opv_ok hx, opv_ok hy, hu, hux, isIntD, cond_true, hi, aappendZ, hz, Int.toNat_natCast, newSlice]
  rw [if_pos e1, if_neg e2]
theorem so_capN {c : Call} {ta e : TypeId} (hw : gok G.ops l gd = true) (hdn : Nat.ble (d + 1) n = true) (hc : c.callee = .builtin .cap) (ha : c.args.toList = [x]) (ht : c.argTypes.toList = [ta]) (hx : opv l x = some (.slice none 0 0)) (hu : E.und ta = some (.slice e))
    (hop : ∀ H, aop E (aval (fr n t l)) (.call c) H = some (.int .i64 0, H)) (hq : isPure E (.call c) = true) (h : SO E G (i + 1) r Q (fr n t ((d, .int .i64 0) :: l)) H0 A L) : SO E G i (⟨some d, .call c, ty, ps, af, gd⟩ :: r) Q (fr n t l) H0 A L :=
  so_pure hw rfl hdn hq hop h
theorem bin_slss {ta : TypeId} {a b : ByteArray} {v : Bool} (h : Op.bytesLess a.data.toList b.data.toList = v) : abin E .lss ta (.string a) (.string b) = some (.bool v) := by
  simp only [abin, abinStr, h]
theorem lss_t {a b : Txt} (h : a < b) : Op.bytesLess a b = true := by rw [bytesLess_lt]; exact decide_eq_true h
theorem lss_f {a b : Txt} (h : ¬ a < b) : Op.bytesLess a b = false := by rw [bytesLess_lt]; exact decide_eq_false h
end
section
variable {A : Nat → Prop} {H : AH}
/-- a row whose elements are written behind others -/
theorem rows_put {ks : List Kd} {sz n t m : Nat} {cells new : List Value} {acc row : List (List CT)} (hcl : cells.length = n * sz) (hacc : acc.length = t) (hrow : row.length = m) (ht : t + m ≤ n) (hnew : new.length = m * sz) (hg : ∀ (j : Nat) c, acc[j]? = some c → CellsA A H ks ((cells.drop (j * sz)).take sz) c)
    (hn : ∀ (j : Nat) c, j < m → row[j]? = some c → CellsA A H ks ((new.drop (j * sz)).take sz) c) : ∀ (j : Nat) c, (acc ++ row)[j]? = some c → CellsA A H ks (((cells.take (t * sz) ++ (new ++ cells.drop (t * sz + m * sz))).drop (j * sz)).take sz) c := by
  intro j c hj
  have h1 : t * sz + m * sz ≤ n * sz := by rw [← Nat.add_mul]; exact Nat.mul_le_mul_right _ ht
  have hl : (cells.take (t * sz)).length = t * sz := by rw [List.length_take]; omega
  by_cases e : j < t
  · rw [List.getElem?_append_left (by omega)] at hj
    have h2 : j * sz + sz ≤ t * sz := by rw [← Nat.succ_mul]; exact Nat.mul_le_mul_right _ e
    rw [List.drop_append_of_le_length (by omega), List.take_append_of_le_length (by rw [List.length_drop, hl]; omega), List.drop_take, List.take_take, Nat.min_eq_left (by omega)]
    exact hg j c hj
  · rw [List.getElem?_append_right (by omega)] at hj
    rw [hacc] at hj
    have hjm : j - t < m := by
      rcases Nat.lt_or_ge (j - t) row.length with h' | h'
      · omega
      · simp [List.getElem?_eq_none h'] at hj
    have e3 : j * sz = t * sz + (j - t) * sz := by rw [← Nat.add_mul]; congr 1; omega
    have h2 : (j - t) * sz + sz ≤ m * sz := by rw [← Nat.succ_mul]; exact Nat.mul_le_mul_right _ hjm
    rw [e3, ← List.drop_drop, List.drop_append_of_le_length (by omega), show (cells.take (t * sz)).drop (t * sz) = [] from List.drop_eq_nil_of_le (by omega), List.nil_append, List.drop_append_of_le_length (by omega), List.take_append_of_le_length (by rw [List.length_drop]; omega)]
    exact hn _ c hjm hj
theorem put_len {sz n t m : Nat} {cells new : List Value} (hcl : cells.length = n * sz) (ht : t + m ≤ n) (hnew : new.length = m * sz) : (cells.take (t * sz) ++ (new ++ cells.drop (t * sz + m * sz))).length = n * sz := by
  have h1 : t * sz + m * sz ≤ n * sz := by rw [← Nat.add_mul]; exact Nat.mul_le_mul_right _ ht
  simp only [List.length_append, List.length_take, List.length_drop]; omega
theorem nil_row {b : Nat} {ks : List Kd} : CellA A H (.row b ks) (.slice none 0 0) (.row []) := by
  simp only [CellA]; exact ⟨by simp, by simp, .inl ⟨trivial, trivial⟩⟩
end
theorem XCall.e {P : Program} {g : FuncId} {args : List Value} {H : AH} {a b : Value} {K : AH → Prop} (h : XCall P g args H fun v H' => v = a ∧ K H') (e : a = b) : XCall P g args H fun v H' => v = b ∧ K H' := e ▸ h
end Go.AM
