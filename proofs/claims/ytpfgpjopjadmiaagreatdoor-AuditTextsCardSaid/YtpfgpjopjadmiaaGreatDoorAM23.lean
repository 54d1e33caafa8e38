/-
  The abstract machine, part 23: append, maps, whole rows.
-/
import Derived.Test.YtpfgpjopjadmiaaGreatDoorAM22
set_option linter.unusedVariables false
set_option linter.unusedSimpArgs false
noncomputable section
namespace Go.AM
open Go.RowKit

/-! ### rows, whole -/
theorem extLoads_app {w : World} {a : Addr} : ∀ (n i m : Nat) (xs ys : List Value), extLoads w a i n = some xs → extLoads w a (i + n) m = some ys → extLoads w a i (n + m) = some (xs ++ ys) := by
  intro n
  induction n with
  | zero => intro i m xs ys h k; simp [extLoads] at h; subst h; simpa using k
  | succ n ih =>
    intro i m xs ys h k
    simp only [extLoads] at h
    split at h
    · rename_i v hv
      split at h
      · rename_i r hr
        cases h
        have := ih (i + 1) m r ys hr (by rw [show i + 1 + n = i + (n + 1) by omega]; exact k)
        rw [show n + 1 + m = (n + m) + 1 by omega]
        simp only [extLoads, hv, this, List.cons_append]
      · cases h
    · cases h
theorem aloads_app {H : AH} {p : Addr} {n m : Nat} {xs ys : List Value} (h : aloads H p n = some xs) (k : aloads H (p.add n) m = some ys) : aloads H p (n + m) = some (xs ++ ys) := by
  have hx := aloads_len h
  have hy := aloads_len k
  by_cases hn : n = 0
  · subst hn
    have : xs = [] := List.eq_nil_of_length_eq_zero hx
    subst this
    rw [show p.add 0 = p from by unfold Addr.add; simp] at k
    simpa using k
  · by_cases hm : m = 0
    · subst hm
      have : ys = [] := List.eq_nil_of_length_eq_zero hy
      subst this
      simpa using h
    · unfold aloads at h k ⊢
      rw [show Nat.beq n 0 = false by (cases n with | zero => exact absurd rfl hn | succ n => rfl), cond_false] at h
      rw [show Nat.beq m 0 = false by (cases m with | zero => exact absurd rfl hm | succ n => rfl), cond_false, add_block] at k
      rw [show Nat.beq (n + m) 0 = false by (cases n with | zero => exact absurd rfl hn | succ n => rw [Nat.succ_add]; rfl), cond_false]
      cases hb : Nat.beq (p.block % 2) 0 with
      | true =>
        rw [hb, cond_true] at h k
        rw [cond_true]
        have e := half_add p n
        rw [add_block] at e
        rw [e, extLoads_shift, Nat.add_zero] at k
        exact extLoads_app n 0 m xs ys h (by rw [Nat.zero_add]; exact k)
      | false =>
        rw [hb, cond_false] at h k
        rw [cond_false]
        split at h
        · rename_i cs sz ex hg
          rw [hg] at k
          simp only at k
          rw [add_off] at k
          cases hle : Nat.ble (p.off + n + m) cs.length with
          | true =>
            rw [hle, cond_true] at k
            have hl := Nat.le_of_ble_eq_true hle
            rw [Nat.ble_eq_true_of_le (show p.off + n ≤ cs.length by omega), cond_true] at h
            rw [Nat.ble_eq_true_of_le (show p.off + (n + m) ≤ cs.length by omega), cond_true]
            cases h; cases k
            rw [← List.drop_drop, List.take_add]
          | false => rw [hle] at k; cases k
        · cases h

section
variable {A : Nat → Prop} {H : AH}
/-- all the cells of a row -/
theorem RowD.whole {b : Nat} {ks : List Kd} {l : List (List CT)} {p : Addr} {cap : Nat} (h : RowD A H b ks l (some p) cap) : ∀ m, m ≤ l.length → ∃ cells, aloads H p (m * ks.length) = some cells ∧ cells.length = m * ks.length ∧ ∀ i c, i < m → l[i]? = some c → CellsA A H ks ((cells.drop (i * ks.length)).take ks.length) c := by
  intro m
  induction m with
  | zero => intro _; exact ⟨[], by simp [aloads], by simp, fun i c hi => absurd hi (Nat.not_lt_zero _)⟩
  | succ m ih =>
    intro hm
    obtain ⟨cells, h1, h2, h3⟩ := ih (by omega)
    obtain ⟨p', xs, c, e1, e2, e3, e4, e5⟩ := h.at' m (by omega)
    cases e1
    have hxl := aloads_len e4
    refine ⟨cells ++ xs, ?_, ?_, fun i c' hi hc => ?_⟩
    · rw [Nat.add_mul, Nat.one_mul]; exact aloads_app h1 e4
    · rw [List.length_append, h2, hxl, Nat.add_mul, Nat.one_mul]
    · by_cases him : i < m
      · have hle : (i + 1) * ks.length ≤ m * ks.length := Nat.mul_le_mul_right _ him
        rw [Nat.add_mul, Nat.one_mul] at hle
        rw [List.drop_append_of_le_length (by omega), List.take_append_of_le_length (by rw [List.length_drop]; omega)]
        exact h3 i c' him hc
      · obtain rfl : i = m := by omega
        rw [e3] at hc; cases hc
        rw [List.drop_append, h2, Nat.sub_self, List.drop_zero, List.drop_eq_nil_of_le (by omega), List.nil_append, List.take_of_length_le (by omega)]
        exact e5
end

/-! ### append -/
section
variable {P : Program} {E : Env P} {G : RG} {i n d : Nat} {r : List Oper} {Q : Fr → AH → Prop} {t : Tr Value} {l : List (Nat × Value)} {S H0 : AH} {A0 A : Nat → Prop} {L L' : OL} {v u : Value}
  {ty : TypeId} {ps : String} {af : Array Edge} {gd : Option (Nat × Bool)} {x y z : Operand}

/-- what is appended -/
def FirstOk (S H0 : AH) (A0 A : Nat → Prop) (L : OL) (sz m : Nat) (x : Value) (new : List Value) : Prop := alenOf x = some m ∧ new.length = m * sz ∧ (∀ H, HS S H0 A0 A L H → afirst sz m x H = some new) ∧ isStr x = false
theorem first_own {K sz sz' m cap : Nat} {cs : List Value} {ex : Bool} (hm : (K, AObj.cells cs sz' ex) ∈ L) (hl : cs.length = m * sz) : FirstOk S H0 A0 A L sz m (.slice (some ⟨2 * K + 1, 0, none⟩) m cap) cs :=
  ⟨rfl, hl, fun H hH => by
    simp only [afirst]
    rw [aloads_own (hH.own _ hm).1 0 (m * sz) none (by omega)]
    simp [← hl], rfl⟩
theorem first_data {sz m cap : Nat} {p : Addr} {cs : List Value} (hA : InA A p.block) (hl : aloads H0 p (m * sz) = some cs) : FirstOk S H0 A0 A L sz m (.slice (some p) m cap) cs :=
  ⟨rfl, aloads_len hl, fun H hH => by simp only [afirst]; rw [hH.gr.aloads hA]; exact hl, rfl⟩
/-- .. a text's bytes -/
theorem first_txt {m : Nat} {s : ByteArray} {cs : List Value} (hm : s.data.toList.length = m) (hc : (s.data.toList.map fun b => Value.int .u8 b.toNat) = cs) (H : AH) : alenOf (.string s) = some m ∧ cs.length = m * 1 ∧ afirst 1 m (.string s) H = some cs :=
  ⟨by simp only [alenOf, hm], by rw [← hc, List.length_map, hm, Nat.mul_one], by simp only [afirst]; rw [← hc, ← hm, List.take_length]⟩

/-- nothing is appended -/
theorem so_app0 {c : Call} {e sT xT : TypeId} {dx : TypeDesc} {ii : TI} {zv : Value} {base : Option Addr} {sl sc : Nat} {w : Value} {new : List Value} (hw : gok G.ops l gd = true) (hdn : Nat.ble (d + 1) n = true) (hm : G.D = true → i ∈ G.ms) (hc : c.callee = .builtin .append) (ha : c.args.toList = [x, y]) (ht : c.argTypes.toList = [sT, xT])
    (hx : opv l x = some (.slice base sl sc)) (hy : opv l y = some w) (hu : E.und sT = some (.slice e)) (hux : E.und xT = some dx) (hdx : isIntD dx = false) (hi : E.inf e = some ii) (hz : ii.zero = some zv) (hs : ii.size ≠ 0) (hf : FirstOk G.S H0 G.A0 A L ii.size 0 w new) (hle : sl ≤ sc)
    (h : SO E G (i + 1) r Q (fr n t ((d, .slice base sl sc) :: l)) H0 A L) : SO E G i (⟨some d, .call c, ty, ps, af, gd⟩ :: r) Q (fr n t l) H0 A L :=
  so_any hw rfl hdn hm fun hD H hH => by
    refine ⟨_, H, H0, A, L, .inl ?_, hH, hD, h⟩
    have e1 : (Nat.beq ii.size 0 || ii.zero.isNone) = false := by
      rw [hz]; cases hq : ii.size with
      | zero => exact absurd hq hs
      | succ k => rfl
    simp only [aop, hc, ha, ht, aappend, opv_ok hx, opv_ok hy, hu, hux, hdx, cond_false, hi, hf.1, e1, hf.2.2.1 H hH, show Nat.beq 0 0 = true from rfl, cond_true, Nat.ble_eq_true_of_le hle]
/-- a new row: behind nil, or behind an own row that has no room -/
theorem so_appNew {c : Call} {e sT xT : TypeId} {dx : TypeDesc} {ii : TI} {zv : Value} {base : Option Addr} {sl m sz bt : Nat} {w : Value} {old new cs' : List Value} (hw : gok G.ops l gd = true) (hdn : Nat.ble (d + 1) n = true) (hm : G.D = true → i ∈ G.ms) (hc : c.callee = .builtin .append) (ha : c.args.toList = [x, y]) (ht : c.argTypes.toList = [sT, xT])
    (hx : opv l x = some (.slice base sl sl)) (hy : opv l y = some w) (hu : E.und sT = some (.slice e)) (hux : E.und xT = some dx) (hdx : isIntD dx = false) (hi : E.inf e = some ii) (hz : ii.zero = some zv) (hs : ii.size = sz) (hs0 : sz ≠ 0) (hbt : ii.bytes = bt) (hm0 : m ≠ 0) (hf : FirstOk G.S H0 G.A0 A L sz m w new)
    (ho : (base = none ∧ sl = 0 ∧ old = []) ∨ ∃ N, base = some ⟨2 * N + 1, 0, none⟩ ∧ (N, AObj.cells old sz true) ∈ L ∧ old.length = sl * sz) (hbig : roomB (sl + m) bt = true) (hbig2 : sl + m ≤ 140737488355328) (hcs : old ++ new = cs') {k : Nat} (hk : sl + m = k)
    (h : ∀ M, SO E G (i + 1) r Q (fr n t ((d, .slice (some ⟨2 * M + 1, 0, none⟩) k k) :: l)) H0 A ((M, .cells cs' sz false) :: L)) : SO E G i (⟨some d, .call c, ty, ps, af, gd⟩ :: r) Q (fr n t l) H0 A L := by
  subst hs; subst hbt; subst hcs; subst hk
  refine so_push (f := fun N => .slice (some ⟨2 * N + 1, 0, none⟩) (sl + m) (sl + m)) hw rfl hdn hm (fun H hH => ?_) h
  have e1 : (Nat.beq ii.size 0 || ii.zero.isNone) = false := by
    rw [hz]; cases hq : ii.size with
    | zero => exact absurd hq hs0
    | succ k => rfl
  have e2 : Nat.beq m 0 = false := by cases m with | zero => exact absurd rfl hm0 | succ k => rfl
  have e3 : Nat.ble (sl + m) sl = false := by
    cases hq : Nat.ble (sl + m) sl with
    | false => rfl
    | true => have := Nat.le_of_ble_eq_true hq; omega
  have hlen := hf.2.1
  rcases ho with ⟨rfl, rfl, rfl⟩ | ⟨N, rfl, hmem, hol⟩
  · simp only [aop, hc, ha, ht, aappend, opv_ok hx, opv_ok hy, hu, hux, hdx, cond_false, hi, hf.1, e1, hf.2.2.1 H hH, e2]
    have e4 : (roomB (0 + m) ii.bytes && (Nat.ble (0 + m) 140737488355328 && (Nat.beq ([] : List Value).length (0 * ii.size) && Nat.beq new.length (m * ii.size)))) = true := by
      simp only [Bool.and_eq_true]
      exact ⟨hbig, Nat.ble_eq_true_of_le hbig2, by simp, by rw [hlen]; simp⟩
    simp only [show (Nat.beq 0 0 && Nat.beq 0 0) = true from rfl, cond_true, arealloc, afirst, show Nat.beq 0 0 = true from rfl, e4, newSlice, show nilTag e w ii.size = ii.size by (unfold nilTag; rw [hf.2.2.2]; rfl)]
    rfl
  · have hg : H.tr.get N = some (.cells old ii.size true) := (hH.own _ hmem).1
    have e5 : Nat.ble (old.length + 1) (0 + (sl + m) * ii.size) = true := by
      refine Nat.ble_eq_true_of_le ?_
      have : (sl + m) * ii.size = sl * ii.size + m * ii.size := Nat.add_mul ..
      have h1 : 1 ≤ m * ii.size := Nat.mul_pos (Nat.pos_of_ne_zero hm0) (Nat.pos_of_ne_zero hs0)
      omega
    have e6 : aloads H ⟨2 * N + 1, 0, none⟩ (sl * ii.size) = some old := by
      rw [aloads_own hg 0 _ none (by omega)]; simp [← hol]
    have e7 : afirst ii.size sl (.slice (some ⟨2 * N + 1, 0, none⟩) sl sl) H = some old := by simp only [afirst]; exact e6
    have e4 : (roomB (sl + m) ii.bytes && (Nat.ble (sl + m) 140737488355328 && (Nat.beq old.length (sl * ii.size) && Nat.beq new.length (m * ii.size)))) = true := by
      simp only [Bool.and_eq_true]
      exact ⟨hbig, Nat.ble_eq_true_of_le hbig2, by rw [hol]; simp, by rw [hlen]; simp⟩
    simp only [aop, hc, ha, ht, aappend, opv_ok hx, opv_ok hy, hu, hux, hdx, cond_false, hi, hf.1, e1, hf.2.2.1 H hH, e2, odd_mod, odd_div, hg, show szFits ii.size ii.size e = true by simp [szFits], cond_true, e3, e5, arealloc, e7, e4, newSlice]
/-- behind an own row that may have room: the row goes over -/
theorem so_appOwn {c : Call} {e sT xT : TypeId} {dx : TypeDesc} {ii : TI} {zv : Value} {N sl m sz bt : Nat} {w : Value} {old new cs' : List Value} (hw : gok G.ops l gd = true) (hdn : Nat.ble (d + 1) n = true) (hm : G.D = true → i ∈ G.ms) (hc : c.callee = .builtin .append) (ha : c.args.toList = [x, y]) (ht : c.argTypes.toList = [sT, xT])
    (hx : opv l x = some (.slice (some ⟨2 * N + 1, 0, none⟩) sl sl)) (hy : opv l y = some w) (hu : E.und sT = some (.slice e)) (hux : E.und xT = some dx) (hdx : isIntD dx = false) (hi : E.inf e = some ii) (hz : ii.zero = some zv) (hs : ii.size = sz) (hs0 : sz ≠ 0) (hbt : ii.bytes = bt) (hm0 : m ≠ 0) (hf : FirstOk G.S H0 G.A0 A L sz m w new)
    (hr : Rem N (.cells old sz false) L L') (hol : old.length = sl * sz) (h1 : allOne new = true) (hbig : roomB (sl + m) bt = true) (hbig2 : sl + m ≤ 140737488355328) (hcs : old ++ new = cs') (hD' : G.D = true → G.Lw.Sublist L') {k : Nat} (hk : sl + m = k)
    (h : ∀ M, SO E G (i + 1) r Q (fr n t ((d, .slice (some ⟨2 * M + 1, 0, none⟩) k k) :: l)) H0 A ((M, .cells cs' sz false) :: L')) : SO E G i (⟨some d, .call c, ty, ps, af, gd⟩ :: r) Q (fr n t l) H0 A L := by
  subst hs; subst hbt; subst hcs; subst hk
  refine so_any hw rfl hdn hm fun hD H hH => ?_
  have e1 : (Nat.beq ii.size 0 || ii.zero.isNone) = false := by
    rw [hz]; cases hq : ii.size with
    | zero => exact absurd hq hs0
    | succ k => rfl
  have e2 : Nat.beq m 0 = false := by cases m with | zero => exact absurd rfl hm0 | succ k => rfl
  have e3 : Nat.ble (sl + m) sl = false := by
    cases hq : Nat.ble (sl + m) sl with
    | false => rfl
    | true => have := Nat.le_of_ble_eq_true hq; omega
  have hg : H.tr.get N = some (.cells old ii.size false) := (hH.own _ hr.mem).1
  have hk := (hH.kill hr).push (.cells (old ++ new) ii.size false)
  refine ⟨_, _, H0, A, (H.nx, .cells (old ++ new) ii.size false) :: L', .inl ?_, hk, (hD.list hD').push _, h H.nx⟩
  have e4 : (Nat.beq (0 + sl * ii.size) old.length && (roomB (sl + m) ii.bytes && (Nat.ble (sl + m) 140737488355328 && (Nat.beq new.length (m * ii.size) && allOne new)))) = true := by
    simp only [Bool.and_eq_true]
    exact ⟨by rw [hol]; simp, hbig, Nat.ble_eq_true_of_le hbig2, by rw [hf.2.1]; simp, h1⟩
  simp only [aop, hc, ha, ht, aappend, opv_ok hx, opv_ok hy, hu, hux, hdx, cond_false, hi, hf.1, e1, hf.2.2.1 H hH, e2, odd_mod, odd_div, hg, show szFits ii.size ii.size e = true by simp [szFits], cond_true, e3, e4, newSlice, List.drop_zero]

theorem bin_slnil_t {ta e : TypeId} {a b a' b' : Nat} (hu : E.und ta = some (.slice e)) : abin E .eql ta (.slice none a b) (.slice none a' b') = some (.bool true) := by simp [abin, hu, eqAs]
theorem bin_slnil_f {ta e : TypeId} {p : Addr} {a b a' b' : Nat} (hu : E.und ta = some (.slice e)) : abin E .eql ta (.slice (some p) a b) (.slice none a' b') = some (.bool false) := by simp [abin, hu, eqAs]

/-! ### maps from texts -/
theorem so_lookup {ta : TypeId} {ok : Bool} {m : Value} {k : Value} (hw : gok G.ops l gd = true) (hdn : Nat.ble (d + 1) n = true) (hx : opv l x = some m) (hy : opv l y = some k) (hl : ∀ H, HS G.S (qH G H0) G.A0 (qA G A) (qL G L) H → alookup E ta m k ok H = some v)
    (h : SO E G (i + 1) r Q (fr n t ((d, v) :: l)) H0 A L) : SO E G i (⟨some d, .lookup ta x y ok, ty, ps, af, gd⟩ :: r) Q (fr n t l) H0 A L :=
  so_quiet rfl hw rfl hdn (fun H hH => by simp only [aop, opv_ok hx, opv_ok hy, alookup2, orE_left (hl H hH), pairUp]) h
theorem so_mapSet {ta kt et : TypeId} {N : Nat} {es es' : List (Value × Value × Nat)} {cl cl' : Nat} {k w : Value} {dk : TypeDesc} (hw : gok G.ops l gd = true) (hm : G.D = true → i ∈ G.ms) (hx : opv l x = some (.map (some (2 * N + 1)))) (hy : opv l y = some k) (hz : opv l z = some w) (hu : E.und ta = some (.map kt et)) (hk : E.und kt = some dk) (hki : akind dk k = true)
    (hu2 : Upd N (.map es cl) (.map es' cl') L L') (hf : (∃ j b, afind dk k es 0 = some (some (j, b)) ∧ es' = es.modify j (fun e => (k, w, e.2.2)) ∧ cl' = cl) ∨ (afind dk k es 0 = some none ∧ es' = es ++ [(k, w, cl)] ∧ cl' = cl + 1)) (hD : G.D = true → G.Lw.Sublist L')
    (h : SO E G (i + 1) r Q (fr n t l) H0 A L') : SO E G i (⟨none, .mapUpdate ta x y z, ty, ps, af, gd⟩ :: r) Q (fr n t l) H0 A L :=
  so_any0 hw rfl hm fun hDs H hH => by
    refine ⟨undef, _, H0, A, L', .inl ?_, hH.set hu2, hDs.list hD, h⟩
    have hg : H.tr.get N = some (.map es cl) := (hH.own _ hu2.mem).1
    rcases hf with ⟨j, b, h1, rfl, rfl⟩ | ⟨h1, rfl, rfl⟩
    · simp only [aop, opv_ok hx, opv_ok hy, opv_ok hz, amapUpdate2, orE, amapUpdate, hu, odd_mod, cond_false, hk, odd_div, hg, hki, cond_true, h1]
    · simp only [aop, opv_ok hx, opv_ok hy, opv_ok hz, amapUpdate2, orE, amapUpdate, hu, odd_mod, cond_false, hk, odd_div, hg, hki, cond_true, h1]
theorem so_freeze {N : Nat} {o : AObj} {ops : Array Oper} {Hw : AH} {Aw : Nat → Prop} {Lw : OL} {rest : List Oper} {f : Fr} (hr : Rem N o L L') (h : ∀ H1 A1, Gr A H0 A1 H1 → A1 N → H1.tr.get N = some o → SO E ⟨false, ops, [], S, A0, Hw, Aw, Lw⟩ i rest Q f H1 A1 L') : SO E ⟨false, ops, [], S, A0, Hw, Aw, Lw⟩ i rest Q f H0 A L := fun hD H hH =>
  h H _ ⟨fun _ h => .inl h, hH.base, hH.w0.symm⟩ (.inr rfl) (hH.own _ hr.mem).1 (fun hc => by cases hc) H (hH.freeze hr)
end

/-- a row like another, its own -/
def Cloned (A : Nat → Prop) (S : AH) (ks : List Kd) (l : List (List CT)) (u : Value) (H' : AH) (N0 : Nat) : Prop :=
  (u = .slice none 0 0 ∧ l = []) ∨ ∃ M cells ex, u = .slice (some ⟨2 * M + 1, 0, none⟩) l.length l.length ∧ H'.tr.get M = some (.cells cells ks.length ex) ∧ N0 ≤ M ∧ M < H'.nx ∧ cells.length = l.length * ks.length ∧ allOne cells = true ∧ ∀ (i : Nat) c, l[i]? = some c → CellsA A S ks ((cells.drop (i * ks.length)).take ks.length) c
theorem Cloned.cell {A : Nat → Prop} {S H' : AH} {b : Nat} {ks : List Kd} {l : List (List CT)} {u : Value} (h : Cloned A S ks l u H' S.nx) (hk : Kept S.nx S H') (hA : ∀ j, A j → j < S.nx) (h1 : l.length ≤ 140737488351232) (h2 : l.length * b ≤ 140737488351232) : CellA (fun j => A j ∨ (S.nx ≤ j ∧ j < H'.nx)) H' (.row b ks) u (.row l) := by
  rcases h with ⟨rfl, rfl⟩ | ⟨M, cells, ex, rfl, hg, hM, hM2, hl, _, hc⟩
  · simp only [CellA]
    exact ⟨by simp, by simp, .inl ⟨trivial, trivial⟩⟩
  · have g : Gr A S (fun j => A j ∨ (S.nx ≤ j ∧ j < H'.nx)) H' := ⟨fun j hj => .inl hj, fun j hj => hk.get j (hA j hj), hk.w0⟩
    exact row_own hg (.inr ⟨hM, hM2⟩) rfl rfl (by rw [hl]; exact Nat.le_refl _) (fun i c hi => CellsA.gr g _ _ _ (hc i c hi)) (Nat.le_refl _) h1 h2
theorem allOne_app {a b : List Value} (ha : allOne a = true) (hb : allOne b = true) : allOne (a ++ b) = true := by
  induction a with
  | nil => exact hb
  | cons v r ih => simp only [allOne, Bool.and_eq_true] at ha; simp only [List.cons_append, allOne, Bool.and_eq_true]; exact ⟨ha.1, ih ha.2⟩
theorem allOne_of {l : List Value} (h : ∀ v ∈ l, v.oneCell' = true) : allOne l = true := by
  induction l with
  | nil => rfl
  | cons v r ih => simp only [allOne, Bool.and_eq_true]; exact ⟨h v (List.mem_cons_self ..), ih fun u hu => h u (List.mem_cons_of_mem _ hu)⟩
theorem allOne_mem {l : List Value} (h : allOne l = true) : ∀ v ∈ l, v.oneCell' = true := by
  induction l with
  | nil => intro v hv; cases hv
  | cons u r ih =>
    simp only [allOne, Bool.and_eq_true] at h
    intro v hv
    rcases List.mem_cons.1 hv with rfl | hv
    · exact h.1
    · exact ih h.2 v hv
/-- cells in rows of one size -/
theorem rows_one {cells : List Value} {m sz : Nat} (hl : cells.length = m * sz) (hs : sz ≠ 0) (h : ∀ i, i < m → allOne ((cells.drop (i * sz)).take sz) = true) : allOne cells = true := by
  refine allOne_of fun v hv => ?_
  obtain ⟨j, hj, rfl⟩ := List.getElem_of_mem hv
  have hpos : 0 < sz := Nat.pos_of_ne_zero hs
  have hi : j / sz < m := by
    rw [Nat.div_lt_iff_lt_mul hpos, ← hl]; exact hj
  have := allOne_mem (h (j / sz) hi) cells[j]
  refine this (List.mem_of_getElem? (i := j % sz) ?_)
  rw [List.getElem?_take, if_pos (Nat.mod_lt _ hpos), List.getElem?_drop, Nat.mul_comm, Nat.div_add_mod]
  exact List.getElem?_eq_getElem hj

/-! ### structs but for some places -/
def PtsX (A : Nat → Prop) (H : AH) (ks : List Kd) (ex : Nat → Bool) (x : Nat → Value) (c : Nat → CT) : Prop := ∀ i k, ks[i]? = some k → ex i = false → CellA A H k (x i) (c i)
section
variable {A A' : Nat → Prop} {H H' : AH} {ks : List Kd} {ex : Nat → Bool} {x y : Nat → Value} {c : Nat → CT}
theorem Pts.toX (h : Pts A H ks x c) (ex : Nat → Bool) : PtsX A H ks ex x c := fun i k hk _ => h i k hk
theorem PtsX.gr (h : PtsX A H ks ex x c) (g : Gr A H A' H') : PtsX A' H' ks ex x c := fun i k hk he => CellA.gr g _ _ _ (h i k hk he)
theorem upd1_same (x : Nat → Value) (o : Nat) (v : Value) : upd1 x o v o = v := by simp [upd1]
theorem upd1_ne (x : Nat → Value) {o i : Nat} (v : Value) (h : i ≠ o) : upd1 x o v i = x i := by
  rw [upd1, show Nat.beq i o = false by (cases e : Nat.beq i o with | false => rfl | true => exact absurd (Nat.eq_of_beq_eq_true e) h)]; rfl
theorem PtsX.upd (h : PtsX A H ks ex x c) {o : Nat} {v : Value} (hv : ∀ k, ks[o]? = some k → CellA A H k v (c o)) : PtsX A H ks ex (upd1 x o v) c := fun i k hk he => by
  by_cases e : i = o
  · subst e; rw [upd1_same]; exact hv k hk
  · rw [upd1_ne x v e]; exact h i k hk he
theorem PtsX.updR (h : PtsX A H ks ex x c) {o : Nat} {v : Value} {k : Kd} (hk : ks[o]? = some k) (hv : CellA A H k v (c o)) : PtsX A H ks ex (upd1 x o v) c := h.upd fun k' hk' => by rw [hk] at hk'; cases hk'; exact hv
theorem PtsX.one (h : PtsX A H ks ex x c) {n : Nat} (hn : ks.length = n) (he : ∀ i, ex i = true → (x i).oneCell' = true) : allOne (cellsOf n x) = true := by
  refine allOne_of fun v hv => ?_
  simp only [cellsOf, List.mem_map, List.mem_range] at hv
  obtain ⟨i, hi, rfl⟩ := hv
  cases hx : ex i with
  | true => exact he i hx
  | false => exact (h i _ (List.getElem?_eq_getElem (by omega)) hx).one
theorem cellsOf_all {n : Nat} {x : Nat → Value} : ((cellsOf n x).drop 0).take n = cellsOf n x := by
  rw [List.drop_zero, List.take_of_length_le (by rw [cellsOf_length]; exact Nat.le_refl _)]
theorem cellsOf_store {n : Nat} {x : Nat → Value} {cs : List Value} (h : cs.length = n) : cs.take 0 ++ (cellsOf n x ++ cs.drop (0 + (cellsOf n x).length)) = cellsOf n x := store_all (by rw [cellsOf_length, h])
theorem PtsX.updE (h : PtsX A H ks ex x c) {o : Nat} {v : Value} (ho : ex o = true) : PtsX A H ks ex (upd1 x o v) c := fun i k hk he => by
  by_cases e : i = o
  · subst e; rw [ho] at he; cases he
  · rw [upd1_ne x v e]; exact h i k hk he
theorem updr_in (x : Nat → Value) {o m i : Nat} (y : Nat → Value) (h : o ≤ i ∧ i < o + m) : updr x o m y i = y (i - o) := by
  simp only [updr]
  rw [Nat.ble_eq_true_of_le h.1, show Nat.blt i (o + m) = true from Nat.ble_eq_true_of_le h.2]; rfl
theorem updr_out (x : Nat → Value) {o m i : Nat} (y : Nat → Value) (h : ¬ (o ≤ i ∧ i < o + m)) : updr x o m y i = x i := by
  simp only [updr]
  cases h1 : Nat.ble o i with
  | false => rfl
  | true =>
    cases h2 : Nat.blt i (o + m) with
    | false => rfl
    | true => exact absurd ⟨Nat.le_of_ble_eq_true h1, Nat.le_of_ble_eq_true h2⟩ h
theorem Pts.shift (h : Pts A H ks x c) (o m : Nat) : Pts A H ((ks.drop o).take m) (fun i => x (o + i)) (fun i => c (o + i)) := fun i k hk => by
  rw [List.getElem?_take] at hk
  split at hk
  · rw [List.getElem?_drop] at hk; exact h _ k hk
  · cases hk
theorem PtsX.setr {ex' : Nat → Bool} {o m : Nat} {ks' : List Kd} (h : PtsX A H ks ex x c) (h' : PtsX A H ks' ex' y (fun i => c (o + i))) (hk : ks' = (ks.drop o).take m) {ex2 : Nat → Bool} (he : ∀ i, ex2 i = false → (¬ (o ≤ i ∧ i < o + m) → ex i = false) ∧ ((o ≤ i ∧ i < o + m) → ex' (i - o) = false)) : PtsX A H ks ex2 (updr x o m y) c := fun i k hki hei => by
  by_cases hin : o ≤ i ∧ i < o + m
  · rw [updr_in x y hin]
    have e : o + (i - o) = i := by omega
    have := h' (i - o) k (by rw [hk, List.getElem?_take, if_pos (by omega), List.getElem?_drop, e]; exact hki) ((he i hei).2 hin)
    simp only [e] at this; exact this
  · rw [updr_out x y hin]; exact h i k hki ((he i hei).1 hin)
theorem PtsX.weaken {ex2 : Nat → Bool} (h : PtsX A H ks ex x c) (he : ∀ i, ex2 i = false → ex i = false) : PtsX A H ks ex2 x c := fun i k hk h2 => h i k hk (he i h2)
theorem PtsX.back {e : Nat} {ex2 : Nat → Bool} (h : PtsX A H ks ex x c) {k : Kd} (hk : ks[e]? = some k) (hv : CellA A H k (x e) (c e)) (he : ∀ i, ex2 i = false → i ≠ e → ex i = false) : PtsX A H ks ex2 x c := fun i k' hk' h2 => by
  by_cases hi : i = e
  · subst hi; rw [hk] at hk'; cases hk'; exact hv
  · exact h i k' hk' (he i h2 hi)
end
end Go.AM
