/-
  An abstract machine that runs a program of the given form, and its soundness, part 4.
-/
import Derived.Test.YteklajiaicmogaaGreatDoorA3
set_option linter.unusedVariables false
set_option linter.unusedSimpArgs false
noncomputable section
namespace Go.AM
open Go.RowKit
section
variable {P : Program} {E : Env P} {G : RG} {i n d : Nat} {r : List Oper} {Q : Fr → AH → Prop} {t : Tr Value} {l : List (Nat × Value)} {H0 : AH} {A : Nat → Prop} {L L' : OL} {v : Value}
 {ty : TypeId} {ps : String} {af : Array Edge} {gd : Option (Nat × Bool)} {x y : Operand}
theorem aWd {ii : TI} {zv : Value} (hz : ii.zero = some zv) : (Nat.beq 1 0 || ii.zero.isNone) = false := by rw [hz]; rfl
theorem aUo {a b : Nat} (h : b ≠ 0) : Nat.ble (a + b) a = false := by
 cases hq : Nat.ble (a + b) a with
 | false => rfl
 | true => have := Nat.le_of_ble_eq_true hq; omega
theorem aIf {c : Call} {sT xT : TypeId} {ii : TI} {zv : Value} {N sl k : Nat} {s : ByteArray} {old : List Value} (hw : gok G.ops l gd = true) (hdn : Nat.ble (d + 1) n = true) (hm : G.D = true → i ∈ G.ms) (hc : c.callee = .builtin .append) (ha : c.args.toList = [x, y]) (ht : c.argTypes.toList = [sT, xT])
 (hx : opv l x = some (.slice (some ⟨2 * N + 1, 0, none⟩) sl sl)) (hy : opv l y = some (.string s)) (hu : E.und sT = some (.slice 5)) (hux : E.und xT = some .string) (hi : E.inf 5 = some ii) (hz : ii.zero = some zv) (hs : ii.size = 1) (hbt : ii.bytes = 1) (h0 : s.data.toList ≠ [])
 (hr : Rem N (.cells old (dQ + 5) false) L L') (hol : old.length = sl) (hbig : sl + s.data.toList.length ≤ 140737488355328) (hD' : G.D = true → G.Lw.Sublist L') (hk : sl + s.data.toList.length = k)
 (h : ∀ M, SO E G (i + 1) r Q (fr n t ((d, .slice (some ⟨2 * M + 1, 0, none⟩) k k) :: l)) H0 A ((M, .cells (old ++ s.data.toList.map eN) (dQ + 5) false) :: L')) : SO E G i (⟨some d, .call c, ty, ps, af, gd⟩ :: r) Q (fr n t l) H0 A L := by
 subst hk
 refine lQ hw rfl hdn hm fun hD H hH => ?_
 have hm0 : s.data.toList.length ≠ 0 := fun e => h0 (List.eq_nil_of_length_eq_zero e)
 have e1 := aWd hz
 have e2 : Nat.beq s.data.toList.length 0 = false := by cases hq : s.data.toList.length with | zero => exact absurd hq hm0 | succ k => rfl
 have e3 := aUo (a := sl) hm0
 have hg : H.tr.get N = some (.cells old (dQ + 5) false) := (hH.own _ hr.mem).1
 have hk := (hH.kill hr).push (.cells (old ++ s.data.toList.map eN) (dQ + 5) false)
 refine ⟨_, _, H0, A, (H.nx, .cells (old ++ s.data.toList.map eN) (dQ + 5) false) :: L', .inl ?_, hk, (hD.list hD').push _, h H.nx⟩
 have e4 : (Nat.beq (0 + sl * 1) old.length && (nG (sl + s.data.toList.length) 1 && (Nat.ble (sl + s.data.toList.length) 140737488355328 && (Nat.beq (s.data.toList.map eN).length (s.data.toList.length * 1) && eF (s.data.toList.map eN))))) = true := by
  simp only [Bool.and_eq_true]
  exact ⟨by rw [hol]; simp, pL (by omega), Nat.ble_eq_true_of_le hbig, by simp, aDx _⟩
 have e5 : iH 1 s.data.toList.length (.string s) H = some (s.data.toList.map eN) := (aCe rfl rfl H).2.2
 simp only [aop, hc, ha, ht, mE, cG hx, cG hy, hu, hux, lL, cond_false, hi, mK, hs, e1, hbt, e5, e2, mW, lO, hg, show pW (dQ + 5) 1 5 = true by rfl, cond_true, e3, e4, iA, List.drop_zero]
theorem aJd {c : Call} {sT xT : TypeId} {ii : TI} {zv : Value} {k : Nat} {s : ByteArray} (hw : gok G.ops l gd = true) (hdn : Nat.ble (d + 1) n = true) (hm : G.D = true → i ∈ G.ms) (hc : c.callee = .builtin .append) (ha : c.args.toList = [x, y]) (ht : c.argTypes.toList = [sT, xT])
 (hx : opv l x = some (.slice none 0 0)) (hy : opv l y = some (.string s)) (hu : E.und sT = some (.slice 5)) (hux : E.und xT = some .string) (hi : E.inf 5 = some ii) (hz : ii.zero = some zv) (hs : ii.size = 1) (hbt : ii.bytes = 1) (h0 : s.data.toList ≠ [])
 (hbig : s.data.toList.length ≤ 140737488355328) (hk : s.data.toList.length = k)
 (h : ∀ M, SO E G (i + 1) r Q (fr n t ((d, .slice (some ⟨2 * M + 1, 0, none⟩) k k) :: l)) H0 A ((M, .cells (s.data.toList.map eN) (dQ + 5) false) :: L)) : SO E G i (⟨some d, .call c, ty, ps, af, gd⟩ :: r) Q (fr n t l) H0 A L := by
 subst hk
 refine wL (f := fun N => .slice (some ⟨2 * N + 1, 0, none⟩) s.data.toList.length s.data.toList.length) hw rfl hdn hm (fun H hH => ?_) h
 have hm0 : s.data.toList.length ≠ 0 := fun e => h0 (List.eq_nil_of_length_eq_zero e)
 have e1 := aWd hz
 have e2 : Nat.beq s.data.toList.length 0 = false := by cases hq : s.data.toList.length with | zero => exact absurd hq hm0 | succ k => rfl
 have e5 : iH 1 s.data.toList.length (.string s) H = some (s.data.toList.map eN) := (aCe rfl rfl H).2.2
 have e4 : (nG s.data.toList.length 1 && (Nat.ble s.data.toList.length 140737488355328 && (Nat.beq ([] : List Value).length (0 * 1) && Nat.beq (s.data.toList.map eN).length (s.data.toList.length * 1)))) = true := by
  simp only [Bool.and_eq_true]
  exact ⟨pL (by omega), Nat.ble_eq_true_of_le (by omega), by simp, by simp⟩
 simp only [aop, hc, ha, ht, mE, cG hx, cG hy, hu, hux, lL, cond_false, hi, mK, hs, e1, hbt, e5, e2, show (Nat.beq 0 0 && Nat.beq 0 0) = true from rfl, cond_true, iO, show iH 1 0 (.slice none 0 0) H = some [] from rfl, show tT 5 (.string s) 1 = dQ + 5 from rfl, e4, iA, Nat.zero_add, List.nil_append]
theorem aDi {c : Call} {a : Addr} {m k : Nat} (hw : gok G.ops l gd = true) (hdn : Nat.ble (d + 1) n = true) (hm : G.D = true → i ∈ G.ms) (hc : c.callee = .builtin .unsafeSliceData) (ha : c.args.toList = [x]) (hx : opv l x = some (.slice (some a) m k)) (hk : k ≠ 0)
 (h : SO E G (i + 1) r Q (fr n t ((d, .pointer (some a)) :: l)) H0 A L) : SO E G i (⟨some d, .call c, ty, ps, af, gd⟩ :: r) Q (fr n t l) H0 A L :=
 lQ hw rfl hdn hm fun hD H hH => by
  refine ⟨_, H, H0, A, L, .inl ?_, hH, hD, h⟩
  have e : Nat.beq k 0 = false := by cases k with | zero => exact absurd rfl hk | succ k => rfl
  simp only [aop, hc, ha, cG hx, qE, e, cond_false, dL]
theorem aIe {c : Call} {pt it : TypeId} {ii : TI} {N m : Nat} {bs : List UInt8} {ex : Bool} (hw : gok G.ops l gd = true) (hdn : Nat.ble (d + 1) n = true) (hm : G.D = true → i ∈ G.ms) (hc : c.callee = .builtin .unsafeString) (ha : c.args.toList = [x, y]) (ht : c.argTypes.toList = [pt, it])
 (hx : opv l x = some (.pointer (some ⟨2 * N + 1, 0, none⟩))) (hy : opv l y = some (.int .i64 ((m : Nat) : Int))) (hp : E.und pt = some (.pointer 5)) (hi : E.inf 5 = some ii) (hs : ii.size = 1) (h0 : m ≠ 0) (hbig : m ≤ 1099511627776)
 (hr : Rem N (.cells (bs.map eN) (dQ + 5) ex) L L') (hl : bs.length = m) (hD' : G.D = true → G.Lw.Sublist L')
 (h : SO E G (i + 1) r Q (fr n t ((d, .string ⟨⟨bs⟩⟩) :: l)) H0 A L') : SO E G i (⟨some d, .call c, ty, ps, af, gd⟩ :: r) Q (fr n t l) H0 A L :=
 lQ hw rfl hdn hm fun hD H hH => by
  have hg := (hH.own _ hr.mem).1
  refine ⟨_, _, H0, A, L', .inl ?_, hH.kill hr, hD.list hD', h⟩
  have e0 : (((m : Nat) : Int) == 0) = false := by simp; omega
  have e1 : ((Nat.beq 5 5 && Nat.beq ii.size 1) && (Nat.beq (dQ + 5) (5 + dQ) && (decide (0 ≤ ((m : Nat) : Int)) && Nat.ble ((m : Nat) : Int).toNat 1099511627776))) = true := by
   simp only [Bool.and_eq_true, decide_eq_true_eq]
   exact ⟨⟨rfl, by rw [hs]; rfl⟩, by rfl, by omega, Nat.ble_eq_true_of_le (by simpa using hbig)⟩
  have e2 : aloads H ⟨2 * N + 1, 0, none⟩ ((m : Nat) : Int).toNat = some (bs.map eN) := by
   rw [Int.toNat_natCast, mD hg 0 m none (by simp [hl]), List.drop_zero, List.take_of_length_le (by simp [hl])]
  simp only [aop, hc, ha, ht, cG hx, cG hy, pD, e0, cond_false, mW, hp, hi, lO, hg, e1, cond_true, e2, kG]
end
section
variable {P : Program} {E : Env P} {G : RG} {i n d : Nat} {r : List Oper} {Q : Fr → AH → Prop} {t : Tr Value} {l : List (Nat × Value)} {H0 : AH} {A : Nat → Prop} {L L' : OL} {v : Value}
 {ty : TypeId} {ps : String} {af : Array Edge} {gd : Option (Nat × Bool)} {x y : Operand}
theorem aHh {sT dT u : TypeId} {ii : TI} {N sz k : Nat} {cs : List Value} {ex : Bool} (hw : gok G.ops l gd = true) (hdn : Nat.ble (d + 1) n = true) (hm : G.D = true → i ∈ G.ms) (hx : opv l x = some (.pointer (some ⟨2 * N + 1, 0, none⟩))) (hs : E.und sT = some (.pointer u)) (hd : E.und dT = some .unsafePointer) (hi : E.inf u = some ii) (hz : ii.size = k + 1)
 (hmem : (N, AObj.cells cs sz ex) ∈ L) (hl : 0 < cs.length) (h : SO E G (i + 1) r Q (fr n t ((d, .pointer (some ⟨2 * N + 1, 0, none⟩)) :: l)) H0 A L) : SO E G i (⟨some d, .convert sT dT x, ty, ps, af, gd⟩ :: r) Q (fr n t l) H0 A L :=
 lQ hw rfl hdn hm fun hD H hH => by
  refine ⟨_, H, H0, A, L, .inl ?_, hH, hD, h⟩
  have hg := (hH.own _ hmem).1
  have e : Nat.blt 0 cs.length = true := by simp only [Nat.blt, Nat.ble_eq]; omega
  simp only [aop, cG hx, qO, hs, hd, mW, lO, hg, hi, hz, show Nat.beq 1 0 = false from rfl, show Nat.beq (k + 1) 0 = false from rfl, cond_false, e, cond_true]
theorem aBr {sT dT u : TypeId} {ii : TI} {N k : Nat} {cs : List Value} (hw : gok G.ops l gd = true) (hdn : Nat.ble (d + 1) n = true) (hm : G.D = true → i ∈ G.ms) (hx : opv l x = some (.pointer (some ⟨2 * N + 1, 0, none⟩))) (hs : E.und sT = some .unsafePointer) (hd : E.und dT = some (.pointer u)) (hi : E.inf u = some ii) (hz : ii.size = k + 1)
 (hmem : (N, AObj.cells cs (u + dQ) true) ∈ L) (hu : Nat.blt 5 u = true) (hl : cs.length = k + 1) (h : SO E G (i + 1) r Q (fr n t ((d, .pointer (some ⟨2 * N + 1, 0, none⟩)) :: l)) H0 A L) : SO E G i (⟨some d, .convert sT dT x, ty, ps, af, gd⟩ :: r) Q (fr n t l) H0 A L :=
 lQ hw rfl hdn hm fun hD H hH => by
  refine ⟨_, H, H0, A, L, .inl ?_, hH, hD, h⟩
  have hg := (hH.own _ hmem).1
  have e : (Nat.beq (u + dQ) (u + dQ) && (Nat.blt 5 u && (Nat.beq 0 0 && Nat.beq cs.length ii.size))) = true := by
   simp only [Bool.and_eq_true]
   exact ⟨by simp, hu, rfl, by rw [hl, hz]; simp⟩
  simp only [aop, cG hx, qO, hs, hd, mW, lO, hg, hi, show Nat.beq 1 0 = false from rfl, cond_false, e, cond_true]
  simp only [hz, show Nat.beq (k + 1) 0 = false from rfl, cond_false]
theorem aLu {c : Call} {g : FuncId} {vs : List Value} (hw : gok G.ops l gd = true) (hdn : Nat.ble (d + 1) n = true) (hm : G.D = true → i ∈ G.ms) (hc : c.callee = .value (.func g)) (ha : Opvs l c.args.toList vs) (he : aUt P g vs = some v)
 (h : SO E G (i + 1) r Q (fr n t ((d, v) :: l)) H0 A L) : SO E G i (⟨some d, .call c, ty, ps, af, gd⟩ :: r) Q (fr n t l) H0 A L :=
 lQ hw rfl hdn hm fun hD H hH => by
  refine ⟨_, H, H0, A, L, .inl ?_, hH, hD, h⟩
  simp only [aop, hc, pF, ha.ok, he, dL]
theorem aJc {t e : TypeId} {ii : TI} {k N o : Nat} {op : BinOp} {b : Bool} (hu : E.und t = some (.pointer e)) (hi : E.inf e = some ii) (hz : ii.size = k + 1) (ho : jE op true = some (.bool b)) : dM E op t (.pointer (some ⟨N, o, none⟩)) (.pointer (some ⟨N, o, none⟩)) = some (.bool b) := by
 have e1 : (!(Nat.beq ii.size 0) && wU ⟨N, o, none⟩ ⟨N, o, none⟩) = true := by
  rw [hz]; simp [wU]; rfl
 simp only [dM, hu, hi, e1, cond_true, ho]
end
def bld (T N M : Nat) : List UInt8 → OL
 | [] => [(N, .cells [.pointer none, .slice none 0 0] (T + dQ) true)]
 | b :: bs => [(N, .cells [.pointer (some ⟨2 * N + 1, 0, none⟩), .slice (some ⟨2 * M + 1, 0, none⟩) (b :: bs).length (b :: bs).length] (T + dQ) true), (M, .cells ((b :: bs).map eN) (dQ + 5) false)]
theorem zP {T N M : Nat} {bs : List UInt8} (h : bs ≠ []) : bld T N M bs = [(N, .cells [.pointer (some ⟨2 * N + 1, 0, none⟩), .slice (some ⟨2 * M + 1, 0, none⟩) bs.length bs.length] (T + dQ) true), (M, .cells (bs.map eN) (dQ + 5) false)] := by
 cases bs with
 | nil => exact absurd rfl h
 | cons b bs => rfl
theorem gO {l1 L0 : OL} {x : Nat × AObj} : (l1 ++ L0).Sublist (l1 ++ (x :: L0)) := List.Sublist.append_left (List.sublist_cons_self ..) _
theorem aKi {S : AH} {N : Nat} {o : AObj} (h : S.tr.get N = some o) (hl : N < S.nx) : ∀ p ∈ [(N, o)], S.tr.get p.1 = some p.2 ∧ p.1 < S.nx := fun p hp => by
 rw [List.mem_singleton] at hp
 subst hp
 exact ⟨h, hl⟩
theorem aVd {S : AH} {N M : Nat} {o u : AObj} (h : S.tr.get N = some o) (hl : N < S.nx) (k : S.tr.get M = some u) (kl : M < S.nx) : ∀ p ∈ [(N, o), (M, u)], S.tr.get p.1 = some p.2 ∧ p.1 < S.nx := fun p hp => by
 rcases List.mem_cons.1 hp with rfl | hp
 ·exact ⟨h, hl⟩
 ·exact aKi k kl p hp
theorem pw2 {N M : Nat} {o u : AObj} (h : N ≠ M) : [(N, o), (M, u)].Pairwise (fun p q => p.1 ≠ q.1) := List.Pairwise.cons (fun q hq => by rw [List.mem_singleton] at hq; subst hq; exact h) (List.pairwise_singleton _ _)
theorem Takes.app {T L0 : OL} : Takes T (T ++ L0) L0 := by
 induction T with
 | nil => exact .nil
 | cons p r ih => obtain ⟨N, o⟩ := p; exact .cons .zero ih
theorem Takes.skip {T L L0 : OL} (h : Takes T L L0) (x : Nat × AObj) : Takes T (x :: L) (x :: L0) := by
 induction h with
 | nil => exact .nil
 | cons h _ ih => exact .cons (.succ h) ih
theorem Takes.self {T : OL} : Takes T T [] := by
 have := Takes.app (T := T) (L0 := [])
 rwa [List.append_nil] at this
end Go.AM
namespace Go.AM
open Go.RowKit
section
variable {P : Program} {E : Env P} {G : RG} {i n d : Nat} {r : List Oper} {Q : Fr → AH → Prop} {t : Tr Value} {l : List (Nat × Value)} {H0 : AH} {A : Nat → Prop} {L : OL} {x y : Operand}
 {ty : TypeId} {ps : String} {af : Array Edge} {gd : Option (Nat × Bool)}
theorem aDa {kk : IntKind} {m j : Nat} {e : TypeId} {ii : TI} {ta : TypeId} {cs : List Value} {u : Value} (hw : gok G.ops l gd = true) (hdn : Nat.ble (d + 1) n = true) (hx : opv l x = some (.agg ⟨cs⟩)) (hy : opv l y = some (.int kk ((j : Nat) : Int))) (hu : E.und ta = some (.array m e)) (hi : E.inf e = some ii)
 (hj : j < m) (hp : apart E e cs (j * ii.size) = some u) (h : SO E G (i + 1) r Q (fr n t ((d, u) :: l)) H0 A L) : SO E G i (⟨some d, .index ta x y, ty, ps, af, gd⟩ :: r) Q (fr n t l) H0 A L :=
 eT hw rfl hdn rfl (fun H => by
  have : oQ (.int kk ((j : Nat) : Int)) m = some j := by simp only [oQ]; rw [if_pos ⟨by omega, by omega⟩]; simp
  simp only [aop, cG hx, cG hy, aAm, hu, hi, this, dL, hp]) h
end
end Go.AM
namespace Go.AM
open Go.RowKit
def fK (M sz : Nat) (cs : List Value) : Nat → OL
 | 0 => []
 | _ + 1 => [(M, .cells cs sz false)]
def gsl (M : Nat) : Nat → Value
 | 0 => .slice none 0 0
 | k + 1 => .slice (some ⟨2 * M + 1, 0, none⟩) (k + 1) (k + 1)
theorem qF (M k : Nat) : (gsl M k).oneCell' = true := by cases k <;> rfl
theorem aDc (M k : Nat) : ∃ a, gsl M k = .slice a k k := by cases k <;> exact ⟨_, rfl⟩
theorem Takes.nil' {L L' : OL} (h : Takes [] L L') : L' = L := by cases h; rfl
theorem Takes.one {N : Nat} {o : AObj} {L L' : OL} (h : Takes [(N, o)] L L') : Rem N o L L' := by
 cases h with
 | cons h k => rw [← k.nil'] at h; exact h
section
variable {P : Program} {E : Env P} {G : RG} {i n d : Nat} {r : List Oper} {Q : Fr → AH → Prop} {t : Tr Value} {l : List (Nat × Value)} {S H0 H H1 : AH} {A0 A A1 : Nat → Prop} {L L' Li Lo : OL} {v u : Value}
 {ty : TypeId} {ps : String} {af : Array Edge} {gd : Option (Nat × Bool)} {x y z : Operand}
theorem aTu {c : Call} {e sT xT : TypeId} {dx : TypeDesc} {ii : TI} {zv : Value} {M k sz bt : Nat} {w : Value} {cells new cs' : List Value} (hw : gok G.ops l gd = true) (hdn : Nat.ble (d + 1) n = true) (hm : G.D = true → i ∈ G.ms) (hc : c.callee = .builtin .append) (ha : c.args.toList = [x, y]) (ht : c.argTypes.toList = [sT, xT])
 (hx : opv l x = some (gsl M k)) (hy : opv l y = some w) (hu : E.und sT = some (.slice e)) (hux : E.und xT = some dx) (hdx : lL dx = false) (hi : E.inf e = some ii) (hz : ii.zero = some zv) (hs : ii.size = sz) (hs0 : sz ≠ 0) (hbt : ii.bytes = bt) (hf : vE G.S H0 G.A0 A L sz 1 w new)
 (hr : Takes (fK M sz cells k) L L') (hol : cells.length = k * sz) (h1 : eF new = true) (hbig : (k + 1) * bt ≤ 140737488351232) (hbig2 : k + 1 ≤ 140737488351232) (hcs : cells ++ new = cs') (hD' : G.D = true → G.Lw.Sublist L')
 (h : ∀ M, SO E G (i + 1) r Q (fr n t ((d, gsl M (k + 1)) :: l)) H0 A (fK M sz cs' (k + 1) ++ L')) : SO E G i (⟨some d, .call c, ty, ps, af, gd⟩ :: r) Q (fr n t l) H0 A L := by
 cases k with
 | zero =>
  obtain rfl := hr.nil'
  obtain rfl : cells = [] := List.eq_nil_of_length_eq_zero (by rw [hol]; simp)
  exact wV (m := 1) (base := none) (sl := 0) (old := []) hw hdn hm hc ha ht hx hy hu hux hdx hi hz hs hs0 hbt (by decide) hf (.inl ⟨rfl, rfl, rfl⟩) (pL (by omega)) (by omega) hcs rfl h
 | succ k =>
  exact wT (m := 1) hw hdn hm hc ha ht hx hy hu hux hdx hi hz hs hs0 hbt (by decide) hf hr.one hol h1 (pL (by omega)) (by omega) hcs hD' rfl h
theorem Takes.end' {T : OL} : ∀ {L1 : OL}, Takes T (L1 ++ T) L1
 | [] => Takes.self
 | x :: L1 => (Takes.end' (L1 := L1)).skip x
theorem iW {L1 : OL} {c : Call} {e sT xT : TypeId} {dx : TypeDesc} {ii : TI} {zv : Value} {M k sz bt : Nat} {w : Value} {cells new cs' : List Value} (hw : gok G.ops l gd = true) (hdn : Nat.ble (d + 1) n = true) (hm : G.D = true → i ∈ G.ms) (hc : c.callee = .builtin .append) (ha : c.args.toList = [x, y]) (ht : c.argTypes.toList = [sT, xT])
 (hx : opv l x = some (gsl M k)) (hy : opv l y = some w) (hu : E.und sT = some (.slice e)) (hux : E.und xT = some dx) (hdx : lL dx = false) (hi : E.inf e = some ii) (hz : ii.zero = some zv) (hs : ii.size = sz) (hs0 : sz ≠ 0) (hbt : ii.bytes = bt) (hf : vE G.S H0 G.A0 A (L1 ++ fK M sz cells k) sz 1 w new)
 (hol : cells.length = k * sz) (h1 : eF new = true) (hbig : (k + 1) * bt ≤ 140737488351232) (hbig2 : k + 1 ≤ 140737488351232) (hcs : cells ++ new = cs') (hD' : G.D = true → G.Lw.Sublist L1)
 (h : ∀ M, SO E G (i + 1) r Q (fr n t ((d, gsl M (k + 1)) :: l)) H0 A (L1 ++ fK M sz cs' (k + 1))) : SO E G i (⟨some d, .call c, ty, ps, af, gd⟩ :: r) Q (fr n t l) H0 A (L1 ++ fK M sz cells k) :=
 aTu hw hdn hm hc ha ht hx hy hu hux hdx hi hz hs hs0 hbt hf Takes.end' hol h1 hbig hbig2 hcs hD' fun M2 => aEf List.perm_append_comm (fun hD => (hD' hD).trans (List.sublist_append_left _ _)) (h M2)
theorem jZ {c : Call} {ta e : TypeId} {M k : Nat} (hw : gok G.ops l gd = true) (hdn : Nat.ble (d + 1) n = true) (hc : c.callee = .builtin .len) (ha : c.args.toList = [x]) (ht : c.argTypes.toList = [ta]) (hx : opv l x = some (gsl M k)) (hu : E.und ta = some (.slice e))
 (h : SO E G (i + 1) r Q (fr n t ((d, .int .i64 ((k : Nat) : Int)) :: l)) H0 A L) : SO E G i (⟨some d, .call c, ty, ps, af, gd⟩ :: r) Q (fr n t l) H0 A L := by
 obtain ⟨a, e⟩ := aDc M k
 rw [e] at hx
 exact aKc hw hdn hc ha ht hx hu h
theorem aGy {M sz k : Nat} {cs : List Value} (h : 0 < k) : (M, AObj.cells cs sz false) ∈ fK M sz cs k := by
 cases k with
 | zero => omega
 | succ k => exact List.Mem.head _
theorem aCf {kk : IntKind} {M k j s o' : Nat} {e : TypeId} {ii : TI} {ta : TypeId} (hw : gok G.ops l gd = true) (hdn : Nat.ble (d + 1) n = true) (hx : opv l x = some (gsl M k)) (hy : opv l y = some (.int kk ((j : Nat) : Int))) (hu : E.und ta = some (.slice e)) (hi : E.inf e = some ii) (hs : ii.size = s) (hj : j < k) (ho : 0 + j * s = o')
 (h : SO E G (i + 1) r Q (fr n t ((d, .pointer (some ⟨2 * M + 1, o', none⟩)) :: l)) H0 A L) : SO E G i (⟨some d, .indexAddr ta x y, ty, ps, af, gd⟩ :: r) Q (fr n t l) H0 A L := by
 cases k with
 | zero => omega
 | succ k => exact dP hw hdn hx hy hu hi hs hj ho h
theorem aSc {T L1 L2 : OL} : (T ++ (L1 ++ L2)).Perm (L1 ++ (T ++ L2)) := by
 rw [← List.append_assoc, ← List.append_assoc]
 exact List.Perm.append_right _ List.perm_append_comm
theorem pC {T L2 : OL} {x : Nat × AObj} : (T ++ (x :: L2)).Perm (x :: (T ++ L2)) := List.perm_middle
theorem sJ {ta : TypeId} {k : IntKind} {a b : Int} : dM E .eql ta (.int k a) (.int k b) = some (.bool (a == b)) := by
 by_cases h : a = b
 ·subst h; simp [dM, eQ]
 ·simp [dM, eQ, h]
def nw (S : AH) (A : Nat → Prop) : Nat → Prop := fun j => A j ∧ S.nx ≤ j
def nu (S H : AH) (Lo : OL) : Nat → Prop := fun j => S.nx ≤ j ∧ j < H.nx ∧ ¬ ids Lo j
theorem Gr.nw (g : Gr A H0 A1 H1) : Gr (nw S A) H0 (nw S A1) H1 := ⟨fun j h => ⟨g.sub j h.1, h.2⟩, fun j h => g.get j h.1, g.w0⟩
theorem HS.nxT (h : HS (rJ S) H0 A0 A L H) (g : Gr (fY S Li) S A H0) (hin : ∀ j, ids Li j → ids L j) : S.nx ≤ H.nx := by
 rcases Nat.lt_or_ge H.nx S.nx with hl | hl
 ·exfalso
  by_cases e : ids Li H.nx
  ·obtain ⟨p, hp, e⟩ := hin _ e
   have := (h.own p hp).2.2.1
   omega
  ·exact absurd (h.lt _ (g.sub _ ⟨hl, e⟩)) (Nat.lt_irrefl _)
 ·exact hl
theorem vX (hl : S.nx ≤ H.nx) : Gr (nu H H1 Lo) H1 (nw S (frs A H H1 Lo)) H1 := ⟨fun j h => ⟨.inr h, Nat.le_trans hl h.1⟩, fun _ _ => rfl, rfl⟩
theorem aWw : Gr (nu H H1 Lo) H1 (frs A H H1 Lo) H1 := ⟨fun j h => .inr h, fun _ _ => rfl, rfl⟩
theorem HS.give (h : HS (rJ S) H1 A0 A1 Lo H) : Gr (nw S A1) H1 (nu S H Lo) H := ⟨fun j hj => ⟨hj.2, h.lt j hj.1, fun ⟨p, hp, e⟩ => (h.own p hp).2.2.2 (e ▸ hj.1)⟩, fun j hj => h.base j hj.1, h.w0.symm⟩
theorem HS.giveN (h : HS (rJ S) H1 A0 A1 L H) (g : Gr (fY S Li) S A1 H1) {N : Nat} {o : AObj} (hr : Rem N o L Lo) (hin : ∀ j, ids Li j → ids Lo j) : nu S H Lo N ∧ H.tr.get N = some o := by
 have hne := hr.ne h.dist
 have hn : ¬ ids Lo N := fun ⟨p, hp, e⟩ => hne p hp e
 exact ⟨⟨h.newT g hr.mem (fun e => hn (hin _ e)), (h.own _ hr.mem).2.2.1, hn⟩, (h.own _ hr.mem).1⟩
theorem aIo {c : Code} {K : AQ} {f : Fr} {N : Nat} {o : AObj} (hr : Rem N o L L') (g : Gr (fY S Li) S A H0) (hin : ∀ j, ids Li j → ids L' j) (h : ∀ H1 A1, Gr A H0 A1 H1 → nw S A1 N → H1.tr.get N = some o → SX P c K f (rJ S) A0 H1 A1 L') : SX P c K f (rJ S) A0 H0 A L := fun H hH => by
 obtain ⟨q, hg⟩ := hH.giveN g hr hin
 exact h H _ ⟨fun _ h => .inl h, hH.base, hH.w0.symm⟩ ⟨.inr rfl, q.1⟩ hg H (hH.freeze hr)
theorem sF {c : Code} {K : AQ} {f : Fr} {M k sz b : Nat} {cells : List Value} {ks : List Kd} {rows : List (List CT)} (hr : Takes (fK M sz cells k) L L') (g : Gr (fY S Li) S A H0) (hin : ∀ j, ids Li j → ids L' j) (hks : ks.length = sz) (hk : k = rows.length) (hlen : cells.length = k * sz)
 (hc : ∀ (j : Nat) d, rows[j]? = some d → CellsA (nw S A) H0 ks ((cells.drop (j * sz)).take sz) d) (h1 : rows.length ≤ 140737488351232) (h2 : rows.length * b ≤ 140737488351232)
 (h : ∀ H1 A1, Gr A H0 A1 H1 → CellA (nw S A1) H1 (.row b ks) (gsl M k) (.row rows) → SX P c K f (rJ S) A0 H1 A1 L') : SX P c K f (rJ S) A0 H0 A L := by
 cases k with
 | zero =>
  obtain rfl := hr.nil'
  obtain rfl : rows = [] := List.eq_nil_of_length_eq_zero hk.symm
  refine h H0 A (Gr.refl _ _) ?_
  simp only [CellA]
  exact ⟨h1, h2, .inl (by simp [gsl])⟩
 | succ k =>
  refine aIo hr.one g hin fun H1 A1 g1 hN hg => h H1 A1 g1 ?_
  exact wC hg hN hks hk (by rw [hlen, ← hk]; exact Nat.le_refl _) (fun j d hj => (hc j d hj).gr g1.nw) (by omega) h1 h2
theorem HS.giveG {M k sz b : Nat} {cells : List Value} {ks : List Kd} {rows : List (List CT)} (h : HS (rJ S) H1 A0 A1 L H) (g : Gr (fY S Li) S A1 H1) (hr : Takes (fK M sz cells k) L Lo) (hin : ∀ j, ids Li j → ids Lo j) (hks : ks.length = sz) (hk : k = rows.length) (hlen : cells.length = k * sz)
 (hc : ∀ (j : Nat) d, rows[j]? = some d → CellsA (nw S A1) H1 ks ((cells.drop (j * sz)).take sz) d) (h1 : rows.length ≤ 140737488351232) (h2 : rows.length * b ≤ 140737488351232) : CellA (nu S H Lo) H (.row b ks) (gsl M k) (.row rows) := by
 cases k with
 | zero =>
  obtain rfl : rows = [] := List.eq_nil_of_length_eq_zero hk.symm
  simp only [CellA]
  exact ⟨h1, h2, .inl (by simp [gsl])⟩
 | succ k =>
  obtain ⟨q, hg⟩ := h.giveN g hr.one hin
  have h' := h.subl hr.one.sub
  exact wC hg q hks hk (by rw [hlen, ← hk]; exact Nat.le_refl _) (fun j d hj => (hc j d hj).gr h'.give) (by omega) h1 h2
def jH (l : List (List CT)) : List Value := l.flatMap fun c => c.map CT.val
def OkC (ks : List Kd) (c : List CT) : Prop := c.length = ks.length ∧ ∀ (A : Nat → Prop) (H : AH), CellsA A H ks (c.map CT.val) c
theorem CellA.any {A' : Nat → Prop} {H' : AH} {k : Kd} {w : Value} {c : CT} (h : CellA A H k w c) (hk : k.isFlat = true) : CellA A' H' k c.val c := by
 cases k with
 | int k => obtain ⟨n, rfl, rfl, hw⟩ := h.int; simp only [CellA, CT.val]; exact ⟨trivial, n, rfl, hw⟩
 | bool => obtain ⟨n, rfl, rfl⟩ := h.bool; simp only [CellA, CT.val]; exact ⟨trivial, n, rfl⟩
 | str => obtain ⟨n, rfl, rfl, hw⟩ := h.str; simp only [CellA, CT.val]; exact ⟨trivial, n, rfl, hw⟩
 | row b ks => simp [Kd.isFlat] at hk
theorem CellsA.any {A' : Nat → Prop} {H' : AH} : ∀ {ks : List Kd} {xs : List Value} {cs : List CT}, CellsA A H ks xs cs → ks.all Kd.isFlat = true → CellsA A' H' ks (cs.map CT.val) cs
 | [], [], [], _, _ => by simp only [List.map, CellsA]
 | k :: ks, w :: xs, c :: cs, h, hk => by
  simp only [CellsA] at h
  simp only [List.all_cons, Bool.and_eq_true] at hk
  simp only [List.map, CellsA]
  exact ⟨h.1.any hk.1, CellsA.any h.2 hk.2⟩
 | [], [], _ :: _, h, _ => by simp only [CellsA] at h
 | [], _ :: _, _, h, _ => by simp only [CellsA] at h
 | _ :: _, [], _, h, _ => by simp only [CellsA] at h
 | _ :: _, _ :: _, [], h, _ => by simp only [CellsA] at h
theorem CellsA.okC {ks : List Kd} {xs : List Value} {cs : List CT} (h : CellsA A H ks xs cs) (hk : ks.all Kd.isFlat = true) : OkC ks cs := ⟨h.len.2, fun _ _ => h.any hk⟩
theorem iC {ks : List Kd} {sz : Nat} (hs : ks.length = sz) : ∀ {l : List (List CT)}, (∀ c ∈ l, OkC ks c) → (jH l).length = l.length * sz
 | [], _ => by simp [jH]
 | c :: l, h => by
  have h1 := iC hs (l := l) (fun d hd => h d (List.mem_cons_of_mem _ hd))
  have h2 := (h c (List.mem_cons_self ..)).1
  simp only [jH, List.flatMap_cons, List.length_append, List.length_map, List.length_cons] at h1 ⊢
  rw [h1, h2, hs, Nat.add_mul, Nat.one_mul, Nat.add_comm]
theorem oN {ks : List Kd} {sz : Nat} (hs : ks.length = sz) : ∀ {l : List (List CT)}, (∀ c ∈ l, OkC ks c) → ∀ (A : Nat → Prop) (H : AH) (j : Nat) d, l[j]? = some d → CellsA A H ks (((jH l).drop (j * sz)).take sz) d
 | [], _, _, _, j, d, hd => by simp at hd
 | c :: l, h, A, H, j, d, hd => by
  have h2 : (c.map CT.val).length = sz := by rw [List.length_map, (h c (List.mem_cons_self ..)).1, hs]
  have e : jH (c :: l) = c.map CT.val ++ jH l := by simp [jH]
  cases j with
  | zero =>
   simp at hd
   subst hd
   rw [Nat.zero_mul, List.drop_zero, e, List.take_left' h2]
   exact (h _ (List.mem_cons_self ..)).2 A H
  | succ j =>
   simp at hd
   rw [e, show (j + 1) * sz = (c.map CT.val).length + j * sz by rw [h2, Nat.add_mul, Nat.one_mul, Nat.add_comm], ← List.drop_drop, List.drop_left]
   exact oN hs (fun d hd => h d (List.mem_cons_of_mem _ hd)) A H j d hd
theorem nR {l : List (List CT)} {k : Nat} {c : List CT} (h : l[k]? = some c) : jH (l.take k) ++ c.map CT.val = jH (l.take (k + 1)) := by
 obtain ⟨hk, rfl⟩ := List.getElem?_eq_some_iff.1 h
 rw [List.take_succ_eq_append_getElem hk, jH, jH, List.flatMap_append]; simp
theorem RowD.okC {b : Nat} {ks : List Kd} {l : List (List CT)} {a : Option Addr} {cap : Nat} (h : RowD A H b ks l a cap) (hk : ks.all Kd.isFlat = true) : ∀ c ∈ l, OkC ks c := fun c hc => by
 obtain ⟨i, hi, rfl⟩ := List.getElem_of_mem hc
 obtain ⟨p, xs, d, _, _, h1, _, h2⟩ := h.at' i hi
 have e : l[i] = d := by rw [List.getElem?_eq_getElem hi] at h1; exact Option.some.inj h1
 rw [e]
 exact h2.okC hk
theorem OkC.one {ks : List Kd} {c : List CT} (h : OkC ks c) (S : AH) : eF (c.map CT.val) = true := (h.2 (fun _ => False) S).one
end
end Go.AM
namespace Go.AM
open Go.RowKit
section
variable {P : Program} {E : Env P} {G : RG} {i n d : Nat} {r : List Oper} {Q : Fr → AH → Prop} {t : Tr Value} {l : List (Nat × Value)} {H0 : AH} {A : Nat → Prop} {L : OL} {x y : Operand}
 {ty : TypeId} {ps : String} {af : Array Edge} {gd : Option (Nat × Bool)}
theorem mZ {kk : IntKind} {a : Addr} {m j s : Nat} {e : TypeId} {ii : TI} {ta : TypeId} (hw : gok G.ops l gd = true) (hdn : Nat.ble (d + 1) n = true) (hx : opv l x = some (.pointer (some a))) (hy : opv l y = some (.int kk ((j : Nat) : Int))) (hu : E.und ta = some (.array m e)) (hi : E.inf e = some ii) (hs : ii.size = s)
 (hj : j < m) (h : SO E G (i + 1) r Q (fr n t ((d, .pointer (some (a.add (j * s)))) :: l)) H0 A L) : SO E G i (⟨some d, .indexAddr ta x y, ty, ps, af, gd⟩ :: r) Q (fr n t l) H0 A L :=
 eT hw rfl hdn rfl (fun H => by
  have : oQ (.int kk ((j : Nat) : Int)) m = some j := by simp only [oQ]; rw [if_pos ⟨by omega, by omega⟩]; simp
  simp only [aop, cG hx, cG hy, kE, hu, hi, this, dL, hs]) h
end
end Go.AM
namespace Go.AM
open Go.RowKit
def mvB (G : RG) (l : List (Nat × Value)) (gd : Option (Nat × Bool)) (d n : Nat) (x : Operand) : Option Value := bif gok G.ops l gd && Nat.ble (d + 1) n then opv l x else none
theorem aIv {G : RG} {l : List (Nat × Value)} {gd : Option (Nat × Bool)} {d n : Nat} {x : Operand} {v : Value} (h : mvB G l gd d n x = some v) : gok G.ops l gd = true ∧ Nat.ble (d + 1) n = true ∧ opv l x = some v := by
 unfold mvB at h
 cases h1 : gok G.ops l gd with
 | false => rw [h1] at h; simp at h
 | true =>
  cases h2 : Nat.ble (d + 1) n with
  | false => rw [h1, h2] at h; simp at h
  | true => rw [h1, h2] at h; exact ⟨rfl, rfl, by simpa using h⟩
section
variable {P : Program} {E : Env P} {G : RG} {i n d : Nat} {r : List Oper} {Q : Fr → AH → Prop} {t : Tr Value} {l : List (Nat × Value)} {S H0 : AH} {A0 A : Nat → Prop} {L L' L0 Li : OL} {v u : Value}
 {ty ta : TypeId} {ps : String} {af : Array Edge} {gd : Option (Nat × Bool)} {x y : Operand} {dd : TypeDesc} {ii : TI}
theorem om (hx : mvB G l gd d n x = some v) (h : SO E G (i + 1) r Q (fr n t ((d, v) :: l)) H0 A L) : SO E G i (⟨some d, .move x, ty, ps, af, gd⟩ :: r) Q (fr n t l) H0 A L := by
 obtain ⟨h1, h2, h3⟩ := aIv hx
 exact aTv h1 h2 h3 h
theorem oa (hx : mvB G l gd d n x = some v) (h : SO E G (i + 1) r Q (fr n t ((d, v) :: l)) H0 A L) : SO E G i (⟨some d, .assign x, ty, ps, af, gd⟩ :: r) Q (fr n t l) H0 A L := by
 obtain ⟨h1, h2, h3⟩ := aIv hx
 exact aMo h1 h2 h3 h
theorem of {s : TypeId} {f : Nat} {b off : Nat} (o' : Nat) {fs : Array Field} {fd : Field} (hx : mvB G l gd d n x = some (.pointer (some ⟨b, off, none⟩))) (hu : E.und s = some (.struct fs)) (hf : fs[f]? = some fd) (hi : E.inf fd.type = some ii)
 (hz : (Nat.beq (off + fd.offset) o' && !(Nat.beq ii.size 0)) = true) (h : SO E G (i + 1) r Q (fr n t ((d, .pointer (some ⟨b, o', none⟩)) :: l)) H0 A L) : SO E G i (⟨some d, .fieldAddr s x f, ty, ps, af, gd⟩ :: r) Q (fr n t l) H0 A L := by
 obtain ⟨h1, h2, h3⟩ := aIv hx
 simp only [Bool.and_eq_true] at hz
 exact gM h1 h2 h3 hu hf hi (by simpa using hz.2) (Nat.eq_of_beq_eq_true hz.1) h
theorem lA {N off sz m : Nat} {z : Nat → Value} {ex : Bool} (hx : opv l x = some (.pointer (some ⟨2 * N + 1, off, none⟩))) (hu : E.und ta = some dd) (h : SO E G (i + 1) r Q (fr n t ((d, z off) :: l)) H0 A L)
 (hw : gok G.ops l gd = true := by rfl) (hdn : Nat.ble (d + 1) n = true := by rfl) (hd : iT dd = false := by rfl) (hm : (N, AObj.cells (cellsOf m z) sz ex) ∈ qL G L := by repeat (first | exact List.Mem.head _ | apply List.Mem.tail | apply List.mem_append_right)) (hi : Nat.blt off m = true := by rfl) :
 SO E G i (⟨some d, .load ta x, ty, ps, af, gd⟩ :: r) Q (fr n t l) H0 A L := aV hw hdn hx (gC hu hd hm (cB hi)) h
theorem lB {N off sz m : Nat} {z : Nat → Value} {ex : Bool} (hx : opv l x = some (.pointer (some ⟨2 * N + 1, off, none⟩))) (hu : E.und ta = some dd) (hv : z off = v) (h : SO E G (i + 1) r Q (fr n t ((d, v) :: l)) H0 A L)
 (hw : gok G.ops l gd = true := by rfl) (hdn : Nat.ble (d + 1) n = true := by rfl) (hd : iT dd = false := by rfl) (hm : (N, AObj.cells (cellsOf m z) sz ex) ∈ qL G L := by repeat (first | exact List.Mem.head _ | apply List.Mem.tail | apply List.mem_append_right)) (hi : Nat.blt off m = true := by rfl) :
 SO E G i (⟨some d, .load ta x, ty, ps, af, gd⟩ :: r) Q (fr n t l) H0 A L := aV hw hdn hx (gC hu hd hm ((cB hi).trans (congrArg some hv))) h
theorem lG {N off sz : Nat} {cs : List Value} {ex : Bool} (hx : opv l x = some (.pointer (some ⟨2 * N + 1, off, none⟩))) (hu : E.und ta = some dd) (h : SO E G (i + 1) r Q (fr n t ((d, v) :: l)) H0 A L)
 (hw : gok G.ops l gd = true := by rfl) (hdn : Nat.ble (d + 1) n = true := by rfl) (hd : iT dd = false := by rfl) (hm : (N, AObj.cells cs sz ex) ∈ qL G L := by repeat (first | exact List.Mem.head _ | apply List.Mem.tail | apply List.mem_append_right)) (hi : cs[off]? = some v := by rfl) :
 SO E G i (⟨some d, .load ta x, ty, ps, af, gd⟩ :: r) Q (fr n t l) H0 A L := aV hw hdn hx (gC hu hd hm hi) h
theorem lC {N off sz m s : Nat} {z : Nat → Value} {ex : Bool} (hx : opv l x = some (.pointer (some ⟨2 * N + 1, off, none⟩))) (hu : E.und ta = some dd) (hi : E.inf ta = some ii) (h : SO E G (i + 1) r Q (fr n t ((d, .agg ⟨cellsOf s fun i => z (off + i)⟩) :: l)) H0 A L)
 (hw : gok G.ops l gd = true := by rfl) (hdn : Nat.ble (d + 1) n = true := by rfl) (hd : iT dd = true := by rfl) (hs : ii.size = s := by rfl) (hm : (N, AObj.cells (cellsOf m z) sz ex) ∈ qL G L := by repeat (first | exact List.Mem.head _ | apply List.Mem.tail | apply List.mem_append_right)) (hb : Nat.ble (off + s) m = true := by rfl) :
 SO E G i (⟨some d, .load ta x, ty, ps, af, gd⟩ :: r) Q (fr n t l) H0 A L := aV hw hdn hx (bV hu hd hi hs hm (bQ hb) (uN hb)) h
theorem oc {c : Call} {g : FuncId} {vs : List Value} (hg : ∃ fn, E.fn g = some fn) (ha : Opvs l c.args.toList vs) (hk : ∀ H, HS G.S H0 G.A0 A L H → XCall P g vs H fun u H' => u = v ∧ Kept H.nx H H') (h : SO E G (i + 1) r Q (fr n t ((d, v) :: l)) H0 A L)
 (hw : gok G.ops l gd = true := by rfl) (hdn : Nat.ble (d + 1) n = true := by rfl) (hm : G.D = true → i ∈ G.ms := by first | exact (fun h => nomatch h) | exact (fun _ => by repeat (first | exact List.Mem.head _ | apply List.Mem.tail))) (hc : c.callee = .value (.func g) := by rfl) :
 SO E G i (⟨some d, .call c, ty, ps, af, gd⟩ :: r) Q (fr n t l) H0 A L := bF hw hdn hm hc hg ha hk h
theorem ot {c : Call} {g : FuncId} {vs : List Value} (Li : OL) (T : Value → OL → Prop) (hg : ∃ fn, E.fn g = some fn) (ha : Opvs l c.args.toList vs) (hk : ∀ H, HS G.S H0 G.A0 A L H → XCall P g vs H fun u H' => ∃ Lo, Turned Li H H' Lo ∧ T u Lo) (h : ∀ u Lo, T u Lo → SO E G (i + 1) r Q (fr n t ((d, u) :: l)) H0 A (Lo ++ L0))
 (hw : gok G.ops l gd = true := by rfl) (hdn : Nat.ble (d + 1) n = true := by rfl) (hm : G.D = true → i ∈ G.ms := by first | exact (fun h => nomatch h) | exact (fun _ => by repeat (first | exact List.Mem.head _ | apply List.Mem.tail))) (hc : c.callee = .value (.func g) := by rfl)
 (ht : Takes Li L L0 := by repeat (first | exact Takes.nil | exact Takes.app | exact Takes.self | apply Takes.skip)) (hD : G.D = true → G.Lw.Sublist L0 := by exact (fun h => nomatch h)) :
 SO E G i (⟨some d, .call c, ty, ps, af, gd⟩ :: r) Q (fr n t l) H0 A L := kO T hw hdn hm hc hg ha ht hD hk h
theorem Takes.dist {T : OL} (h : Takes T L L0) : L.Pairwise (fun p q => p.1 ≠ q.1) → T.Pairwise (fun p q => p.1 ≠ q.1) := by
 induction h with
 | nil => exact fun _ => List.Pairwise.nil
 | @cons N o r L L1 L2 h k ih =>
  intro hd
  exact List.pairwise_cons.2 ⟨fun p hp e => h.ne hd p (k.mem p hp) e.symm, ih (hd.sublist h.sub)⟩
end
theorem rd' {K : AQ} {S H0 : AH} {A0 A : Nat → Prop} {L : OL} {n : Nat} {t : Tr Value} {l : List (Nat × Value)} {σ : Type} {μ : σ → Nat} {live : σ → List (Nat × Value)} {h0 : σ → AH} {AA : σ → Nat → Prop} {LL : σ → OL} {J : σ → Prop} {s : σ} (s' : σ) (hlt : μ s' < μ s) (hJ : J s') (hp : Picks l (live s') := by repeat (first | exact .nil | refine .cons rfl ?_)) (hh : h0 s' = H0 := by rfl) (hA : AA s' = A := by rfl)
 (hL : (LL s').Sublist L := by repeat (first | exact List.Sublist.refl _ | exact List.nil_sublist _ | exact List.sublist_append_left _ _ | (refine List.Sublist.append_left ?_ _) | apply List.Sublist.cons_cons | apply List.Sublist.cons)) : SK (aFv μ (LI n live S A0 h0 AA LL J) s K) .normal (fr n t l) S A0 H0 A L := cN s' hlt hJ hp hh hA hL
end Go.AM
namespace Go.AM
open Go.RowKit
theorem mA {α : Type} {a : α} {l : List α} (h : a ∈ l := by repeat (first | exact List.Mem.head _ | apply List.Mem.tail | apply List.mem_append_right)) : a ∈ l := h
theorem oV {l : List (Nat × Value)} {xs : List Operand} {vs : List Value} (h : Opvs l xs vs := by repeat (first | exact Opvs.nil | apply Opvs.cons rfl)) : Opvs l xs vs := h
theorem oP {l : List (Nat × Value)} {xs : List (Nat × Operand)} {vs : List (Nat × Value)} (h : Opps l xs vs := by repeat (first | exact Opps.nil | apply Opps.cons rfl)) : Opps l xs vs := h
theorem tK {T L L' : OL} (h : Takes T L L' := by repeat (first | exact Takes.nil | exact Takes.app | exact Takes.self | apply Takes.skip)) : Takes T L L' := h
theorem pK {l live : List (Nat × Value)} (h : Picks l live := by repeat (first | exact .nil | refine .cons rfl ?_)) : Picks l live := h
theorem sU {α : Type} {a b : List α} (h : a.Sublist b := by repeat (first | exact List.Sublist.refl _ | exact List.nil_sublist _ | exact List.sublist_append_left _ _ | (refine List.Sublist.append_left ?_ _) | apply List.Sublist.cons_cons | apply List.Sublist.cons)) : a.Sublist b := h
theorem sV {α : Type} {a b : List α} (h : a.Sublist b := by repeat (first | exact List.nil_sublist _ | apply List.Sublist.cons_cons | apply List.Sublist.cons)) : a.Sublist b := h
theorem sW {α : Type} {a b : List α} (h : a.Sublist b := by repeat (first | exact List.Sublist.refl _ | exact List.sublist_append_left _ _ | apply List.Sublist.cons)) : a.Sublist b := h
theorem nM {D : Bool} {q : Prop} (e : D = false := by rfl) : D = true → q := fun h => Bool.noConfusion (h.symm.trans e)
theorem uP {N : Nat} {a b : AObj} {L L' : OL} (h : Upd N a b L L' := by repeat (first | exact .zero | apply Upd.succ)) : Upd N a b L L' := h
def pkB (G : RG) (l : List (Nat × Value)) (gd : Option (Nat × Bool)) (d n : Nat) (b : Bool) (z x : Operand) : Option Value :=
 bif gok G.ops l gd && Nat.ble (d + 1) n then (match opv l z with | some (.bool b') => (bif b' == b then opv l x else none) | _ => none) else none
def biB (G : RG) (l : List (Nat × Value)) (gd : Option (Nat × Bool)) (d n : Nat) (x y : Operand) : Option (Value × Value) :=
 bif gok G.ops l gd && Nat.ble (d + 1) n then (match opv l x with | some a => (match opv l y with | some b => some (a, b) | _ => none) | _ => none) else none
def ncB (G : RG) (l : List (Nat × Value)) (gd : Option (Nat × Bool)) (d n : Nat) (x : Operand) : Option Addr :=
 bif gok G.ops l gd && Nat.ble (d + 1) n then (match opv l x with | some (.pointer (some a)) => some a | _ => none) else none
def fdB (G : RG) (l : List (Nat × Value)) (gd : Option (Nat × Bool)) (d n : Nat) (x : Operand) (fs : Array Field) (f : Nat) (t : TypeId) (ii : TI) (o : Nat) : Option Nat :=
 bif gok G.ops l gd && Nat.ble (d + 1) n then (match opv l x with | some (.pointer (some ⟨b, off, none⟩)) => (match fs[f]? with | some fd => (bif Nat.beq fd.type t && Nat.beq (off + fd.offset) o && !(Nat.beq ii.size 0) then some b else none) | _ => none) | _ => none) else none
def lnB (G : RG) (l : List (Nat × Value)) (gd : Option (Nat × Bool)) (d n : Nat) (c : Call) : Option (TypeId × Option Addr × Nat × Nat) :=
 bif gok G.ops l gd && Nat.ble (d + 1) n then (match c.callee with | .builtin .len => (match c.args.toList with | [x] => (match c.argTypes.toList with | [ta] => (match opv l x with | some (.slice a m k) => some (ta, a, m, k) | _ => none) | _ => none) | _ => none) | _ => none) else none
theorem kW {α : Type} {b : Bool} {o : Option α} {v : α} (h : (bif b then o else none) = some v) : b = true ∧ o = some v := by
 cases b with
 | false => simp at h
 | true => exact ⟨rfl, h⟩
section
variable {P : Program} {E : Env P} {G : RG} {i n d : Nat} {r : List Oper} {Q : Fr → AH → Prop} {t : Tr Value} {l : List (Nat × Value)} {S H0 : AH} {A0 A : Nat → Prop} {L L' L0 Li : OL} {v u : Value}
 {ty ta : TypeId} {ps : String} {af : Array Edge} {gd : Option (Nat × Bool)} {x y z : Operand} {dd : TypeDesc} {ii : TI} {K : AQ} {c c1 c2 : Code} {f : Fr}
theorem pt (hx : pkB G l gd d n true z x = some v) (h : SO E G (i + 1) r Q (fr n t ((d, v) :: l)) H0 A L) : SO E G i (⟨some d, .pick z x y, ty, ps, af, gd⟩ :: r) Q (fr n t l) H0 A L := by
 obtain ⟨h1, h2⟩ := kW hx
 rw [Bool.and_eq_true] at h1
 split at h2 <;> try contradiction
 obtain ⟨h3, h4⟩ := kW h2
 rename_i b' e
 cases b' with
 | false => contradiction
 | true => exact aLj h1.1 h1.2 e h4 h
theorem pQ (hx : pkB G l gd d n false z y = some v) (h : SO E G (i + 1) r Q (fr n t ((d, v) :: l)) H0 A L) : SO E G i (⟨some d, .pick z x y, ty, ps, af, gd⟩ :: r) Q (fr n t l) H0 A L := by
 obtain ⟨h1, h2⟩ := kW hx
 rw [Bool.and_eq_true] at h1
 split at h2 <;> try contradiction
 obtain ⟨h3, h4⟩ := kW h2
 rename_i b' e
 cases b' with
 | true => contradiction
 | false => exact aMv h1.1 h1.2 e h4 h
theorem ob {op : BinOp} {tb : TypeId} {a b : Value} (hx : biB G l gd d n x y = some (a, b)) (hb : dM E op ta a b = some v) (h : SO E G (i + 1) r Q (fr n t ((d, v) :: l)) H0 A L) : SO E G i (⟨some d, .binOp op ta x y tb, ty, ps, af, gd⟩ :: r) Q (fr n t l) H0 A L := by
 obtain ⟨h1, h2⟩ := kW hx
 rw [Bool.and_eq_true] at h1
 split at h2 <;> try contradiction
 rename_i a' e1
 split at h2 <;> try contradiction
 rename_i b' e2
 cases h2
 exact aWv h1.1 h1.2 e1 e2 hb h
theorem nc {a : Addr} (hx : ncB G l gd d n x = some a) (h : SO E G (i + 1) r Q (fr n t ((d, .pointer (some a)) :: l)) H0 A L) : SO E G i (⟨some d, .nilCheck x, ty, ps, af, gd⟩ :: r) Q (fr n t l) H0 A L := by
 obtain ⟨h1, h2⟩ := kW hx
 rw [Bool.and_eq_true] at h1
 split at h2 <;> try contradiction
 rename_i a' e1
 cases h2
 exact aHj h1.1 h1.2 e1 h
theorem fo {s ft : TypeId} {g : Nat} {b : Nat} (o' : Nat) {fs : Array Field} (hu : E.und s = some (.struct fs)) (hi : E.inf ft = some ii) (hx : fdB G l gd d n x fs g ft ii o' = some b) (h : SO E G (i + 1) r Q (fr n t ((d, .pointer (some ⟨b, o', none⟩)) :: l)) H0 A L) :
 SO E G i (⟨some d, .fieldAddr s x g, ty, ps, af, gd⟩ :: r) Q (fr n t l) H0 A L := by
 obtain ⟨h1, h2⟩ := kW hx
 rw [Bool.and_eq_true] at h1
 split at h2 <;> try contradiction
 rename_i b' off e1
 split at h2 <;> try contradiction
 rename_i fd e2
 obtain ⟨h3, h4⟩ := kW h2
 cases h4
 simp only [Bool.and_eq_true] at h3
 have ht := Nat.eq_of_beq_eq_true h3.1.1
 subst ht
 exact gM h1.1 h1.2 e1 hu e2 hi (by simpa using h3.2) (Nat.eq_of_beq_eq_true h3.1.2) h
theorem ll {cl : Call} {e : TypeId} {a : Option Addr} {m k : Nat} (hx : lnB G l gd d n cl = some (ta, a, m, k)) (hu : E.und ta = some (.slice e)) (h : SO E G (i + 1) r Q (fr n t ((d, .int .i64 ((m : Nat) : Int)) :: l)) H0 A L) : SO E G i (⟨some d, .call cl, ty, ps, af, gd⟩ :: r) Q (fr n t l) H0 A L := by
 obtain ⟨h1, h2⟩ := kW hx
 rw [Bool.and_eq_true] at h1
 split at h2 <;> try contradiction
 rename_i e1
 split at h2 <;> try contradiction
 rename_i x' e2
 split at h2 <;> try contradiction
 rename_i t' e3
 split at h2 <;> try contradiction
 rename_i a' m' k' e4
 cases h2
 exact aKc h1.1 h1.2 e1 e2 e3 e4 hu h
theorem tq {D : Bool} {ops : Array Oper} {ms : List Nat} {Hw : AH} {Aw : Nat → Prop} {Lw : OL} (h : SX P c1 (pH P c2 K) f S A0 H0 A L) : SO E ⟨D, ops, ms, S, A0, Hw, Aw, Lw⟩ i [] (fun f H => pH P (.seq c1 c2) K .normal f H) f H0 A L := aB (aH h)
end
end Go.AM
