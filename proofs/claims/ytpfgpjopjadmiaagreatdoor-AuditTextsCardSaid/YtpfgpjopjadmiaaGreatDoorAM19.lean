/-
  The abstract machine, part 19: operations, calls, returns.
-/
import Derived.Test.YtpfgpjopjadmiaaGreatDoorAM18
set_option linter.unusedVariables false
set_option linter.unusedSimpArgs false
noncomputable section
namespace Go.AM
open Go.RowKit

theorem own_add (b off k : Nat) : (⟨b, off, none⟩ : Addr).add k = ⟨b, off + k, none⟩ := add_spot _ rfl k

theorem InA.add {A : Nat → Prop} {a : Addr} (h : InA A a.block) {k : Nat} : InA A (a.add k).block := by rw [add_block]; exact h

section
variable {P : Program} {E : Env P} {G : RG} {i n d : Nat} {r : List Oper} {Q : Fr → AH → Prop} {t : Tr Value} {l : List (Nat × Value)} {S H0 : AH} {A0 A : Nat → Prop} {L L' : OL} {v u : Value}
  {ty : TypeId} {ps : String} {af : Array Edge} {gd : Option (Nat × Bool)} {x y z : Operand}

/-! ### without the heap -/
theorem so_move (hw : gok G.ops l gd = true) (hdn : Nat.ble (d + 1) n = true) (hx : opv l x = some v) (h : SO E G (i + 1) r Q (fr n t ((d, v) :: l)) H0 A L) : SO E G i (⟨some d, .move x, ty, ps, af, gd⟩ :: r) Q (fr n t l) H0 A L :=
  so_pure hw rfl hdn rfl (fun H => by simp only [aop, opv_ok hx]) h
theorem so_assign (hw : gok G.ops l gd = true) (hdn : Nat.ble (d + 1) n = true) (hx : opv l x = some v) (h : SO E G (i + 1) r Q (fr n t ((d, v) :: l)) H0 A L) : SO E G i (⟨some d, .assign x, ty, ps, af, gd⟩ :: r) Q (fr n t l) H0 A L :=
  so_pure hw rfl hdn rfl (fun H => by simp only [aop, opv_ok hx]) h
theorem so_pick_t (hw : gok G.ops l gd = true) (hdn : Nat.ble (d + 1) n = true) (hz : opv l z = some (.bool true)) (hx : opv l x = some v) (h : SO E G (i + 1) r Q (fr n t ((d, v) :: l)) H0 A L) : SO E G i (⟨some d, .pick z x y, ty, ps, af, gd⟩ :: r) Q (fr n t l) H0 A L :=
  so_pure hw rfl hdn rfl (fun H => by simp only [aop, opv_ok hz, opv_ok hx]) h
theorem so_pick_f (hw : gok G.ops l gd = true) (hdn : Nat.ble (d + 1) n = true) (hz : opv l z = some (.bool false)) (hx : opv l y = some v) (h : SO E G (i + 1) r Q (fr n t ((d, v) :: l)) H0 A L) : SO E G i (⟨some d, .pick z x y, ty, ps, af, gd⟩ :: r) Q (fr n t l) H0 A L :=
  so_pure hw rfl hdn rfl (fun H => by simp only [aop, opv_ok hz, opv_ok hx]) h
theorem so_bin {op : BinOp} {ta tb : TypeId} {a b : Value} (hw : gok G.ops l gd = true) (hdn : Nat.ble (d + 1) n = true) (hx : opv l x = some a) (hy : opv l y = some b) (hb : abin E op ta a b = some v) (h : SO E G (i + 1) r Q (fr n t ((d, v) :: l)) H0 A L) :
    SO E G i (⟨some d, .binOp op ta x y tb, ty, ps, af, gd⟩ :: r) Q (fr n t l) H0 A L :=
  so_pure hw rfl hdn rfl (fun H => by simp only [aop, opv_ok hx, opv_ok hy, hb, pairUp]) h
theorem so_not {ta : TypeId} {b b' : Bool} (hw : gok G.ops l gd = true) (hdn : Nat.ble (d + 1) n = true) (hx : opv l x = some (.bool b)) (hb : (!b) = b') (h : SO E G (i + 1) r Q (fr n t ((d, .bool b') :: l)) H0 A L) :
    SO E G i (⟨some d, .unOp .not ta x, ty, ps, af, gd⟩ :: r) Q (fr n t l) H0 A L :=
  so_pure hw rfl hdn rfl (fun H => by simp only [aop, opv_ok hx, aun, hb, pairUp]) h
theorem so_extract {vs : List Value} {k : Nat} (hw : gok G.ops l gd = true) (hdn : Nat.ble (d + 1) n = true) (hx : opv l x = some (.tuple ⟨vs⟩)) (hv : vs[k]? = some v) (h : SO E G (i + 1) r Q (fr n t ((d, v) :: l)) H0 A L) : SO E G i (⟨some d, .extract x k, ty, ps, af, gd⟩ :: r) Q (fr n t l) H0 A L :=
  so_pure hw rfl hdn rfl (fun H => by simp only [aop, opv_ok hx, aextract, hv, pairUp]) h
theorem so_nilCheck {a : Addr} (hw : gok G.ops l gd = true) (hdn : Nat.ble (d + 1) n = true) (hx : opv l x = some (.pointer (some a))) (h : SO E G (i + 1) r Q (fr n t ((d, .pointer (some a)) :: l)) H0 A L) : SO E G i (⟨some d, .nilCheck x, ty, ps, af, gd⟩ :: r) Q (fr n t l) H0 A L :=
  so_pure hw rfl hdn rfl (fun H => by simp only [aop, opv_ok hx]) h
theorem so_nilCheckF {g : FuncId} {a b : Array Value} (hw : gok G.ops l gd = true) (hdn : Nat.ble (d + 1) n = true) (hx : opv l x = some (.func (.func g) a b)) (h : SO E G (i + 1) r Q (fr n t ((d, .func (.func g) a b) :: l)) H0 A L) : SO E G i (⟨some d, .nilCheck x, ty, ps, af, gd⟩ :: r) Q (fr n t l) H0 A L :=
  so_pure hw rfl hdn rfl (fun H => by simp only [aop, opv_ok hx]) h
theorem so_nilCheck0 {a : Addr} (hw : gok G.ops l gd = true) (hx : opv l x = some (.pointer (some a))) (h : SO E G (i + 1) r Q (fr n t l) H0 A L) : SO E G i (⟨none, .nilCheck x, ty, ps, af, gd⟩ :: r) Q (fr n t l) H0 A L := by
  intro hD H hH
  obtain ⟨Ls, g, K, hr, hq⟩ := h hD H hH
  exact ⟨_, g, K, .cons (v := .pointer (some a)) (.inr (.inl ⟨gok_wanted hw, rfl, rfl, ⟨rfl, by simp only [aop, opv_ok hx]⟩, fun _ => .inl rfl⟩)) rfl hr, hq⟩
theorem so_makeFunc {fn : Fn} {a b : Array Operand} {va vb : List Value} (hw : gok G.ops l gd = true) (hdn : Nat.ble (d + 1) n = true) (ha : Opvs l a.toList va) (hb : Opvs l b.toList vb) (h : SO E G (i + 1) r Q (fr n t ((d, .func fn ⟨va⟩ ⟨vb⟩) :: l)) H0 A L) :
    SO E G i (⟨some d, .makeFunc fn a b, ty, ps, af, gd⟩ :: r) Q (fr n t l) H0 A L :=
  so_pure hw rfl hdn rfl (fun H => by simp only [aop, ha.ok, hb.ok]) h
/-- the address of a field, of an own struct -/
theorem so_fieldO {s : TypeId} {f : Nat} {b off o' : Nat} {fs : Array Field} {fd : Field} {ii : TI} (hw : gok G.ops l gd = true) (hdn : Nat.ble (d + 1) n = true) (hx : opv l x = some (.pointer (some ⟨b, off, none⟩))) (hu : E.und s = some (.struct fs)) (hf : fs[f]? = some fd) (hi : E.inf fd.type = some ii)
    (hz : Nat.beq ii.size 0 = false) (ho : off + fd.offset = o') (h : SO E G (i + 1) r Q (fr n t ((d, .pointer (some ⟨b, o', none⟩)) :: l)) H0 A L) : SO E G i (⟨some d, .fieldAddr s x f, ty, ps, af, gd⟩ :: r) Q (fr n t l) H0 A L :=
  so_pure hw rfl hdn rfl (fun H => by simp only [aop, opv_ok hx, afieldAddr, hu, hf, hi, hz, cond_false, pairUp, own_add, ho]) h
/-- .. of any struct -/
theorem so_fieldC {s : TypeId} {f : Nat} {a : Addr} {fs : Array Field} {fd : Field} {ii : TI} (hw : gok G.ops l gd = true) (hdn : Nat.ble (d + 1) n = true) (hx : opv l x = some (.pointer (some a))) (hu : E.und s = some (.struct fs)) (hf : fs[f]? = some fd) (hi : E.inf fd.type = some ii)
    (hz : Nat.beq ii.size 0 = false) {k : Nat} (ho : fd.offset = k) (h : SO E G (i + 1) r Q (fr n t ((d, .pointer (some (a.add k))) :: l)) H0 A L) : SO E G i (⟨some d, .fieldAddr s x f, ty, ps, af, gd⟩ :: r) Q (fr n t l) H0 A L :=
  so_pure hw rfl hdn rfl (fun H => by simp only [aop, opv_ok hx, afieldAddr, hu, hf, hi, hz, cond_false, pairUp, ho]) h
theorem so_index {kk : IntKind} {a : Addr} {m c j s : Nat} {e : TypeId} {ii : TI} {ta : TypeId} (hw : gok G.ops l gd = true) (hdn : Nat.ble (d + 1) n = true) (hx : opv l x = some (.slice (some a) m c)) (hy : opv l y = some (.int kk ((j : Nat) : Int))) (hu : E.und ta = some (.slice e)) (hi : E.inf e = some ii) (hs : ii.size = s)
    (hj : j < m) (h : SO E G (i + 1) r Q (fr n t ((d, .pointer (some (a.add (j * s)))) :: l)) H0 A L) : SO E G i (⟨some d, .indexAddr ta x y, ty, ps, af, gd⟩ :: r) Q (fr n t l) H0 A L :=
  so_pure hw rfl hdn rfl (fun H => by
    have : aidx (.int kk ((j : Nat) : Int)) m = some j := by simp only [aidx]; rw [if_pos ⟨by omega, by omega⟩]; simp
    simp only [aop, opv_ok hx, opv_ok hy, aindexAddr, hu, hi, this, pairUp, hs]) h
/-- .. of an own row -/
theorem so_indexO {kk : IntKind} {b off m c j s o' : Nat} {e : TypeId} {ii : TI} {ta : TypeId} (hw : gok G.ops l gd = true) (hdn : Nat.ble (d + 1) n = true) (hx : opv l x = some (.slice (some ⟨b, off, none⟩) m c)) (hy : opv l y = some (.int kk ((j : Nat) : Int))) (hu : E.und ta = some (.slice e)) (hi : E.inf e = some ii) (hs : ii.size = s)
    (hj : j < m) (ho : off + j * s = o') (h : SO E G (i + 1) r Q (fr n t ((d, .pointer (some ⟨b, o', none⟩)) :: l)) H0 A L) : SO E G i (⟨some d, .indexAddr ta x y, ty, ps, af, gd⟩ :: r) Q (fr n t l) H0 A L :=
  so_pure hw rfl hdn rfl (fun H => by
    have : aidx (.int kk ((j : Nat) : Int)) m = some j := by simp only [aidx]; rw [if_pos ⟨by omega, by omega⟩]; simp
    simp only [aop, opv_ok hx, opv_ok hy, aindexAddr, hu, hi, this, pairUp, hs, own_add, ho]) h
theorem so_strAt {kk : IntKind} {s : ByteArray} {j : Nat} {b : UInt8} {ta : TypeId} (hw : gok G.ops l gd = true) (hdn : Nat.ble (d + 1) n = true) (hx : opv l x = some (.string s)) (hy : opv l y = some (.int kk ((j : Nat) : Int))) (hu : E.und ta = some .string) (hb : s.data.toList[j]? = some b)
    (h : SO E G (i + 1) r Q (fr n t ((d, .int .u8 b.toNat) :: l)) H0 A L) : SO E G i (⟨some d, .index ta x y, ty, ps, af, gd⟩ :: r) Q (fr n t l) H0 A L :=
  so_pure hw rfl hdn rfl (fun H => by
    have hj := lt_of_getElem? hb
    have : aidx (.int kk ((j : Nat) : Int)) s.data.toList.length = some j := by simp only [aidx]; rw [if_pos ⟨by omega, by omega⟩]; simp
    simp only [aop, opv_ok hx, opv_ok hy, aindex, hu, this, pairUp, hb]) h
theorem so_lenL {c : Call} {ta e : TypeId} {a : Option Addr} {m k : Nat} (hw : gok G.ops l gd = true) (hdn : Nat.ble (d + 1) n = true) (hc : c.callee = .builtin .len) (ha : c.args.toList = [x]) (ht : c.argTypes.toList = [ta]) (hx : opv l x = some (.slice a m k)) (hu : E.und ta = some (.slice e))
    (h : SO E G (i + 1) r Q (fr n t ((d, .int .i64 ((m : Nat) : Int)) :: l)) H0 A L) : SO E G i (⟨some d, .call c, ty, ps, af, gd⟩ :: r) Q (fr n t l) H0 A L :=
  so_pure hw rfl hdn (by simp only [isPure, hc, ht, hu]) (fun H => by simp only [aop, hc, ha, ht, opv_ok hx, alen, hu, pairUp]) h
theorem so_lenS {c : Call} {ta : TypeId} {s : ByteArray} (hw : gok G.ops l gd = true) (hdn : Nat.ble (d + 1) n = true) (hc : c.callee = .builtin .len) (ha : c.args.toList = [x]) (ht : c.argTypes.toList = [ta]) (hx : opv l x = some (.string s)) (hu : E.und ta = some .string)
    (h : SO E G (i + 1) r Q (fr n t ((d, .int .i64 ((s.data.toList.length : Nat) : Int)) :: l)) H0 A L) : SO E G i (⟨some d, .call c, ty, ps, af, gd⟩ :: r) Q (fr n t l) H0 A L :=
  so_pure hw rfl hdn (by simp only [isPure, hc, ht, hu]) (fun H => by simp only [aop, hc, ha, ht, opv_ok hx, alen, hu, pairUp]) h
theorem so_build {parts : Array (Nat × Operand)} {vs : List (Nat × Value)} {ta : TypeId} (hw : gok G.ops l gd = true) (hdn : Nat.ble (d + 1) n = true) (hp : Opps l parts.toList vs) (hb : abuild E ta vs = some v) (h : SO E G (i + 1) r Q (fr n t ((d, v) :: l)) H0 A L) :
    SO E G i (⟨some d, .build ta parts, ty, ps, af, gd⟩ :: r) Q (fr n t l) H0 A L :=
  so_pure hw rfl hdn rfl (fun H => by simp only [aop, hp.ok, hb, pairUp]) h
theorem so_convI {sT dT : TypeId} {ds : TypeDesc} {k k' : IntKind} {a b : Int} (hw : gok G.ops l gd = true) (hdn : Nat.ble (d + 1) n = true) (hx : opv l x = some (.int k' a)) (hs : E.und sT = some ds) (hd : E.und dT = some (.int k)) (hb : k.wrap a = b) (h : SO E G (i + 1) r Q (fr n t ((d, .int k b) :: l)) H0 A L) :
    SO E G i (⟨some d, .convert sT dT x, ty, ps, af, gd⟩ :: r) Q (fr n t l) H0 A L :=
  so_pure hw rfl hdn (by simp only [isPure, hd]) (fun H => by simp only [aop, opv_ok hx, aconv, hs, hd, hb]) h

/-! ### loads -/
def LoadOk (E : Env P) (S H0 : AH) (A0 A : Nat → Prop) (L : OL) (ty : TypeId) (a : Addr) (v : Value) : Prop := ∀ H, HS S H0 A0 A L H → aloadVar E ty a H = some v
theorem ld_own {N off sz : Nat} {cs : List Value} {ex : Bool} {dd : TypeDesc} (hu : E.und ty = some dd) (hd : isAggD dd = false) (hm : (N, AObj.cells cs sz ex) ∈ L) (hv : cs[off]? = some v) : LoadOk E S H0 A0 A L ty ⟨2 * N + 1, off, none⟩ v := fun H hH => by
  simp only [aloadVar, hu, hd, cond_false]
  rw [aload_own (hH.own _ hm).1, hv]
theorem ld_ownA {N off sz s : Nat} {cs xs : List Value} {ex : Bool} {dd : TypeDesc} {ii : TI} (hu : E.und ty = some dd) (hd : isAggD dd = true) (hi : E.inf ty = some ii) (hs : ii.size = s) (hm : (N, AObj.cells cs sz ex) ∈ L) (hle : off + s ≤ cs.length) (hv : (cs.drop off).take s = xs) : LoadOk E S H0 A0 A L ty ⟨2 * N + 1, off, none⟩ (.agg ⟨xs⟩) := fun H hH => by
  simp only [aloadVar, hu, hd, cond_true, hi, hs]
  rw [aloads_own (hH.own _ hm).1 off s none hle, hv]
theorem ld_data {a : Addr} {dd : TypeDesc} (hu : E.und ty = some dd) (hd : isAggD dd = false) (hA : InA A a.block) (hl : aload H0 a = some v) : LoadOk E S H0 A0 A L ty a v := fun H hH => by
  simp only [aloadVar, hu, hd, cond_false]
  rw [hH.gr.aload hA, hl]
theorem ld_dataA {a : Addr} {dd : TypeDesc} {ii : TI} {s : Nat} {xs : List Value} (hu : E.und ty = some dd) (hd : isAggD dd = true) (hi : E.inf ty = some ii) (hs : ii.size = s) (hA : InA A a.block) (hl : aloads H0 a s = some xs) : LoadOk E S H0 A0 A L ty a (.agg ⟨xs⟩) := fun H hH => by
  simp only [aloadVar, hu, hd, cond_true, hi, hs]
  rw [hH.gr.aloads hA, hl]
theorem so_load {a : Addr} {ta : TypeId} (hw : gok G.ops l gd = true) (hdn : Nat.ble (d + 1) n = true) (hx : opv l x = some (.pointer (some a))) (hl : LoadOk E G.S (qH G H0) G.A0 (qA G A) (qL G L) ta a v) (h : SO E G (i + 1) r Q (fr n t ((d, v) :: l)) H0 A L) :
    SO E G i (⟨some d, .load ta x, ty, ps, af, gd⟩ :: r) Q (fr n t l) H0 A L :=
  so_quiet rfl hw rfl hdn (fun H hH => by simp only [aop, opv_ok hx, hl H hH, pairUp]) h
theorem so_loado {a : Addr} {ta : TypeId} (hw : gok G.ops l gd = true) (hdn : Nat.ble (d + 1) n = true) (hx : opv l x = some (.pointer (some a))) (ho : ordAll (bef G.ops) G.ms i = true) (hl : LoadOk E G.S H0 G.A0 A L ta a v) (h : SO E G (i + 1) r Q (fr n t ((d, v) :: l)) H0 A L) :
    SO E G i (⟨some d, .load ta x, ty, ps, af, gd⟩ :: r) Q (fr n t l) H0 A L :=
  so_ordered rfl hw rfl hdn ho (fun H hH => by simp only [aop, opv_ok hx, hl H hH, pairUp]) h

/-! ### slices and strings, cut -/
theorem so_sliceS {ta : TypeId} {lo hi mx : Option Operand} {s : ByteArray} {p q m : Nat} (hw : gok G.ops l gd = true) (hdn : Nat.ble (d + 1) n = true) (hx : opv l x = some (.string s)) (hu : E.und ta = some .string) (hmx : mx = none)
    (hb : abounds s.data.toList.length s.data.toList.length (lo.map (aval (fr n t l))) (hi.map (aval (fr n t l))) none = some (p, q, m))
    (h : SO E G (i + 1) r Q (fr n t ((d, .string ⟨⟨(s.data.toList.take q).drop p⟩⟩) :: l)) H0 A L) : SO E G i (⟨some d, .slice ta x lo hi mx, ty, ps, af, gd⟩ :: r) Q (fr n t l) H0 A L :=
  so_quiet rfl hw rfl hdn (fun H hH => by subst hmx; simp only [aop, opv_ok hx, aslice, hu, Option.map_none, hb, pairUp]) h
theorem so_sliceN {ta e : TypeId} {lo hi mx : Option Operand} {ii : TI} {b : Nat × Nat × Nat} (hw : gok G.ops l gd = true) (hdn : Nat.ble (d + 1) n = true) (hx : opv l x = some (.slice none 0 0)) (hu : E.und ta = some (.slice e)) (hi' : E.inf e = some ii)
    (hb : abounds 0 0 (lo.map (aval (fr n t l))) (hi.map (aval (fr n t l))) (mx.map (aval (fr n t l))) = some b)
    (h : SO E G (i + 1) r Q (fr n t ((d, .slice none 0 0) :: l)) H0 A L) : SO E G i (⟨some d, .slice ta x lo hi mx, ty, ps, af, gd⟩ :: r) Q (fr n t l) H0 A L :=
  so_quiet rfl hw rfl hdn (fun H hH => by simp only [aop, opv_ok hx, aslice, hu, hi', hb, pairUp]) h
/-- a part of a slice outside -/
theorem so_sliceE {ta e : TypeId} {lo hi mx : Option Operand} {ii : TI} {a : Addr} {len cap p q m : Nat} (hw : gok G.ops l gd = true) (hdn : Nat.ble (d + 1) n = true) (hx : opv l x = some (.slice (some a) len cap)) (hu : E.und ta = some (.slice e)) (hi' : E.inf e = some ii)
    (hlc : len ≤ cap) (hev : a.block % 2 = 0) (hb : abounds len cap (lo.map (aval (fr n t l))) (hi.map (aval (fr n t l))) (mx.map (aval (fr n t l))) = some (p, q, m))
    (h : SO E G (i + 1) r Q (fr n t ((d, .slice (some (if m = p then a else a.add (p * ii.size))) (q - p) (m - p)) :: l)) H0 A L) : SO E G i (⟨some d, .slice ta x lo hi mx, ty, ps, af, gd⟩ :: r) Q (fr n t l) H0 A L :=
  so_quiet rfl hw rfl hdn (fun H hH => by
    have e1 : Nat.ble len cap = true := Nat.ble_eq_true_of_le hlc
    have e2 : Nat.beq (a.block % 2) 0 = true := by rw [hev]; rfl
    simp only [aop, opv_ok hx, aslice, hu, hi', e1, cond_true, hb, e2, pairUp]) h
/-- a part of an own row -/
theorem so_sliceO {ta e : TypeId} {lo hi mx : Option Operand} {ii : TI} {N off sz len cap p q m : Nat} {cs : List Value} {ex : Bool} (hw : gok G.ops l gd = true) (hdn : Nat.ble (d + 1) n = true) (hx : opv l x = some (.slice (some ⟨2 * N + 1, off, none⟩) len cap)) (hu : E.und ta = some (.slice e)) (hi' : E.inf e = some ii)
    (hlc : len ≤ cap) (hm : (N, AObj.cells cs sz ex) ∈ qL G L) (hsz : Nat.beq sz ii.size = true) (hb : abounds len cap (lo.map (aval (fr n t l))) (hi.map (aval (fr n t l))) (mx.map (aval (fr n t l))) = some (p, q, m))
    (h : SO E G (i + 1) r Q (fr n t ((d, .slice (some ⟨2 * N + 1, off + p * ii.size, none⟩) (q - p) (m - p)) :: l)) H0 A L) : SO E G i (⟨some d, .slice ta x lo hi mx, ty, ps, af, gd⟩ :: r) Q (fr n t l) H0 A L :=
  so_quiet rfl hw rfl hdn (fun H hH => by
    have e1 : Nat.ble len cap = true := Nat.ble_eq_true_of_le hlc
    simp only [aop, opv_ok hx, aslice, hu, hi', e1, cond_true, hb, odd_mod, cond_false, odd_div, (hH.own _ hm).1, hsz, pairUp, own_add]) h
/-- a part of data -/
theorem so_sliceD {ta e : TypeId} {lo hi mx : Option Operand} {ii : TI} {a : Addr} {sz len cap p q m : Nat} {cs : List Value} {ex : Bool} (hw : gok G.ops l gd = true) (hdn : Nat.ble (d + 1) n = true) (hx : opv l x = some (.slice (some a) len cap)) (hu : E.und ta = some (.slice e)) (hi' : E.inf e = some ii)
    (hlc : len ≤ cap) (hev : a.block % 2 = 1) (hA : qA G A (a.block / 2)) (hm : (qH G H0).tr.get (a.block / 2) = some (.cells cs sz ex)) (hsz : Nat.beq sz ii.size = true) (hb : abounds len cap (lo.map (aval (fr n t l))) (hi.map (aval (fr n t l))) (mx.map (aval (fr n t l))) = some (p, q, m))
    (h : SO E G (i + 1) r Q (fr n t ((d, .slice (some (a.add (p * ii.size))) (q - p) (m - p)) :: l)) H0 A L) : SO E G i (⟨some d, .slice ta x lo hi mx, ty, ps, af, gd⟩ :: r) Q (fr n t l) H0 A L :=
  so_quiet rfl hw rfl hdn (fun H hH => by
    have e1 : Nat.ble len cap = true := Nat.ble_eq_true_of_le hlc
    have e2 : Nat.beq (a.block % 2) 0 = false := by rw [hev]; rfl
    have e3 : H.tr.get (a.block / 2) = some (.cells cs sz ex) := (hH.base _ hA).trans hm
    simp only [aop, opv_ok hx, aslice, hu, hi', e1, cond_true, hb, e2, cond_false, e3, hsz, pairUp]) h

/-! ### new objects -/
theorem so_push {o : Oper} {f : Nat → Value} {ob : AObj} (hw : gok G.ops l o.guard = true) (hd : o.dst = some d) (hdn : Nat.ble (d + 1) n = true) (hm : G.D = true → i ∈ G.ms) (hop : ∀ H, HS G.S H0 G.A0 A L H → aop E (aval (fr n t l)) o.op H = some (f H.nx, anew H ob))
    (h : ∀ N, SO E G (i + 1) r Q (fr n t ((d, f N) :: l)) H0 A ((N, ob) :: L)) : SO E G i (o :: r) Q (fr n t l) H0 A L :=
  so_any hw hd hdn hm fun hD H hH => ⟨_, _, H0, A, (H.nx, ob) :: L, .inl (hop H hH), hH.push ob, hD.push _, h H.nx⟩
theorem so_box {ta : TypeId} {cs : List Value} (hw : gok G.ops l gd = true) (hdn : Nat.ble (d + 1) n = true) (hm : G.D = true → i ∈ G.ms) (hx : opv l x = some v) (hc : v.cells.toList = cs) (h : ∀ N, SO E G (i + 1) r Q (fr n t ((d, .pointer (some ⟨2 * N + 1, 0, none⟩)) :: l)) H0 A ((N, .cells cs (boxsz E ta) true) :: L)) :
    SO E G i (⟨some d, .box ta x, ty, ps, af, gd⟩ :: r) Q (fr n t l) H0 A L :=
  so_push (f := fun N => .pointer (some ⟨2 * N + 1, 0, none⟩)) hw rfl hdn hm (fun H hH => by simp only [aop, opv_ok hx, abox, newPtr, hc]) h
theorem so_boxA {ta : TypeId} {cs : List Value} (hw : gok G.ops l gd = true) (hdn : Nat.ble (d + 1) n = true) (hm : G.D = true → i ∈ G.ms) (hx : opv l x = some (.agg ⟨cs⟩)) (h : ∀ N, SO E G (i + 1) r Q (fr n t ((d, .pointer (some ⟨2 * N + 1, 0, none⟩)) :: l)) H0 A ((N, .cells cs (boxsz E ta) true) :: L)) :
    SO E G i (⟨some d, .box ta x, ty, ps, af, gd⟩ :: r) Q (fr n t l) H0 A L := so_box hw hdn hm hx rfl h
theorem so_boxS {ta : TypeId} (hw : gok G.ops l gd = true) (hdn : Nat.ble (d + 1) n = true) (hm : G.D = true → i ∈ G.ms) (hx : opv l x = some v) (hc : v.cells.toList = [v]) (h : ∀ N, SO E G (i + 1) r Q (fr n t ((d, .pointer (some ⟨2 * N + 1, 0, none⟩)) :: l)) H0 A ((N, .cells [v] (boxsz E ta) true) :: L)) :
    SO E G i (⟨some d, .box ta x, ty, ps, af, gd⟩ :: r) Q (fr n t l) H0 A L := so_box hw hdn hm hx hc h
theorem so_alloc {ta : TypeId} {ii : TI} {zv : Value} {cs : List Value} (hw : gok G.ops l gd = true) (hdn : Nat.ble (d + 1) n = true) (hm : G.D = true → i ∈ G.ms) (hi : E.inf ta = some ii) (hz : ii.zero = some zv) (hc : (ext zv).cells.toList = cs) (h : ∀ N, SO E G (i + 1) r Q (fr n t ((d, .pointer (some ⟨2 * N + 1, 0, none⟩)) :: l)) H0 A ((N, .cells cs (boxsz E ta) true) :: L)) :
    SO E G i (⟨some d, .alloc ta, ty, ps, af, gd⟩ :: r) Q (fr n t l) H0 A L :=
  so_push (f := fun N => .pointer (some ⟨2 * N + 1, 0, none⟩)) hw rfl hdn hm (fun H hH => by simp only [aop, aalloc, hi, hz, abox, newPtr, hc]) h
theorem so_makeMap {ta : TypeId} (hw : gok G.ops l gd = true) (hdn : Nat.ble (d + 1) n = true) (hm : G.D = true → i ∈ G.ms) (h : ∀ N, SO E G (i + 1) r Q (fr n t ((d, .map (some (2 * N + 1))) :: l)) H0 A ((N, .map [] 0) :: L)) :
    SO E G i (⟨some d, .makeMap ta none, ty, ps, af, gd⟩ :: r) Q (fr n t l) H0 A L :=
  so_push (f := fun N => .map (some (2 * N + 1))) hw rfl hdn hm (fun H hH => by simp only [aop, amakeMap]) h
theorem so_buildSlice {ta e : TypeId} {len : Nat} {parts : Array (Nat × Operand)} {vs : List (Nat × Value)} {ii : TI} {zv : Value} {out : List Value} (hw : gok G.ops l gd = true) (hdn : Nat.ble (d + 1) n = true) (hm : G.D = true → i ∈ G.ms) (hp : Opps l parts.toList vs) (hu : E.und ta = some (.slice e)) (hi : E.inf e = some ii)
    (hb : (Nat.ble (len * ii.size) 16777216 && !(Nat.beq ii.size 0)) = true) (hz : ii.zero = some zv) (hf : fillL (fun j => some (j * ii.size, ii.size)) (extL (zcells (if len * ii.size = 0 then #[] else zv.cells) (len * ii.size))) vs = some out) (hl : Nat.beq out.length (len * ii.size) = true) {s : Nat} (hs : ii.size = s)
    (h : ∀ N, SO E G (i + 1) r Q (fr n t ((d, .slice (some ⟨2 * N + 1, 0, none⟩) len len) :: l)) H0 A ((N, .cells out s true) :: L)) : SO E G i (⟨some d, .buildSlice ta len parts, ty, ps, af, gd⟩ :: r) Q (fr n t l) H0 A L :=
  so_push (f := fun N => .slice (some ⟨2 * N + 1, 0, none⟩) len len) hw rfl hdn hm (fun H hH => by subst hs; simp only [aop, hp.ok, abuildSlice, hu, hi, hb, cond_true, hz, hf, hl, newSlice]) h
theorem so_make {ta e : TypeId} {k k' : IntKind} {a c : Nat} {ii : TI} {zv : Value} {cs : List Value} (hw : gok G.ops l gd = true) (hdn : Nat.ble (d + 1) n = true) (hm : G.D = true → i ∈ G.ms) (hx : opv l x = some (.int k ((a : Nat) : Int))) (hy : opv l y = some (.int k' ((c : Nat) : Int))) (hu : E.und ta = some (.slice e)) (hi : E.inf e = some ii)
    (hz : ii.zero = some zv) (hac : a ≤ c) (hc : c ≤ 140737488355328) (hcb : ii.bytes * c ≤ 281474976710656) (hcs : extL (zcells (if c * ii.size = 0 then #[] else zv.cells) (c * ii.size)) = cs) {s : Nat} (hs : ii.size = s)
    (h : ∀ N, SO E G (i + 1) r Q (fr n t ((d, .slice (some ⟨2 * N + 1, 0, none⟩) a c) :: l)) H0 A ((N, .cells cs s true) :: L)) : SO E G i (⟨some d, .makeSlice ta x y, ty, ps, af, gd⟩ :: r) Q (fr n t l) H0 A L :=
  so_push (f := fun N => .slice (some ⟨2 * N + 1, 0, none⟩) a c) hw rfl hdn hm (fun H hH => by
    have hcond : (0 : Int) ≤ (a : Int) ∧ (a : Int) ≤ (c : Int) ∧ (c : Int) ≤ 140737488355328 ∧ (ii.bytes : Int) * (c : Int) ≤ 281474976710656 := by
      refine ⟨by omega, by omega, by omega, ?_⟩
      have : ((ii.bytes * c : Nat) : Int) ≤ 281474976710656 := by omega
      rwa [Int.natCast_mul] at this
    subst hs
    simp only [aop, opv_ok hx, opv_ok hy, amakeSlice, hu, hi, hz, hcond, and_self, if_true, Int.toNat_natCast, newSlice, hcs]) h

/-! ### stores -/
theorem so_store {ta : TypeId} {N off sz : Nat} {cs cs' vs : List Value} {ex : Bool} {ii : TI} (hw : gok G.ops l gd = true) (hm : G.D = true → i ∈ G.ms) (hx : opv l x = some (.pointer (some ⟨2 * N + 1, off, none⟩))) (hy : opv l y = some v) (hi : E.inf ta = some ii) (hc : v.cells.toList = vs) (hs : vs.length = ii.size)
    (h1 : allOne vs = true) (hu : Upd N (.cells cs sz ex) (.cells cs' sz ex) L L') (hcs : cs.take off ++ (vs ++ cs.drop (off + vs.length)) = cs') (hle : off + vs.length ≤ cs.length) (hD : G.D = true → G.Lw.Sublist L')
    (h : SO E G (i + 1) r Q (fr n t l) H0 A L') : SO E G i (⟨none, .store ta x y, ty, ps, af, gd⟩ :: r) Q (fr n t l) H0 A L :=
  so_any0 hw rfl hm fun hDs H hH => by
    refine ⟨undef, _, H0, A, L', .inl ?_, hH.set hu, hDs.list hD, h⟩
    have hg := (hH.own _ hu.mem).1
    have hb : Nat.beq vs.length ii.size = true := by rw [hs]; simp
    simp only [aop, opv_ok hx, opv_ok hy, astoreVar, hi, hc, hb, cond_true]
    rw [astores_own hg off none hle h1, hcs]

theorem cells_one (h : v.oneCell' = true) : v.cells.toList = [v] := by
  cases v <;> first | rfl | (simp [Value.oneCell'] at h)
theorem store_all {cs vs : List Value} (h : vs.length = cs.length) : cs.take 0 ++ (vs ++ cs.drop (0 + vs.length)) = vs := by
  rw [Nat.zero_add, h]; simp
theorem so_storeA {ta : TypeId} {N off sz : Nat} {cs cs' vs : List Value} {ex : Bool} {ii : TI} (hw : gok G.ops l gd = true) (hm : G.D = true → i ∈ G.ms) (hx : opv l x = some (.pointer (some ⟨2 * N + 1, off, none⟩))) (hy : opv l y = some (.agg ⟨vs⟩)) (hi : E.inf ta = some ii) (hs : vs.length = ii.size)
    (h1 : allOne vs = true) (hu : Upd N (.cells cs sz ex) (.cells cs' sz ex) L L') (hcs : cs.take off ++ (vs ++ cs.drop (off + vs.length)) = cs') (hle : off + vs.length ≤ cs.length) (hD : G.D = true → G.Lw.Sublist L')
    (h : SO E G (i + 1) r Q (fr n t l) H0 A L') : SO E G i (⟨none, .store ta x y, ty, ps, af, gd⟩ :: r) Q (fr n t l) H0 A L :=
  so_store hw hm hx hy hi rfl hs h1 hu hcs hle hD h
theorem so_storeS {ta : TypeId} {N off sz : Nat} {cs cs' : List Value} {ex : Bool} {ii : TI} (hw : gok G.ops l gd = true) (hm : G.D = true → i ∈ G.ms) (hx : opv l x = some (.pointer (some ⟨2 * N + 1, off, none⟩))) (hy : opv l y = some v) (hi : E.inf ta = some ii) (hs : ii.size = 1)
    (h1 : v.oneCell' = true) (hu : Upd N (.cells cs sz ex) (.cells cs' sz ex) L L') (hcs : cs.take off ++ ([v] ++ cs.drop (off + 1)) = cs') (hle : off + 1 ≤ cs.length) (hD : G.D = true → G.Lw.Sublist L')
    (h : SO E G (i + 1) r Q (fr n t l) H0 A L') : SO E G i (⟨none, .store ta x y, ty, ps, af, gd⟩ :: r) Q (fr n t l) H0 A L :=
  so_store hw hm hx hy hi (cells_one h1) (by rw [hs]; rfl) (by simp [allOne, h1]) hu hcs hle hD h

/-! ### calls -/
theorem so_call {c : Call} {g : FuncId} {vs : List Value} (hw : gok G.ops l gd = true) (hdn : Nat.ble (d + 1) n = true) (hm : G.D = true → i ∈ G.ms) (hc : c.callee = .value (.func g)) (hg : ∃ fn, E.fn g = some fn) (ha : Opvs l c.args.toList vs) (hk : ∀ H, HS G.S H0 G.A0 A L H → XCall P g vs H fun u H' => u = v ∧ Kept H.nx H H')
    (h : SO E G (i + 1) r Q (fr n t ((d, v) :: l)) H0 A L) : SO E G i (⟨some d, .call c, ty, ps, af, gd⟩ :: r) Q (fr n t l) H0 A L :=
  so_any hw rfl hdn hm fun hD H hH => by
    obtain ⟨fn, hg⟩ := hg
    obtain ⟨u, H', ⟨rfl, hkept⟩, hw0, hcall⟩ := hk H hH
    refine ⟨u, H', H0, A, L, .inr ⟨hw0, g, vs, ?_, hcall⟩, hH.later hkept, hD, h⟩
    simp only [acallee, hc, aval_func, hg, ha.ok, List.append_nil, List.nil_append]
/-- a call of a function value -/
theorem so_callV {c : Call} {z : Operand} {g : FuncId} {fa fb vs : List Value} {args : List Value} (hw : gok G.ops l gd = true) (hdn : Nat.ble (d + 1) n = true) (hm : G.D = true → i ∈ G.ms) (hc : c.callee = .value z) (hz : opv l z = some (.func (.func g) ⟨fa⟩ ⟨fb⟩)) (hg : ∃ fn, E.fn g = some fn) (ha : Opvs l c.args.toList vs) (hargs : fa ++ (vs ++ fb) = args)
    (hk : ∀ H, HS G.S H0 G.A0 A L H → XCall P g args H fun u H' => u = v ∧ Kept H.nx H H')
    (h : SO E G (i + 1) r Q (fr n t ((d, v) :: l)) H0 A L) : SO E G i (⟨some d, .call c, ty, ps, af, gd⟩ :: r) Q (fr n t l) H0 A L :=
  so_any hw rfl hdn hm fun hD H hH => by
    obtain ⟨fn, hg⟩ := hg
    obtain ⟨u, H', ⟨rfl, hkept⟩, hw0, hcall⟩ := hk H hH
    refine ⟨u, H', H0, A, L, .inr ⟨hw0, g, args, ?_, hcall⟩, hH.later hkept, hD, h⟩
    simp only [acallee, hc, opv_ok hz, hg, ha.ok, hargs]
/-- a call that also hands back rows of its own -/
theorem so_callL {c : Call} {g : FuncId} {vs : List Value} (T : Value → AH → (Nat → Prop) → OL → Prop) (hw : gok G.ops l gd = true) (hdn : Nat.ble (d + 1) n = true) (hm : G.D = true → i ∈ G.ms) (hc : c.callee = .value (.func g)) (hg : ∃ fn, E.fn g = some fn) (ha : Opvs l c.args.toList vs)
    (hk : ∀ H, HS G.S H0 G.A0 A L H → XCall P g vs H fun u H' => Kept H.nx H H' ∧ ∃ A1 L1, (∀ j, A1 j → A j ∨ (H.nx ≤ j ∧ j < H'.nx)) ∧ (∀ j, A j → A1 j) ∧ (∀ p ∈ L1, H'.tr.get p.1 = some p.2 ∧ H.nx ≤ p.1 ∧ p.1 < H'.nx ∧ ¬ A1 p.1) ∧ L1.Pairwise (fun p q => p.1 ≠ q.1) ∧ T u H' A1 L1)
    (h : ∀ u H1 A1 L1, Gr A H0 A1 H1 → T u H1 A1 L1 → SO E G (i + 1) r Q (fr n t ((d, u) :: l)) H1 A1 (L1 ++ L)) : SO E G i (⟨some d, .call c, ty, ps, af, gd⟩ :: r) Q (fr n t l) H0 A L :=
  so_any hw rfl hdn hm fun hD H hH => by
    obtain ⟨fn, hg⟩ := hg
    obtain ⟨u, H', ⟨hkept, A1, L1, a1, a2, a3, a4, hT⟩, hw0, hcall⟩ := hk H hH
    have hgr : Gr A H0 A1 H' := ⟨a2, fun j hj => (hkept.get j (hH.lt j hj)).trans (hH.base j hj), hw0.trans hH.w0.symm⟩
    have hf := hH.fresh hkept a1
    refine ⟨u, H', H', A1, L1 ++ L, .inr ⟨hw0, g, vs, ?_, hcall⟩, ⟨hf.kept, hf.base, hf.w0, hf.sub, hf.lt, fun p hp => ?_, List.pairwise_append.2 ⟨a4, hf.dist, fun p hp q hq => ?_⟩⟩, ?_, h u H' A1 L1 hgr hT⟩
    · simp only [acallee, hc, aval_func, hg, ha.ok, List.append_nil, List.nil_append]
    · rcases List.mem_append.1 hp with hp | hp
      · obtain ⟨q1, q2, q3, q4⟩ := a3 p hp
        exact ⟨q1, Nat.le_trans hH.kept.nx q2, q3, q4⟩
      · exact hf.own p hp
    · have := (a3 p hp).2.1
      have := (hH.own q hq).2.2.1
      omega
    · have := hD.fresh (H := H) hgr
      intro hDt
      obtain ⟨d1, d2, d3, d4⟩ := this hDt
      exact ⟨fun p hp => List.mem_append_right _ (d1 p hp), d2, d3, d4⟩
/-- a call whose result is new or old data -/
theorem so_callF {c : Call} {g : FuncId} {vs : List Value} (T : Value → AH → (Nat → Prop) → Prop) (hw : gok G.ops l gd = true) (hdn : Nat.ble (d + 1) n = true) (hm : G.D = true → i ∈ G.ms) (hc : c.callee = .value (.func g)) (hg : ∃ fn, E.fn g = some fn) (ha : Opvs l c.args.toList vs)
    (hk : ∀ H, HS G.S H0 G.A0 A L H → XCall P g vs H fun u H' => Kept H.nx H H' ∧ T u H' fun j => A j ∨ (H.nx ≤ j ∧ j < H'.nx))
    (h : ∀ u H1 A1, Gr A H0 A1 H1 → T u H1 A1 → SO E G (i + 1) r Q (fr n t ((d, u) :: l)) H1 A1 L) : SO E G i (⟨some d, .call c, ty, ps, af, gd⟩ :: r) Q (fr n t l) H0 A L :=
  so_any hw rfl hdn hm fun hD H hH => by
    obtain ⟨fn, hg⟩ := hg
    obtain ⟨u, H', ⟨hkept, hT⟩, hw0, hcall⟩ := hk H hH
    have hgr : Gr A H0 (fun j => A j ∨ (H.nx ≤ j ∧ j < H'.nx)) H' := ⟨fun j hj => .inl hj, fun j hj => (hkept.get j (hH.lt j hj)).trans (hH.base j hj), hw0.trans hH.w0.symm⟩
    refine ⟨u, H', H', _, L, .inr ⟨hw0, g, vs, ?_, hcall⟩, hH.fresh hkept (fun j hj => hj), hD.fresh (H := H) hgr, h u H' _ hgr hT⟩
    simp only [acallee, hc, aval_func, hg, ha.ok, List.append_nil, List.nil_append]
end

/-! ### entering and leaving -/
section
variable {P : Program} {E : Env P} {n : Nat} {t : Tr Value} {l : List (Nat × Value)} {S H0 : AH} {A0 A : Nat → Prop} {L : OL} {R : Value → AH → Prop} {rs : List ResultVar}

theorem fn_own {names : ∀ (f : Nat) (F : Func), P.funcs[f]? = some F → (F.name == "runtime.NumGoroutine") = false} {eqT : Nat → Bool} {h : ∀ t, eqT t = true → P.stoodInHeld t = false ∧ P.eqGuardType P.depth t = false} {g : Nat} {F : Func} {c : Code} {n : Nat} {rs : List ResultVar} (hF : P.funcs[g]? = some F) (hb : F.body = some c) (hn : F.ntmps = n) (hr : F.results.toList = rs) :
    (Env.own P names eqT h).fn g = some ⟨n, rs, c⟩ := by
  simp only [Env.own, hF, hb, hn, hr]
theorem x_enter {g : FuncId} {c : Code} {args : List Value} (hg : E.fn g = some ⟨n, rs, c⟩) (hA : ∀ j, A0 j → j < S.nx) (hf : mkFr args n = fr n .nil l) (h : SX P c (retK E rs R) (fr n .nil l) S A0 S A0 []) : XCall P g args S R :=
  XCall.body E hg (by rw [hf]; exact h S (HS.start hA))
inductive ResOk (E : Env P) (S H0 : AH) (A0 A : Nat → Prop) (L : OL) (l : List (Nat × Value)) : List ResultVar → List Value → Prop
  | nil : ResOk E S H0 A0 A L l [] []
  | tmp {s : Nat} {v : Value} {rs : List ResultVar} {vs : List Value} (h : look s l = some v) (k : ResOk E S H0 A0 A L l rs vs) : ResOk E S H0 A0 A L l (.tmp s :: rs) (v :: vs)
  | cell {s : Nat} {ty : TypeId} {a : Addr} {v : Value} {rs : List ResultVar} {vs : List Value} (h : look s l = some (.pointer (some a))) (hl : LoadOk E S H0 A0 A L ty a v) (k : ResOk E S H0 A0 A L l rs vs) : ResOk E S H0 A0 A L l (.cell s ty :: rs) (v :: vs)
theorem ResOk.ok {vs : List Value} (h : ResOk E S H0 A0 A L l rs vs) {H : AH} (hH : HS S H0 A0 A L H) : aresults E (fr n t l) H rs = some vs := by
  induction h with
  | nil => rfl
  | tmp h k ih => simp only [aresults, aresult, aval_tmp, h, ih]
  | cell h hl k ih => simp only [aresults, aresult, aval_tmp, h, hl H hH, ih]
theorem sk_return {vs : List Value} (hr : ResOk E S H0 A0 A L l rs vs) {v : Value} (hv : tupleUp vs = v) (h : ∀ H, HS S H0 A0 A L H → R v H) : SK (retK E rs R) .ret (fr n t l) S A0 H0 A L := fun H hH => ⟨.inr rfl, vs, hr.ok hH, by rw [hv]; exact h H hH⟩
theorem sk_returnN {vs : List Value} (hr : ResOk E S H0 A0 A L l rs vs) {v : Value} (hv : tupleUp vs = v) (h : ∀ H, HS S H0 A0 A L H → R v H) : SK (retK E rs R) .normal (fr n t l) S A0 H0 A L := fun H hH => ⟨.inl rfl, vs, hr.ok hH, by rw [hv]; exact h H hH⟩
theorem sk_return1 {r : ResultVar} {v : Value} (hr : ResOk E S H0 A0 A L l [r] [v]) (h : ∀ H, HS S H0 A0 A L H → R v H) : SK (retK E [r] R) .ret (fr n t l) S A0 H0 A L := sk_return hr rfl h
theorem sk_return1N {r : ResultVar} {v : Value} (hr : ResOk E S H0 A0 A L l [r] [v]) (h : ∀ H, HS S H0 A0 A L H → R v H) : SK (retK E [r] R) .normal (fr n t l) S A0 H0 A L := sk_returnN hr rfl h
theorem sk_return2 {r r' : ResultVar} {v v' : Value} (hr : ResOk E S H0 A0 A L l [r, r'] [v, v']) (h : ∀ H, HS S H0 A0 A L H → R (.tuple ⟨[v, v']⟩) H) : SK (retK E [r, r'] R) .ret (fr n t l) S A0 H0 A L := sk_return hr rfl h
theorem sk_return2N {r r' : ResultVar} {v v' : Value} (hr : ResOk E S H0 A0 A L l [r, r'] [v, v']) (h : ∀ H, HS S H0 A0 A L H → R (.tuple ⟨[v, v']⟩) H) : SK (retK E [r, r'] R) .normal (fr n t l) S A0 H0 A L := sk_returnN hr rfl h
end
end Go.AM
