/-
  An abstract machine that runs a program of the given form, and its soundness, part 2.
-/
import Derived.Test.YthgfcpgjabodoaaGreatDoorAb1
import Derived.Laws.Externs
import Derived.Laws.BytesString
import Derived.Lib.UnsafeStr
import Derived.LoopN
import Derived.Carry
import GoSem.ClaimChange
set_option linter.unusedVariables false
set_option linter.unusedSimpArgs false
set_option linter.unusedSectionVars false
noncomputable section
namespace Go.AM
open Go.RowKit
variable [σ : Sg]
section
variable {P : Program} (E : Env P)
def aun (op : UnOp) (x : Value) : Option Value :=
 match op, x with
 | .neg, .int k n => some (.int k (k.wrap (0 - n)))
 | .xor, .int k n => some (.int k (bits .xor k (if k.signed then -1 else k.max) n))
 | .not, .bool b => some (.bool !b)
 | _, _ => none
theorem aNp {φ : List Place} {op : UnOp} {x x' v : Value} (hx : VR φ x x') (h : aun op x = some v) (w : World) : ∃ v', VR φ v v' ∧ (Op.unary op x').run P w = .ok v' w := by
 unfold aun at h
 split at h
 ·cases h; cases hx; exact ⟨_, .int _ _, by simp [Op.unary, Op.intArith]⟩
 ·cases h; cases hx; exact ⟨_, .int _ _, by simp only [Op.unary, intBits_xor]; rfl⟩
 ·cases h; cases hx; exact ⟨_, .bool _, by simp [Op.unary]⟩
 ·cases h
def aJz {P : Program} (E : Env P) (op : UnOp) (x : Value) : Option Value :=
 match aun op x with
 | some v => some v
 | none => E.ou op x
theorem aFx {P : Program} (E : Env P) {φ : List Place} {op : UnOp} {x x' v : Value} (hx : VR φ x x') (h : aJz E op x = some v) (w : World) : ∃ v', VR φ v v' ∧ (Op.unary op x').run P w = .ok v' w := by
 unfold aJz at h
 split at h
 ·rename_i u hu; cases h; exact aNp hx hu w
 ·exact E.ou_ok φ op _ _ _ h hx w
def lO : List Value → Option (List UInt8)
 | [] => some []
 | .int .u8 n :: r => (match lO r with
  | some l => some (UInt8.ofNat n.toNat :: l)
  | none => none)
 | _ => none
theorem nU {φ : List Place} : ∀ {l l' : List Value} {bs : List UInt8}, VRs φ l l' → lO l = some bs → ∃ ns : List Int, l' = ns.map (Value.int .u8) ∧ bs = ns.map fun n => UInt8.ofNat n.toNat
 | [], [], bs, _, h => by simp [lO] at h; subst h; exact ⟨[], rfl, rfl⟩
 | [], _ :: _, _, h, _ => by have := h.1; simp at this
 | _ :: _, [], _, h, _ => by have := h.1; simp at this
 | v :: l, v' :: l', bs, hr, h => by
  unfold lO at h
  split at h
  ·rename_i e; cases e
  ·rename_i n r e
   cases e
   split at h
   ·rename_i bs' hb
    cases h
    obtain ⟨ns, h1, h2⟩ := nU hr.tail hb
    have := hr.head
    cases this
    exact ⟨n :: ns, by simp [h1], by simp [h2]⟩
   ·cases h
  ·cases h
theorem vJ (ns : List Int) : ∀ s : ByteArray, ns.foldl (fun r n => r.push (UInt8.ofNat n.toNat)) s = ⟨⟨s.data.toList ++ ns.map fun n => UInt8.ofNat n.toNat⟩⟩ := by
 induction ns with
 | nil => intro s; simp
 | cons n ns ih =>
  intro s
  rw [List.foldl_cons, ih]
  congr 2
  show ((s.data.push _).toList ++ _) = _
  simp
def mH (src dst : TypeId) (x : Value) (H : AH) : Option (Value × AH) :=
 match E.und src, E.und dst, x with
 | some _, some (.int k), .int _ n => some (.int k (k.wrap n), H)
 | some _, some .string, .string s => some (.string s, H)
 | some .string, some (.slice e), .string s => (match E.und e with
  | some (.int .u8) => some (eD H s.data.toList.length s.data.toList.length, fT H (.cells (s.data.toList.map fun b => .int .u8 b.toNat) 1 false))
  | _ => none)
 | some (.slice e), some .string, .slice base l _ => (match E.und e with
  | some (.int .u8) => (match base with
   | none => some (.string ⟨⟨[]⟩⟩, H)
   | some a => (match aloads H a l with
    | some cs => (match lO cs with
     | some bs => some (.string ⟨⟨bs⟩⟩, H)
     | none => none)
    | none => none))
  | _ => none)
 | some (.slice _), some (.slice e), .slice (some a) l c => bif Nat.beq src dst && (Nat.ble 1 c && !(Nat.beq (a.block % 2) 0)) then (match E.und e, H.tr.get (a.block / 2) with
  | some (.int .u8), some (.cells _ _ _) => some (.slice (some a) l c, H)
  | _, _ => none) else none
 | some (.pointer t), some .unsafePointer, .pointer (some a) => bif Nat.beq (a.block % 2) 0 then none else (match E.inf t, H.tr.get (a.block / 2) with
  | some i, some (.cells cs _ _) => bif Nat.beq i.size 0 then none else bif Nat.blt a.off cs.length then some (.pointer (some a), H) else none
  | _, _ => none)
 | some .unsafePointer, some (.pointer u), .pointer (some a) => bif Nat.beq (a.block % 2) 0 then none else (match E.inf u, H.tr.get (a.block / 2) with
  | some i, some (.cells cs sz true) => bif Nat.beq i.size 0 then none else bif Nat.beq sz (u + fK) && (Nat.blt 5 u && (Nat.beq a.off 0 && Nat.beq cs.length i.size)) then some (.pointer (some a), H) else none
  | _, _ => none)
 | _, _, _ => none
theorem aEd {P : Program} {e : TypeId} (hc : P.cellsOf e ≠ 0) : liesAt P P.depth e 1 0 e 1 = true := by
 have hd : P.depth = (2 * (P.types.size + Made.depth) + 1) + 1 := rfl
 rw [hd]
 simp only [liesAt, Bool.or_eq_true]
 left
 rw [hd]
 simp [rowAt, hc, sameLayout]
theorem kY {P : Program} {w : World} {b : Nat} {C : Array Value} {e : TypeId} {f : Nat × Nat} (h : w.heap[b]? = some (.cells C e f)) : (viewAt b).run P w = .ok none w := by
 simp [viewAt, run_shape, World.shape?, h]
theorem rI {P : Program} {w : World} {b : Nat} {C : Array Value} {e : TypeId} {f : Nat × Nat} (h : w.heap[b]? = some (.cells C e f)) : (cellsIn b).run P w = .ok (some C.size) w := by
 simp [cellsIn, run_shape, World.shape?, h]
theorem Rel.marked [Pins] {φ : List Place} {H : AH} {w : World} (R : Rel φ H w) {i : Nat} {cs : List Value} {sz : Nat} {ex : Bool} (hg : H.tr.get i = some (.cells cs sz ex)) {p : Place} (hp : φ[i]? = some p) :
 ∃ e n, w.shape? p.blk = some (e, n) ∧ Rel φ H (w.freeze ⟨p.blk, n, none⟩ 1) := by
 obtain ⟨q, hq, hN, hO⟩ := R.obj _ _ hg
 rw [hp] at hq; cases hq
 obtain ⟨C, e, lo, hi, hx, hf, hrest⟩ := hO
 have hblk := alt_of_getElem? hx
 refine ⟨e, C.size, by simp only [World.shape?, hx], ?_⟩
 have hfr : ∀ k, (w.freeze ⟨p.blk, C.size, none⟩ 1).heap[k]? = if k = p.blk then some (.cells C e (if lo == hi then (C.size, C.size + 1) else (min lo C.size, max hi (C.size + 1)))) else w.heap[k]? := by
  intro k
  unfold World.freeze
  rw [if_neg (by omega)]
  simp only [Array.getElem?_modify]
  by_cases hk : p.blk = k
  ·subst hk; rw [if_pos rfl, if_pos rfl, hx]; rfl
  ·rw [if_neg hk, if_neg (fun h => hk h.symm)]
 have hsize : (w.freeze ⟨p.blk, C.size, none⟩ 1).heap.size = w.heap.size := by
  unfold World.freeze
  rw [if_neg (by omega)]
  simp
 have hos : (w.freeze ⟨p.blk, C.size, none⟩ 1).os = w.os ∧ (w.freeze ⟨p.blk, C.size, none⟩ 1).tape = w.tape ∧ (w.freeze ⟨p.blk, C.size, none⟩ 1).output = w.output := by
  unfold World.freeze
  rw [if_neg (by omega)]
  exact ⟨rfl, rfl, rfl⟩
 refine ⟨⟨hos.1.trans R.below.os, hos.2.1.trans R.below.tape, hos.2.2.trans R.below.output, by rw [hsize]; exact R.below.size, fun k hk => ?_⟩, R.len, fun j o' hj => ?_, R.inj, fun b x hb => ?_, fun i p hp => by rw [hsize]; exact R.lt i p hp⟩
 ·have hk' : k < H.w0.heap.size := hk
  rw [hfr, if_neg (by omega)]; exact R.below.block k hk
 ·obtain ⟨q, hq, hNq, hOq⟩ := R.obj _ _ hj
  refine ⟨q, hq, hNq, ?_⟩
  by_cases hji : q.blk = p.blk
  ·have : j = i := R.inj j i _ _ q p hj hg hq hp hji
   subst this
   rw [hp] at hq; cases hq
   rw [hg] at hj; cases hj
   refine ⟨C, e, _, _, by rw [hfr, if_pos rfl], fun k hk hlo => ?_, hrest⟩
   exfalso
   by_cases hlh : lo = hi
   ·simp only [hlh, beq_self_eq_true, if_true] at hlo; omega
   ·have hb : (lo == hi) = false := by simpa using hlh
    rw [hb] at hlo
    simp only [Bool.false_eq_true, if_false] at hlo
    by_cases hlk : lo ≤ k
    ·exact hlh (hf k hk hlk)
    ·omega
  ·rw [hfr, if_neg hji]; exact hOq
 ·have hpb := R.pin b x hb
  refine ⟨?_, hpb.2⟩
  rw [hfr, if_neg (fun e => hpb.2 _ _ hp e.symm)]
  exact hpb.1
theorem zC (w : World) (C : Array Value) (e : TypeId) (n : Nat) : (w.alloc (.cells C e)).freeze ⟨w.heap.size, n, none⟩ 1 = w.alloc (.cells C e (n, n + 1)) := by
 unfold World.freeze
 rw [if_neg (by omega)]
 unfold World.alloc
 congr 1
 apply Array.ext_getElem?
 intro k
 rw [Array.getElem?_modify, Array.getElem?_push, Array.getElem?_push]
 by_cases hk : k = w.heap.size
 ·subst hk; simp
 ·rw [if_neg hk, if_neg (fun h => hk h.symm), if_neg hk]
theorem aLc [Pins] {φ : List Place} {H H' : AH} {w : World} (R : Rel φ H w) {src dst : TypeId} {x x' v : Value} (hx : VR φ x x') (h : mH E src dst x H = some (v, H')) : SOk P (convert src dst x') φ w v H' := by
 unfold mH at h
 split at h
 ·rename_i d k k2 n hs hd
  cases h; cases hx
  refine .here R (.int _ _) ?_
  cases d <;> simp [convert, aO E hs, aO E hd, Conv.intToInt]
 ·rename_i d s hs hd
  cases h; cases hx
  refine .here R (.string _) ?_
  cases d <;> simp [convert, aO E hs, aO E hd]
 ·rename_i e s hs hd
  cases hx
  split at h
  ·rename_i he
   cases h
   have key : ∀ bs : List UInt8, VRs φ (bs.map fun b => Value.int .u8 (b.toNat : Int)) (bs.map fun b => Value.int .u8 (b.toNat : Int)) := by
    intro bs
    induction bs with
    | nil => exact VRs.nil φ
    | cons b bs ih => exact VRs.cons (.int _ _) ih
   have hc := key s.data.toList
   have hlen : s.data.toList.length = s.size := by rw [Array.length_toList]; rfl
   let cap := (Question.appendCap s.size 0 e).cut (w.tape w.drawn (.appendCap s.size 0 e))
   have hcap : s.size ≤ cap := by simp [cap, Question.cut]
   let more := List.replicate (cap - s.size) (Value.int .u8 0)
   let C := (s.data.toList.map fun b => Value.int .u8 (b.toNat : Int)) ++ more
   have hCl : C.length = cap := by simp [C, more, hlen]; omega
   have hR := R.drew.new (.cells (s.data.toList.map fun b => Value.int .u8 (b.toNat : Int)) 1 false) (.cells C.toArray e (cap, cap + 1)) cap 1
    ⟨C.toArray, e, cap, cap + 1, rfl, fun k hk => by simp [hCl] at hk; omega, by simp [hCl], ⟨rfl, SzE.small (by decide), fun _ => rfl⟩, by simp [hCl, hlen]; omega, fun h => by simp at h, by
     have := hc.mono (φ' := φ ++ [⟨w.drew.heap.size, 0, cap, 1⟩]) ⟨_, rfl⟩
     simpa [C] using this⟩
   refine ⟨_, _, _, ⟨_, rfl⟩, hR, .slc (SRel.new R.len ⟨w.heap.size, 0, cap, 1⟩ rfl (c' := cap) (Nat.le_refl _) (by omega) (by show cap * esz 1 ≤ cap; rw [eB (by decide), Nat.mul_one]; exact Nat.le_refl _)), ?_⟩
   have hq : (Question.appendCap s.size 0 e).forced = false := rfl
   have hC : (s.data.map fun b => Value.int .u8 (b.toNat : Int)) ++ Array.replicate (cap - s.size) (.int .u8 0) = C.toArray := by
    rw [← Array.toList_inj]; simp [C, more]
   have hsh : (w.drew.alloc (.cells C.toArray e)).shape? w.heap.size = some (e, cap) := by
    simp only [World.shape?]
    rw [show (w.drew.alloc (.cells C.toArray e)).heap[w.heap.size]? = some (.cells C.toArray e) from heap_alloc_new w.drew _]
    simp [hCl]
   have hfr := zC w.drew C.toArray e cap
   have hsz : w.drew.heap.size = w.heap.size := rfl
   simp only [convert, Sem.run_bind, aO E hs, aO E hd, aO E he, Result.andThen_ok, Conv.stringToBytes, run_choose, hq, Bool.false_eq_true, if_false, World.drew_eq, newRow, run_newObj, World.alloc_eq, Sem.run_pure, markStringish, run_shape]
   rw [show (Question.appendCap s.size 0 e).cut (w.tape w.drawn (.appendCap s.size 0 e)) = cap from rfl, hC]
   simp only [hsz, hsh, run_freeze, Result.andThen_ok, hlen]
   rw [hsz] at hfr
   rw [hfr]
  ·cases h
 ·rename_i e base l c hs hd
  split at h
  ·rename_i he
   split at h
   ·cases h; cases hx
    refine .here R (.string _) ?_
    rw [run_convert_bytes_string w src dst e _ _ _ (E.und_ok _ _ hs) (E.und_ok _ _ he) (E.und_ok _ _ hd)]
    rfl
   ·rename_i a
    split at h
    ·rename_i cs hcs
     split at h
     ·rename_i bs hbs
      cases h
      cases hx with
      | @slc _ a' _ _ c' hsl =>
       have hA : l = 0 ∨ ARel φ a a' := by
        rcases hsl with ⟨_, _, hA⟩ | ⟨_, h1, h2, h3 | ⟨hA, _⟩⟩
        ·exact .inr hA
        ·left; omega
        ·exact .inr hA
       obtain ⟨l', h1, h2, h3⟩ := lE R hA hcs
       obtain ⟨ns, rfl, rfl⟩ := nU h1 hbs
       have hrun := run_loadCells_list (P := P) w a' _ h3
       rw [h2] at hrun
       refine .here R (.string _) ?_
       rw [run_convert_bytes_string w src dst e _ _ _ (E.und_ok _ _ hs) (E.und_ok _ _ he) (E.und_ok _ _ hd), run_bytesToString w a' l c' ns hrun, vJ]
       rfl
     ·cases h
    ·cases h
  ·cases h
 ·rename_i e0 e a l c hs hd
  cases hb : (Nat.beq src dst && (Nat.ble 1 c && !(Nat.beq (a.block % 2) 0))) with
  | false => rw [hb] at h; cases h
  | true =>
   rw [hb, cond_true] at h
   simp only [Bool.and_eq_true, Bool.not_eq_true'] at hb
   obtain ⟨hsd, hc1, hodd⟩ := hb
   have hsd := Nat.eq_of_beq_eq_true hsd
   have hc1 := Nat.le_of_ble_eq_true hc1
   have hodd := fB hodd
   subst hsd
   obtain rfl : e0 = e := by rw [hs] at hd; cases hd; rfl
   split at h
   ·rename_i cs sz ex he hg
    cases h
    cases hx with
    | @slc _ a' _ _ c' hsl =>
     rcases hsl with ⟨h0, _⟩ | ⟨_, h1, h2, h3⟩
     ·omega
     ·rcases h3 with h3 | ⟨hA, _⟩
      ·omega
      ·have hA2 := hA
       rcases hA2 with ⟨h0, _⟩ | ⟨_, _, _, p, hp, hblk, _⟩
       ·omega
       ·obtain ⟨e2, n, hsh, hR⟩ := R.marked hg hp
        refine ⟨φ, .slice (some a') l c', _, List.prefix_refl _, hR, .slc ?_, ?_⟩
        ·exact .inr ⟨hodd, h1, h2, .inr ⟨hA, by assumption⟩⟩
        ·simp only [convert, Sem.run_bind, aO E hs, aO E hd, aO E he, Result.andThen_ok, beq_self_eq_true, markStringish, run_shape, hblk, hsh, run_freeze, Sem.run_pure]
   ·cases h
 ·rename_i t a hs hd
  cases hev : Nat.beq (a.block % 2) 0 with
  | true => rw [hev] at h; cases h
  | false =>
   rw [hev, cond_false] at h
   have hodd := fB hev
   split at h
   ·rename_i i cs sz ex hi hg
    cases hz : Nat.beq i.size 0 with
    | true => rw [hz] at h; cases h
    | false =>
     rw [hz, cond_false] at h
     cases hb : Nat.blt a.off cs.length with
     | false => rw [hb] at h; cases h
     | true =>
      rw [hb, cond_true] at h
      cases h
      have hlt : a.off + 1 ≤ cs.length := Nat.le_of_ble_eq_true hb
      have hz' : ¬ i.size = 0 := fun q => by rw [q] at hz; cases hz
      cases hx with
      | @ptr _ a' hA =>
       have hA2 := hA
       rcases hA2 with ⟨h0, _⟩ | ⟨_, _, _, p, hp, hblk, hoff⟩
       ·omega
       ·obtain ⟨q, hq, _, C, e, lo, hi2, hxx, _, _, _, hle, _, _⟩ := R.obj _ _ hg
        rw [hp] at hq; cases hq
        rw [← hblk] at hxx
        refine .here R (.ptr hA) ?_
        have hge : ¬ (C.size ≤ a'.off) := by omega
        simp [convert, aO E hs, aO E hd, Conv.unsafePointer, Conv.seenAt, kY hxx, rI hxx, aZ E hi, hz', hge]
   ·cases h
 ·rename_i u a hs hd
  cases hev : Nat.beq (a.block % 2) 0 with
  | true => rw [hev] at h; cases h
  | false =>
   rw [hev, cond_false] at h
   have hodd := fB hev
   split at h
   ·rename_i i cs sz hi hg
    cases hz : Nat.beq i.size 0 with
    | true => rw [hz] at h; cases h
    | false =>
     rw [hz, cond_false] at h
     cases hb : (Nat.beq sz (u + fK) && (Nat.blt 5 u && (Nat.beq a.off 0 && Nat.beq cs.length i.size))) with
     | false => rw [hb] at h; cases h
     | true =>
      rw [hb, cond_true] at h
      cases h
      simp only [Bool.and_eq_true] at hb
      obtain ⟨b1, b2, b3, b4⟩ := hb
      have b1 := Nat.eq_of_beq_eq_true b1
      have b2 : 5 + 1 ≤ u := Nat.le_of_ble_eq_true b2
      have b3 := Nat.eq_of_beq_eq_true b3
      have b4 := Nat.eq_of_beq_eq_true b4
      have hz' : ¬ i.size = 0 := fun q => by rw [q] at hz; cases hz
      cases hx with
      | @ptr _ a' hA =>
       have hA2 := hA
       rcases hA2 with ⟨h0, _⟩ | ⟨_, _, _, p, hp, hblk, hoff⟩
       ·omega
       ·obtain ⟨q, hq, _, C, e, lo, hi2, hxx, _, _, ⟨_, hse, hba⟩, _, hex, _⟩ := R.obj _ _ hg
        rw [hp] at hq; cases hq
        rw [← hblk] at hxx
        have hbase := hba (by rw [b1]; exact Nat.lt_of_lt_of_le (Nat.add_lt_add_left b2 fK) (Nat.le_of_eq (Nat.add_comm fK u)))
        have he : e = u := Nat.add_right_cancel ((hse (by rw [b1]; exact Nat.le_add_left _ _)).trans b1)
        subst he
        have hex := hex rfl
        obtain ⟨ii, hii, e1, _⟩ := E.inf_ok _ _ hi
        have hcell : P.cellsOf e = i.size := by simp [Program.cellsOf, hii, e1]
        have hC : C.size / P.cellsOf e = 1 := by rw [hcell, show C.size = i.size by omega]; exact Nat.div_self (by omega)
        have hoff0 : a'.off = 0 := by omega
        have hva : (variablesAt a' e 1).run P w = .ok true w := by
         simp [variablesAt, run_shape, World.shape?, hxx, hC, hoff0, aEd (P := P) (e := e) (by rw [hcell]; exact hz')]
        refine .here R (.ptr hA) ?_
        simp [convert, aO E hs, aO E hd, Conv.unsafePointer, Conv.seenAt, kY hxx, aZ E hi, hz', hva]
   ·cases h
 ·cases h
theorem aDf {P : Program} {e : TypeId} (hc : P.cellsOf e = 1) (count off n : Nat) (hn : off + n ≤ count) : liesAt P P.depth e count off e n = true := by
 have hd : P.depth = (2 * (P.types.size + Made.depth) + 1) + 1 := rfl
 rw [hd]
 simp only [liesAt, Bool.or_eq_true]
 left
 rw [hd]
 simp [rowAt, hc, hn, sameLayout, Nat.mod_one]
theorem kW {P : Program} {w : World} : ∀ (ns : List Int) (a : Addr) (acc : ByteArray), (∀ j v, (ns.map (Value.int .u8))[j]? = some v → w.cell? (a.add j) = some v) →
 (loadBytes a acc ns.length).run P w = .ok ⟨⟨acc.data.toList ++ ns.map fun n => UInt8.ofNat n.toNat⟩⟩ w
 | [], a, acc, _ => by simp [loadBytes]
 | x :: l, a, acc, h => by
  have h0 : w.cell? a = some (.int .u8 x) := by
   have := h 0 _ rfl
   simpa [Addr.add] using this
  have ih := kW (P := P) l (a.add 1) (acc.push x.toNat.toUInt8) (fun j y hy => by
   have := h (j + 1) y (by simpa using hy)
   have e : (a.add 1).add j = a.add (j + 1) := by
    unfold Addr.add
    by_cases hj : j = 0
    ·subst hj; simp
    ·simp [hj]; omega
   rw [e]; exact this)
  simp only [List.length_cons, loadBytes, Sem.run_bind, run_load, h0, Result.andThen_ok]
  rw [ih]
  congr 3
  simp [ByteArray.push]
theorem Rel.dead [Pins] {φ : List Place} {H : AH} {w : World} (R : Rel φ H w) {i : Nat} {o : AObj} (hg : H.tr.get i = some o) {p : Place} (hp : φ[i]? = some p) (off n : Nat) :
 Rel φ { H with tr := H.tr.set i none } (w.freeze ⟨p.blk, off, none⟩ n) := by
 obtain ⟨q, hq, hN, _⟩ := R.obj _ _ hg
 rw [hp] at hq; cases hq
 have hfr : ∀ k, k ≠ p.blk → (w.freeze ⟨p.blk, off, none⟩ n).heap[k]? = w.heap[k]? := by
  intro k hk
  unfold World.freeze
  split
  ·rfl
  ·simp only [Array.getElem?_modify]
   rw [if_neg (fun h => hk h.symm)]
 have hsize : (w.freeze ⟨p.blk, off, none⟩ n).heap.size = w.heap.size := by
  unfold World.freeze
  split
  ·rfl
  ·simp
 have hos : (w.freeze ⟨p.blk, off, none⟩ n).os = w.os ∧ (w.freeze ⟨p.blk, off, none⟩ n).tape = w.tape ∧ (w.freeze ⟨p.blk, off, none⟩ n).output = w.output := by
  unfold World.freeze
  split
  ·exact ⟨rfl, rfl, rfl⟩
  ·exact ⟨rfl, rfl, rfl⟩
 have hget : ∀ j o', ({ H with tr := H.tr.set i none } : AH).tr.get j = some o' → j ≠ i ∧ H.tr.get j = some o' := by
  intro j o' hj
  simp only [Tr.get_set] at hj
  by_cases e : j = i
  ·rw [if_pos e] at hj; cases hj
  ·rw [if_neg e] at hj; exact ⟨e, hj⟩
 refine ⟨⟨hos.1.trans R.below.os, hos.2.1.trans R.below.tape, hos.2.2.trans R.below.output, by rw [hsize]; exact R.below.size, fun k hk => ?_⟩, R.len, fun j o' hj => ?_, fun a b o1 o2 p1 p2 h1 h2 => R.inj a b o1 o2 p1 p2 (hget _ _ h1).2 (hget _ _ h2).2, fun b x hb => ?_, fun i p hp => by rw [hsize]; exact R.lt i p hp⟩
 ·have hk' : k < H.w0.heap.size := hk
  rw [hfr _ (by omega)]; exact R.below.block k hk
 ·obtain ⟨hne, hj⟩ := hget _ _ hj
  obtain ⟨q, hq, hNq, hOq⟩ := R.obj _ _ hj
  refine ⟨q, hq, hNq, ?_⟩
  rw [hfr _ (fun e => hne (R.inj j i _ _ q p hj hg hq hp e))]
  exact hOq
 ·have hpb := R.pin b x hb
  refine ⟨?_, hpb.2⟩
  rw [hfr _ (fun e => hpb.2 _ _ hp e.symm)]
  exact hpb.1
def pQ : Value → Option Value
 | .slice none _ _ => some (.pointer none)
 | .slice (some a) l c => bif Nat.beq c 0 then none else some (.pointer (some a))
 | _ => none
theorem xJ {P : Program} {φ : List Place} {x x' v : Value} (hx : VR φ x x') (h : pQ x = some v) (ts : Array TypeId) (ty : TypeId) (w : World) : ∃ v', VR φ v v' ∧ (Builtin.unsafeSliceData_ ts ty #[x']).run P w = .ok v' w := by
 unfold pQ at h
 split at h
 ·cases h; cases hx; exact ⟨_, .pnil, Lib.run_unsafeSliceData_nil w ts ty _ _⟩
 ·rename_i a l c
  cases hz : Nat.beq c 0 with
  | true => rw [hz] at h; cases h
  | false =>
   rw [hz, cond_false] at h
   cases h
   have hc : c ≠ 0 := fun e => by subst e; simp at hz
   cases hx with
   | @slc _ a' _ _ c' hsl =>
    have hA : ARel φ a a' ∧ c' ≠ 0 := by
     rcases hsl with ⟨_, h1, hA⟩ | ⟨_, h1, h2, h3 | ⟨hA, _⟩⟩
     ·exact ⟨hA, by omega⟩
     ·omega
     ·exact ⟨hA, by omega⟩
    exact ⟨_, .ptr hA.1, Lib.run_unsafeSliceData_row w ts ty a' l c' hA.2⟩
 ·cases h
def nI (pt : TypeId) (x y : Value) (H : AH) : Option (Value × AH) :=
 match x, y with
 | .pointer p, .int .i64 n => bif n == 0 then some (.string ⟨⟨[]⟩⟩, H) else (match p with
  | some a => bif Nat.beq (a.block % 2) 0 then none else (match E.und pt, E.inf 5, H.tr.get (a.block / 2) with
   | some (.pointer t), some i, some (.cells _ sz _) => bif (Nat.beq t 5 && Nat.beq i.size 1) && (Nat.beq sz (5 + fK) && (decide (0 ≤ n) && Nat.ble n.toNat 1099511627776)) then (match aloads H a n.toNat with
    | some cs => (match lO cs with
     | some bs => some (.string ⟨⟨bs⟩⟩, { H with tr := H.tr.set (a.block / 2) none })
     | none => none)
    | none => none) else none
   | _, _, _ => none)
  | none => none)
 | _, _ => none
theorem aCj [Pins] {φ : List Place} {H H' : AH} {w : World} (R : Rel φ H w) {pt it ty : TypeId} {x x' y y' v : Value} (hx : VR φ x x') (hy : VR φ y y') (h : nI E pt x y H = some (v, H')) : SOk P (Builtin.unsafeString_ #[pt, it] ty #[x', y']) φ w v H' := by
 unfold nI at h
 split at h
 ·rename_i p n
  cases hn : (n == 0) with
  | true =>
   rw [hn, cond_true] at h
   have hn : n = 0 := by simpa using hn
   subst hn
   cases h
   cases hy
   cases hx with
   | pnil => exact .here R (.string _) (Lib.run_unsafeString_none w pt it ty none)
   | ptr hA => exact .here R (.string _) (Lib.run_unsafeString_none w pt it ty _)
  | false =>
   rw [hn, cond_false] at h
   have hn : n ≠ 0 := by simpa using hn
   split at h
   ·rename_i a
    cases hev : Nat.beq (a.block % 2) 0 with
    | true => rw [hev] at h; cases h
    | false =>
     rw [hev, cond_false] at h
     have hodd := fB hev
     split at h
     ·rename_i t i cs0 sz ex hu hi hg
      cases hb : ((Nat.beq t 5 && Nat.beq i.size 1) && (Nat.beq sz (5 + fK) && (decide (0 ≤ n) && Nat.ble n.toNat 1099511627776))) with
      | false => rw [hb] at h; cases h
      | true =>
       rw [hb, cond_true] at h
       simp only [Bool.and_eq_true, decide_eq_true_eq] at hb
       obtain ⟨⟨b1, b2⟩, b3, b4, b5⟩ := hb
       have b1 := Nat.eq_of_beq_eq_true b1
       have b2 := Nat.eq_of_beq_eq_true b2
       have b3 := Nat.eq_of_beq_eq_true b3
       have b5 := Nat.le_of_ble_eq_true b5
       subst b1
       split at h
       ·rename_i cs hcs
        split at h
        ·rename_i bs hbs
         cases h
         cases hy
         cases hx with
         | @ptr _ a' hA =>
          have hA2 := hA
          rcases hA2 with ⟨h0, _⟩ | ⟨_, _, hsp, p, hp, hblk, hoff⟩
          ·omega
          ·obtain ⟨l', h1, h2, h3⟩ := lE R (.inr hA) hcs
           obtain ⟨ns, rfl, rfl⟩ := nU h1 hbs
           have hlen : ns.length = n.toNat := by simpa using h2
           have hrun := kW (P := P) (w := w) ns a' .empty h3
           rw [hlen] at hrun
           obtain ⟨q, hq, _, C, e, lo, hi2, hxx, _, htot, ⟨_, hse, _⟩, hle, _, _⟩ := R.obj _ _ hg
           rw [hp] at hq; cases hq
           rw [← hblk] at hxx
           have he : e = 5 := Nat.add_right_cancel ((hse (by rw [b3]; exact Nat.le_add_left _ _)).trans b3)
           subst he
           have hle2 : a'.off + n.toNat ≤ C.size := by
            unfold aloads at hcs
            have hnn : Nat.beq n.toNat 0 = false := by
             cases hz : Nat.beq n.toNat 0 with
             | false => rfl
             | true => have := Nat.eq_of_beq_eq_true hz; omega
            rw [hnn, cond_false, hev, cond_false, hg] at hcs
            simp only at hcs
            cases hbl : Nat.ble (a.off + n.toNat) cs0.length with
            | false => rw [hbl] at hcs; cases hcs
            | true => have := Nat.le_of_ble_eq_true hbl; omega
           obtain ⟨ii, hii, e1, _⟩ := E.inf_ok _ _ hi
           have hcell : P.cellsOf 5 = 1 := by simp [Program.cellsOf, hii, e1, b2]
           have hva : (variablesAt a' 5 n.toNat).run P w = .ok true w := by
            simp [variablesAt, run_shape, World.shape?, hxx, hcell, aDf (P := P) hcell _ _ _ hle2]
           have hR := R.dead hg hp a'.off n.toNat
           have ha' : a' = ⟨p.blk, a'.off, none⟩ := by
            cases a'; simp only at hblk hsp ⊢; subst hblk; subst hsp; rfl
           rw [← ha'] at hR
           refine ⟨φ, _, _, List.prefix_refl _, hR, .string _, ?_⟩
           have hmax : IntKind.i64.max = 9223372036854775807 := rfl
           have g1 : ¬ (n < 0) := by omega
           have g2 : ¬ (9223372036854775807 < n) := by omega
           have hdef : Builtin.unsafeString_ #[pt, it] ty #[.pointer (some a'), .int .i64 n] =
            (do
             let n ← asInt (.int .i64 n)
             if n < 0 then runtimePanic (.error "unsafe.String: len out of range")
             if n > IntKind.i64.max then unsupported (.unsafePointer "String: a length above the largest int")
             if n = 0 then pure (.string .empty)
             else if ← variablesAt a' (← elemOf pt) n.toNat then do
              let s ← loadBytes a' .empty n.toNat
              freeze a' n.toNat
              pure (.string s)
             else unsupported (.unsafePointer "String: not so many bytes at ptr")) := rfl
           rw [hdef]
           simp [asInt, asIntOf, hmax, g1, g2, hn, hva, hrun, elemOf, aO E hu]
        ·cases h
       ·cases h
     ·cases h
   ·cases h
 ·cases h
def aBc (mx : Bool) : Value → List Value → Option Value
 | x, [] => some x
 | .int k a, .int k' b :: r => bif decide (k = k') then aBc mx (.int k (if (if mx then b > a else b < a) then b else a)) r else none
 | _, _ => none
theorem uJ {φ : List Place} (mx : Bool) : ∀ (l l' : List Value) (x x' v : Value), VR φ x x' → VRs φ l l' → aBc mx x l = some v → ∀ w, ∃ v', VR φ v v' ∧ (l'.foldlM (if mx then Builtin.max2 else Builtin.min2) x' : Sem Value).run P w = .ok v' w := by
 intro l
 induction l with
 | nil =>
  intro l' x x' v hx hl h w
  have : l' = [] := List.eq_nil_of_length_eq_zero hl.1.symm
  subst this
  cases x <;> (simp only [aBc] at h; cases h; exact ⟨x', hx, by simp⟩)
 | cons y l ih =>
  intro l' x x' v hx hl h w
  cases l' with
  | nil => have := hl.1; simp at this
  | cons y' l' =>
   cases x <;> (try (simp only [aBc] at h; cases h; done))
   cases y <;> (try (simp only [aBc] at h; cases h; done))
   rename_i k a k' b
   simp only [aBc] at h
   cases hk : decide (k = k') with
   | false => rw [hk] at h; cases h
   | true =>
    rw [hk, cond_true] at h
    simp only [decide_eq_true_eq] at hk
    subst hk
    cases hx
    have := hl.head
    cases this
    obtain ⟨v', h1, h2⟩ := ih l' _ _ v (.int k _) hl.tail h w
    refine ⟨v', h1, ?_⟩
    cases mx
    ·simpa [Builtin.min2] using h2
    ·simpa [Builtin.max2] using h2
end
structure Fr where
 n : Nat
 tr : Tr Value
def bS (f : Fr) : Operand → Value
 | .tmp t => (match f.tr.get t with
  | some v => v
  | none => undef)
 | .const v => ext v
 | .global g => .pointer (some ⟨2 * g, 0, none⟩)
 | .func g => .func (.func g) ⟨[]⟩ ⟨[]⟩
def FRel [π : Pins] (φ : List Place) (f : Fr) (a : Act) : Prop := a.defers = π.ds ∧ a.tmps.size = f.n ∧ ∀ t, VR φ (bS f (.tmp t)) (a.tmps.getD t undef)
theorem FRel.mono [Pins] {φ φ' : List Place} (h : φ <+: φ') {f : Fr} {a : Act} (r : FRel φ f a) : FRel φ' f a := ⟨r.1, r.2.1, fun t => (r.2.2 t).mono h⟩
theorem FRel.eval [Pins] {φ : List Place} {f : Fr} {a : Act} (r : FRel φ f a) (x : Operand) : VR φ (bS f x) (a.eval x) := by
 cases x with
 | tmp t => exact r.2.2 t
 | const v => exact VR.ext φ v
 | global g => exact .ptr (.inl ⟨by simp, by simp, rfl, rfl⟩)
 | func g => exact .func _ rfl rfl (fun i v v' h => by simp at h) (fun i v v' h => by simp at h)
def Fr.put (f : Fr) (d : Option Tmp) (v : Value) : Option Fr :=
 match d with
 | none => some f
 | some d => bif Nat.ble (d + 1) f.n then some { f with tr := f.tr.set d (some v) } else none
theorem FRel.put [Pins] {φ : List Place} {f g : Fr} {a : Act} (r : FRel φ f a) {d : Option Tmp} {v v' : Value} (hv : VR φ v v') (h : f.put d v = some g) : FRel φ g (a.put d v') := by
 unfold Fr.put at h
 cases d with
 | none => cases h; exact r
 | some d =>
  simp only at h
  cases hle : Nat.ble (d + 1) f.n with
  | false => rw [hle] at h; cases h
  | true =>
   rw [hle, cond_true] at h
   cases h
   have hle' := Nat.le_of_ble_eq_true hle
   refine ⟨r.1, by simp [Act.put, r.2.1], fun t => ?_⟩
   have hsz := r.2.1
   have hr := r.2.2 t
   simp only [bS, Act.put, Tr.get_set] at hr ⊢
   by_cases e : t = d
   ·subst e
    rw [if_pos rfl]
    simp only [Array.getD_eq_getD_getElem?, Array.getElem?_setIfInBounds, if_true]
    rw [if_pos (by omega)]
    exact hv
   ·rw [if_neg e]
    simp only [Array.getD_eq_getD_getElem?, Array.getElem?_setIfInBounds] at hr ⊢
    rw [if_neg (fun h => e h.symm)]
    exact hr
def cH (x : Option Value) (H : AH) : Option (Value × AH) :=
 match x with
 | some v => some (v, H)
 | none => none
def aKl : List Value → Option Value
 | [.int .u64 x, .int .u64 y, .int .u64 c] => if 0 ≤ x ∧ 0 ≤ y ∧ 0 ≤ c ∧ c ≤ 1 then some (.tuple ⟨[.int .u64 ((x + y + c) % 18446744073709551616), .int .u64 ((x + y + c) / 18446744073709551616)]⟩) else none
 | _ => none
def aQo : List Value → Option Value
 | [.string s, .int .u8 c] => some (.int .i64 (firstIdx s c.toNat.toUInt8))
 | _ => none
def aKh : List Value → Option Value
 | [.pointer (some a)] => some (.pointer (some a))
 | _ => none
def aSb (P : Program) (g : FuncId) (args : List Value) : Option Value :=
 match P.funcs[g]? with
 | some F => (match F.body with
  | some _ => none
  | none => bif F.origin == "" then (bif F.name == "math/bits.Add64" then aKl args else bif F.name == "internal/bytealg.IndexByteString" then aQo args else bif F.name == "internal/abi.NoEscape" then aKh args else none) else none)
 | none => none
theorem aDz (n : String) (h1 : Extern.allNextRows.lookup n = none) (h2 : Extern.allNextRows.lookup "" = none) {F : Func} (hn : F.name = n) (ho : F.origin = "") : Extern.findNext F = none := by
 simp only [Extern.findNext, hn, ho, h1, h2]; rfl
theorem aCw (n : String) {e : Array Value → Sem Value} (h1 : Extern.allGenericRows.lookup n = none) (h2 : Extern.allTypedRows.lookup n = none) (h3 : Extern.allRows.lookup n = some e) {F : Func} (hn : F.name = n) : Extern.find F = some e := by
 simp only [Extern.find, hn, h1, h2, h3]; rfl
theorem yX : Extern.allNextRows.lookup "" = none := by kernel_rfl
theorem aOl {P : Program} {φ : List Place} {g : FuncId} {args args' : List Value} {v : Value} (hv : VRs φ args args') (h : aSb P g args = some v) (w : World) : ∃ v', VR φ v v' ∧ (callFunc g ⟨args'⟩).run P w = .ok (.value v') w := by
 unfold aSb at h
 split at h
 ·rename_i F hF
  split at h
  ·cases h
  ·rename_i hb
   cases ho : (F.origin == "") with
   | false => rw [ho] at h; cases h
   | true =>
    rw [ho, cond_true] at h
    have ho : F.origin = "" := by simpa using ho
    have hb' : F.body.isNone = true := by rw [hb]; rfl
    cases hn : (F.name == "math/bits.Add64") with
    | true =>
     rw [hn, cond_true] at h
     have hn : F.name = "math/bits.Add64" := by simpa using hn
     unfold aKl at h
     split at h
     ·rename_i x y c
      split at h
      ·rename_i hc
       cases h
       obtain rfl := gS hv rfl
       refine ⟨_, VR.tuple' (VRs.cons (.int _ _) (VRs.cons (.int _ _) (VRs.nil φ))), ?_⟩
       have hr := run_callFunc_extern (P := P) (e := add64Entry) hF (by rw [hn]; rfl) hb' (aDz "math/bits.Add64" (by kernel_rfl) yX hn ho) (aCw "math/bits.Add64" (by kernel_rfl) (by kernel_rfl) (by kernel_rfl) hn) #[.int .u64 x, .int .u64 y, .int .u64 c] w
       rw [run_add64 x y c hc.1 hc.2.1 hc.2.2.1 hc.2.2.2] at hr
       exact hr
      ·cases h
     ·cases h
    | false =>
     rw [hn, cond_false] at h
     cases hn : (F.name == "internal/bytealg.IndexByteString") with
     | true =>
      rw [hn, cond_true] at h
      have hn : F.name = "internal/bytealg.IndexByteString" := by simpa using hn
      unfold aQo at h
      split at h
      ·rename_i s c
       cases h
       obtain rfl := gS hv rfl
       refine ⟨_, .int _ _, ?_⟩
       have hr := run_callFunc_extern (P := P) (e := Extern.BytealgIndexByte.indexByte) hF (by rw [hn]; rfl) hb' (aDz "internal/bytealg.IndexByteString" (by kernel_rfl) yX hn ho) (aCw "internal/bytealg.IndexByteString" (by kernel_rfl) (by kernel_rfl) (by kernel_rfl) hn) #[.string s, .int .u8 c] w
       rw [run_indexByte_string s c] at hr
       exact hr
      ·cases h
     | false =>
      rw [hn, cond_false] at h
      cases hn : (F.name == "internal/abi.NoEscape") with
      | true =>
       rw [hn, cond_true] at h
       have hn : F.name = "internal/abi.NoEscape" := by simpa using hn
       unfold aKh at h
       split at h
       ·rename_i a
        cases h
        match args', hv with
        | [x'], hv =>
         have hx := hv.2 0 _ _ rfl rfl
         refine ⟨x', hx, ?_⟩
         exact run_callFunc_extern (P := P) (e := Extern.AbiNoEscape.same) hF (by rw [hn]; rfl) hb' (aDz "internal/abi.NoEscape" (by kernel_rfl) yX hn ho) (aCw "internal/abi.NoEscape" (by kernel_rfl) (by kernel_rfl) (by kernel_rfl) hn) #[x'] w
        | [], hv => exact absurd hv.1 (by simp)
        | _ :: _ :: _, hv => exact absurd hv.1 (by simp)
       ·cases h
      | false => rw [hn] at h; cases h
 ·cases h
def aop {P : Program} (E : Env P) (ρ : Operand → Value) (op : Op) (H : AH) : Option (Value × AH) :=
 match op with
 | .move x => some (ρ x, H)
 | .assign x => some (ρ x, H)
 | .pick c a b => (match ρ c with
  | .bool true => some (ρ a, H)
  | .bool false => some (ρ b, H)
  | _ => none)
 | .alloc t => wT E t H
 | .box t x => some (aEb E t (ρ x) H)
 | .build t ps => cH (aAo E t (ps.toList.map fun x => (x.1, ρ x.2))) H
 | .buildSlice t n ps => fZ E t n (ps.toList.map fun x => (x.1, ρ x.2)) H
 | .load t x => (match ρ x with
  | .pointer (some a) => cH (iI E t a H) H
  | _ => none)
 | .store t x y => (match ρ x with
  | .pointer (some a) => (match jG E t a (ρ y) H with
   | some H' => some (undef, H')
   | none => none)
  | _ => none)
 | .nilCheck x => (match ρ x with
  | .pointer (some a) => some (.pointer (some a), H)
  | .func (.func g) a b => some (.func (.func g) a b, H)
  | _ => none)
 | .binOp op t x y _ => cH (cT E op t (ρ x) (ρ y)) H
 | .unOp op _ x => cH (aJz E op (ρ x)) H
 | .convert s d x => mH E s d (ρ x) H
 | .makeFunc fn a b => some (.func fn ⟨a.toList.map ρ⟩ ⟨b.toList.map ρ⟩, H)
 | .makeMap _ none => some (qG H)
 | .makeSlice t l c => lU E t (ρ l) (ρ c) H
 | .slice t x lo hi mx => cH (xE E t (ρ x) (lo.map ρ) (hi.map ρ) (mx.map ρ) H) H
 | .fieldAddr s x f => cH (jQ E s (ρ x) f) H
 | .field t x f => cH (aDx E t (ρ x) f) H
 | .indexAddr t x ix => cH (iS E t (ρ x) (ρ ix)) H
 | .index t x ix => cH (aAc E t (ρ x) (ρ ix)) H
 | .lookup t x ix ok => cH (aBy E t (ρ x) (ρ ix) ok H) H
 | .mapUpdate t m k x => (match hX E t (ρ m) (ρ k) (ρ x) H with
  | some H' => some (undef, H')
  | none => none)
 | .insert t m k x => (match hX E t (ρ m) (ρ k) (ρ x) H with
  | some H' => some (undef, H')
  | none => none)
 | .extract x i => cH (qT (ρ x) i) H
 | .call c => (match c.callee with
  | .builtin .len => (match c.args.toList, c.argTypes.toList with
   | [x], [t] => cH (aBg E t (ρ x) H) H
   | _, _ => none)
  | .builtin .cap => (match c.args.toList, c.argTypes.toList with
   | [x], [t] => cH (aRi E t (ρ x) H) H
   | _, _ => none)
  | .builtin .append => (match c.args.toList, c.argTypes.toList with
   | [s, x], [sT, xT] => iJ E sT xT (ρ s) (ρ x) H
   | _, _ => none)
  | .builtin .copy => (match c.args.toList, c.argTypes.toList with
   | [d, x], [dT, _] => aBi E dT (ρ d) (ρ x) H
   | _, _ => none)
  | .builtin .min => (match c.args.toList with
   | x :: r => cH (aBc false (ρ x) (r.map ρ)) H
   | _ => none)
  | .builtin .max => (match c.args.toList with
   | x :: r => cH (aBc true (ρ x) (r.map ρ)) H
   | _ => none)
  | .builtin .unsafeSliceData => (match c.args.toList with
   | [x] => cH (pQ (ρ x)) H
   | _ => none)
  | .builtin .unsafeString => (match c.args.toList, c.argTypes.toList with
   | [x, y], [pt, _] => nI E pt (ρ x) (ρ y) H
   | _, _ => none)
  | .value x => (match ρ x with
   | .func (.func g) ⟨[]⟩ ⟨[]⟩ => cH (aSb P g (c.args.toList.map ρ)) H
   | _ => none)
  | _ => none)
 | _ => none
def OOk [Pins] (P : Program) (o : Oper) (ρ : Operand → Value) (φ : List Place) (w : World) (v : Value) (H' : AH) : Prop :=
 ∃ φ' v' w', φ <+: φ' ∧ Rel φ' H' w' ∧ VR φ' v v' ∧ ((execOp ρ o).run P w = .ok (.value v') w' ∨ ((execOp ρ o).run P w = .ok .skip w' ∧ v' = undef))
theorem aJ {x : Option Value} {H H' : AH} {v : Value} (h : cH x H = some (v, H')) : x = some v ∧ H' = H := by
 unfold cH at h
 split at h
 ·cases h; exact ⟨rfl, rfl⟩
 ·cases h
theorem iE {φ : List Place} {ρ ρ' : Operand → Value} (h : ∀ x, VR φ (ρ x) (ρ' x)) : ∀ l : List Operand, VRs φ (l.map ρ) (l.map ρ')
 | [] => VRs.nil φ
 | x :: l => VRs.cons (h x) (iE h l)
theorem vU {φ : List Place} {ρ ρ' : Operand → Value} (h : ∀ x, VR φ (ρ x) (ρ' x)) (l : List (Nat × Operand)) (i n : Nat) (v : Value) (n' : Nat) (v' : Value)
 (h1 : (l.map fun x => (x.1, ρ x.2))[i]? = some (n, v)) (h2 : (l.map fun x => (x.1, ρ' x.2))[i]? = some (n', v')) : n = n' ∧ VR φ v v' := by
 rw [List.getElem?_map] at h1 h2
 cases hl : l[i]? with
 | none => rw [hl] at h1; simp at h1
 | some x =>
  rw [hl] at h1 h2
  simp at h1 h2
  obtain ⟨rfl, rfl⟩ := h1
  obtain ⟨rfl, rfl⟩ := h2
  exact ⟨rfl, h _⟩
theorem rP {φ : List Place} {ρ ρ' : Operand → Value} (h : ∀ x, VR φ (ρ x) (ρ' x)) (x : Option Operand) : tQ φ (x.map ρ) (x.map ρ') := by
 cases x with
 | none => exact .inl ⟨rfl, rfl⟩
 | some x => exact .inr ⟨_, _, rfl, rfl, h x⟩
theorem sF [Pins] {P : Program} (E : Env P) {φ : List Place} {H H' : AH} {w : World} (R : Rel φ H w) {ρ ρ' : Operand → Value} (hρ : ∀ x, VR φ (ρ x) (ρ' x)) {o : Oper} {v : Value} (h : aop E ρ o.op H = some (v, H')) : OOk P o ρ' φ w v H' := by
 have here : ∀ {v v' : Value}, VR φ v v' → (execOp ρ' o).run P w = .ok (.value v') w → OOk P o ρ' φ w v H := fun hv hr => ⟨φ, _, w, List.prefix_refl _, R, hv, .inl hr⟩
 have sok : ∀ {s : Sem Value} {v : Value} {H' : AH}, SOk P s φ w v H' → execOp ρ' o = (do pure (.value (← s))) → OOk P o ρ' φ w v H' := by
  intro s v H' ⟨φ', v', w', h1, h2, h3, h4⟩ he
  exact ⟨φ', v', w', h1, h2, h3, .inl (by rw [he]; simp [h4])⟩
 unfold aop at h
 split at h <;> rename_i hop
 ·cases h; exact here (hρ _) (by simp [execOp, hop])
 ·cases h; exact here (hρ _) (by simp [execOp, hop])
 ·rename_i c a b
  split at h
  ·rename_i hc
   cases h
   have := hρ c; rw [hc] at this
   generalize hcc : ρ' c = cc at this
   cases this
   exact here (hρ _) (by simp [execOp, hop, hcc, asBool])
  ·rename_i hc
   cases h
   have := hρ c; rw [hc] at this
   generalize hcc : ρ' c = cc at this
   cases this
   exact here (hρ _) (by simp [execOp, hop, hcc, asBool])
  ·cases h
 ·rename_i t
  unfold wT at h
  split at h
  ·rename_i i hi
   split at h
   ·rename_i z hz
    cases h
    obtain ⟨φ', w', b, h1, h2, h3, h4⟩ := aFy E R t (VR.ext φ z)
    refine ⟨φ', _, w', h1, h2, h3, .inl ?_⟩
    simp [execOp, hop, Instr.alloc, cL E hi hz, h4]
   ·cases h
  ·cases h
 ·rename_i t x
  cases h
  obtain ⟨φ', w', b, h1, h2, h3, h4⟩ := aFy E R t (hρ x)
  refine ⟨φ', _, w', h1, h2, h3, .inl ?_⟩
  simp [execOp, hop, Instr.box, h4]
 ·rename_i t ps
  obtain ⟨hh, rfl⟩ := aJ h
  replace h := hh
  obtain ⟨v', h1, h2⟩ := yI E (parts' := ps.toList.map fun x => (x.1, ρ' x.2)) (by simp) (vU hρ ps.toList) h w
  refine here h1 ?_
  have : (ps.map fun (x : Nat × Operand) => (x.1, ρ' x.2)) = ⟨ps.toList.map fun x => (x.1, ρ' x.2)⟩ := by rw [← Array.toList_inj]; simp
  simp only [execOp, hop, Sem.run_bind, this, h2, Result.andThen_ok, Sem.run_pure]
 ·rename_i t n ps
  have hs := wP E R (parts' := ps.toList.map fun x => (x.1, ρ' x.2)) (by simp) (vU hρ ps.toList) h
  have : (ps.map fun (x : Nat × Operand) => (x.1, ρ' x.2)) = ⟨ps.toList.map fun x => (x.1, ρ' x.2)⟩ := by rw [← Array.toList_inj]; simp
  exact sok hs (by simp only [execOp, hop, this])
 ·rename_i t x
  split at h
  ·rename_i a ha
   obtain ⟨hh, rfl⟩ := aJ h
   replace h := hh
   have := hρ x; rw [ha] at this
   generalize hcc : ρ' x = cc at this
   cases this with
   | ptr hA =>
    obtain ⟨v', h1, h2⟩ := nA E R hA h
    exact here h2 (by simp [execOp, hop, hcc, Instr.loadAt, Instr.sureAddr, h1])
  ·cases h
 ·rename_i t x y
  split at h
  ·rename_i a ha
   split at h
   ·rename_i H2 hst
    cases h
    have := hρ x; rw [ha] at this
    generalize hcc : ρ' x = cc at this
    cases this with
    | ptr hA =>
     obtain ⟨w', h1, h2⟩ := zY E R hA (hρ y) hst
     exact ⟨φ, undef, w', List.prefix_refl _, h2, VR.undef φ, .inr ⟨by simp [execOp, hop, hcc, Instr.storeAt, Instr.sureAddr, h1], rfl⟩⟩
   ·cases h
  ·cases h
 ·rename_i x
  split at h
  ·rename_i a ha
   cases h
   have := hρ x; rw [ha] at this
   generalize hcc : ρ' x = cc at this
   cases this with
   | ptr hA => exact here (.ptr hA) (by simp [execOp, hop, hcc])
  ·rename_i g a b ha
   cases h
   have := hρ x; rw [ha] at this
   generalize hcc : ρ' x = cc at this
   cases this with
   | func fn q1 q2 q3 q4 => exact here (.func _ q1 q2 q3 q4) (by simp [execOp, hop, hcc])
  ·cases h
 ·rename_i op t x y yt
  obtain ⟨hh, rfl⟩ := aJ h
  replace h := hh
  obtain ⟨v', h1, h2⟩ := aAk E (hρ x) (hρ y) h x y w
  refine here h1 ?_
  simp only [execOp, hop]
  rw [Sem.run_bind, h2]; rfl
 ·rename_i op t x
  obtain ⟨hh, rfl⟩ := aJ h
  replace h := hh
  obtain ⟨v', h1, h2⟩ := aFx E (hρ x) h w
  exact here h1 (by simp [execOp, hop, h2])
 ·rename_i s d x
  exact sok (aLc E R (hρ x) h) (by simp only [execOp, hop])
 ·rename_i fn a b
  cases h
  have va := iE hρ a.toList
  have vb := iE hρ b.toList
  refine here (.func fn va.1 vb.1 va.2 vb.2) ?_
  have e1 : a.map ρ' = ⟨a.toList.map ρ'⟩ := by rw [← Array.toList_inj]; simp
  have e2 : b.map ρ' = ⟨b.toList.map ρ'⟩ := by rw [← Array.toList_inj]; simp
  simp only [execOp, hop, Instr.makeFunc, e1, e2, Sem.run_bind, Sem.run_pure, Result.andThen_ok]
 ·rename_i t
  cases h
  exact sok (aAz R t) (by simp only [execOp, hop, Option.map_none])
 ·rename_i t l c
  exact sok (xK E R (hρ l) (hρ c) h) (by simp only [execOp, hop])
 ·rename_i t x lo hi mx
  obtain ⟨hh, rfl⟩ := aJ h
  replace h := hh
  obtain ⟨v', h1, h2⟩ := yN E R (hρ x) (rP hρ lo) (rP hρ hi) (rP hρ mx) h
  exact here h1 (by simp [execOp, hop, h2])
 ·rename_i s x f
  obtain ⟨hh, rfl⟩ := aJ h
  replace h := hh
  obtain ⟨v', h1, h2⟩ := oR E (hρ x) h w
  exact here h1 (by simp [execOp, hop, h2])
 ·rename_i s x f
  obtain ⟨hh, rfl⟩ := aJ h
  replace h := hh
  obtain ⟨v', h1, h2⟩ := yH E (hρ x) h w
  exact here h1 (by simp [execOp, hop, h2])
 ·rename_i t x ix
  obtain ⟨hh, rfl⟩ := aJ h
  replace h := hh
  obtain ⟨v', h1, h2⟩ := oN E (hρ x) (hρ ix) h w
  exact here h1 (by simp [execOp, hop, h2])
 ·rename_i t x ix
  obtain ⟨hh, rfl⟩ := aJ h
  replace h := hh
  obtain ⟨v', h1, h2⟩ := yB E (hρ x) (hρ ix) h w
  exact here h1 (by simp [execOp, hop, h2])
 ·rename_i t x ix ok
  obtain ⟨hh, rfl⟩ := aJ h
  replace h := hh
  obtain ⟨v', h1, h2⟩ := tY E R (hρ x) (hρ ix) h
  exact here h1 (by simp [execOp, hop, h2])
 ·rename_i t m k x
  split at h
  ·rename_i H2 hst
   cases h
   obtain ⟨w', h1, h2⟩ := mT E R (hρ m) (hρ k) (hρ x) hst
   exact ⟨φ, undef, w', List.prefix_refl _, h1, VR.undef φ, .inr ⟨by simp [execOp, hop, h2], rfl⟩⟩
  ·cases h
 ·rename_i t m k x
  split at h
  ·rename_i H2 hst
   cases h
   obtain ⟨w', h1, h2⟩ := mT E R (hρ m) (hρ k) (hρ x) hst
   exact ⟨φ, undef, w', List.prefix_refl _, h1, VR.undef φ, .inr ⟨by simp [execOp, hop, h2], rfl⟩⟩
  ·cases h
 ·rename_i x i
  obtain ⟨hh, rfl⟩ := aJ h
  replace h := hh
  obtain ⟨v', h1, h2⟩ := tR (P := P) (hρ x) h w
  exact here h1 (by simp [execOp, hop, h2])
 ·rename_i c
  split at h <;> rename_i hcal
  ·split at h
   ·rename_i x t hargs htys
    obtain ⟨hh, rfl⟩ := aJ h
    replace h := hh
    obtain ⟨v', h1, h2⟩ := aFn E R (ty := o.type) (hρ x) h
    have e1 : c.args = #[x] := by rw [← Array.toList_inj, hargs]
    have e2 : c.argTypes = #[t] := by rw [← Array.toList_inj, htys]
    refine here h1 ?_
    simp [execOp, hop, resolve, hcal, invoke, builtin, e1, e2, h2]
   ·cases h
  ·split at h
   ·rename_i x t hargs htys
    obtain ⟨hh, rfl⟩ := aJ h
    replace h := hh
    obtain ⟨v', h1, h2⟩ := aFj E R (ty := o.type) (hρ x) h
    have e1 : c.args = #[x] := by rw [← Array.toList_inj, hargs]
    have e2 : c.argTypes = #[t] := by rw [← Array.toList_inj, htys]
    refine here h1 ?_
    simp [execOp, hop, resolve, hcal, invoke, builtin, e1, e2, h2]
   ·cases h
  ·split at h
   ·rename_i s x sT xT hargs htys
    have e1 : c.args = #[s, x] := by rw [← Array.toList_inj, hargs]
    have e2 : c.argTypes = #[sT, xT] := by rw [← Array.toList_inj, htys]
    refine sok (aEp E R o.type (hρ s) (hρ x) h) ?_
    simp [execOp, hop, resolve, hcal, invoke, builtin, e1, e2]
   ·cases h
  ·split at h
   ·rename_i d x dT xT hargs htys
    have e1 : c.args = #[d, x] := by rw [← Array.toList_inj, hargs]
    have e2 : c.argTypes = #[dT, xT] := by rw [← Array.toList_inj, htys]
    refine sok (aMr E R (xT := xT) o.type (hρ d) (hρ x) h) ?_
    simp [execOp, hop, resolve, hcal, invoke, builtin, e1, e2]
   ·cases h
  ·split at h
   ·rename_i x r hargs
    obtain ⟨hh, rfl⟩ := aJ h
    replace h := hh
    obtain ⟨v', h1, h2⟩ := uJ (P := P) false (r.map ρ) (r.map ρ') _ _ v (hρ x) (iE hρ r) h w
    refine here h1 ?_
    have e1 : (c.args.map ρ').toList = ρ' x :: r.map ρ' := by simp [hargs]
    simp only [Bool.false_eq_true, if_false] at h2
    simp [execOp, hop, resolve, hcal, invoke, builtin, Builtin.min_, hargs, h2]
   ·cases h
  ·split at h
   ·rename_i x r hargs
    obtain ⟨hh, rfl⟩ := aJ h
    replace h := hh
    obtain ⟨v', h1, h2⟩ := uJ (P := P) true (r.map ρ) (r.map ρ') _ _ v (hρ x) (iE hρ r) h w
    refine here h1 ?_
    simp only [if_true] at h2
    simp [execOp, hop, resolve, hcal, invoke, builtin, Builtin.max_, hargs, h2]
   ·cases h
  ·split at h
   ·rename_i x hargs
    obtain ⟨hh, rfl⟩ := aJ h
    replace h := hh
    obtain ⟨v', h1, h2⟩ := xJ (P := P) (hρ x) h c.argTypes o.type w
    have e1 : c.args = #[x] := by rw [← Array.toList_inj, hargs]
    refine here h1 ?_
    simp [execOp, hop, resolve, hcal, invoke, builtin, e1, h2]
   ·cases h
  ·split at h
   ·rename_i x y pt it hargs htys
    have e1 : c.args = #[x, y] := by rw [← Array.toList_inj, hargs]
    have e2 : c.argTypes = #[pt, it] := by rw [← Array.toList_inj, htys]
    refine sok (aCj E R (it := it) (ty := o.type) (hρ x) (hρ y) h) ?_
    simp [execOp, hop, resolve, hcal, invoke, builtin, e1, e2]
   ·cases h
  ·rename_i x
   split at h
   ·rename_i g hx
    obtain ⟨hh, rfl⟩ := aJ h
    have hvx := hρ x
    rw [hx] at hvx
    generalize hcc : ρ' x = cc at hvx
    cases hvx with
    | func fn' q1 q2 q3 q4 =>
     rename_i a' b'
     obtain ⟨_, r1, r2⟩ := aOl (iE hρ c.args.toList) hh w
     refine here r1 ?_
     have e1 : c.args.map ρ' = ⟨c.args.toList.map ρ'⟩ := by rw [← Array.toList_inj]; simp
     have ea : a' = [] := List.eq_nil_of_length_eq_zero q1.symm
     have eb : b' = [] := List.eq_nil_of_length_eq_zero q2.symm
     subst ea; subst eb
     simp [execOp, hop, resolve, hcal, hcc, Deferred.ofValue, invoke, e1, r2]
   ·cases h
  ·cases h
 ·cases h
end Go.AM
namespace Go.AM
open Go.RowKit
variable [σ : Sg]
theorem pR {H H' : AH} {a : Addr} {vs : List Value} (h : iG H a vs = some H') : H'.w0 = H.w0 := by
 unfold iG at h
 cases he : Nat.beq (a.block % 2) 0 with
 | true => rw [he] at h; cases h
 | false =>
  rw [he, cond_false] at h
  split at h
  ·rename_i cs sz ex hg
   cases hb : (Nat.ble (a.off + vs.length) cs.length && cO vs) with
   | false => rw [hb] at h; cases h
   | true => rw [hb, cond_true] at h; cases h; rfl
  ·cases h
theorem aU {α : Type} {b : Bool} {x y : Option α} {z : α} (h : (bif b then x else y) = some z) : x = some z ∨ y = some z := by
 cases b
 ·exact .inr h
 ·exact .inl h
theorem mZ {tg size bytes n : Nat} {s : Value} {sLen : Nat} {new : List Value} {H H' : AH} {v : Value} (h : fF tg size bytes n s sLen new H = some (v, H')) : H'.w0 = H.w0 := by
 unfold fF at h
 split at h
 ·rcases aU h with h | h
  ·cases h; rfl
  ·cases h
 ·cases h
section
variable {P : Program} (E : Env P)
theorem aDi {sT xT : TypeId} {s x v : Value} {H H' : AH} (h : iJ E sT xT s x H = some (v, H')) : H'.w0 = H.w0 := by
 unfold iJ at h
 split at h
 ·rcases aU h with h | h
  ·split at h
   ·unfold qE at h
    split at h
    ·split at h
     ·split at h
      ·cases h
      ·cases h; rfl
     ·cases h
    ·cases h
   ·cases h
  ·split at h
   ·rcases aU h with h | h
    ·cases h
    ·split at h
     ·split at h
      ·rcases aU h with h | h
       ·rcases aU h with h | h
        ·cases h; rfl
        ·cases h
       ·split at h
        ·rcases aU h with h | h
         ·exact mZ h
         ·cases h
        ·rcases aU h with h | h
         ·rcases aU h with h | h
          ·cases h
          ·exact mZ h
         ·split at h
          ·rcases aU h with h | h
           ·rcases aU h with h | h
            ·split at h
             ·rename_i H2 hst; cases h; exact pR hst
             ·cases h
            ·rcases aU h with h | h
             ·rcases aU h with h | h
              ·exact mZ h
              ·cases h
             ·rcases aU h with h | h
              ·cases h; rfl
              ·cases h
           ·cases h
          ·cases h
      ·cases h
     ·cases h
   ·cases h
 ·cases h
theorem aMf {dT : TypeId} {d x v : Value} {H H' : AH} (h : aBi E dT d x H = some (v, H')) : H'.w0 = H.w0 := by
 unfold aBi at h
 split at h
 ·split at h
  ·split at h
   ·split at h
    ·rcases aU h with h | h
     ·cases h; rfl
     ·split at h
      ·rename_i H2 hst; cases h; exact pR hst
      ·cases h
    ·cases h; rfl
   ·cases h
  ·cases h
 ·cases h
theorem xO {t : TypeId} {m k v : Value} {H H' : AH} (h : hG E t m k v H = some H') : H'.w0 = H.w0 := by
 unfold hG at h
 split at h
 ·rcases aU h with h | h
  ·cases h
  ·split at h
   ·rcases aU h with h | h
    ·split at h
     ·cases h; rfl
     ·cases h; rfl
     ·cases h
    ·cases h
   ·cases h
 ·cases h
theorem wN {t : TypeId} {m k v : Value} {H H' : AH} (h : iX E t m k v H = some H') : H'.w0 = H.w0 := by
 unfold iX at h
 split at h
 ·rcases aU h with h | h
  ·cases h
  ·split at h
   ·rcases aU h with h | h
    ·split at h
     ·cases h; rfl
     ·cases h
    ·cases h
   ·cases h
 ·cases h
theorem wW {t : TypeId} {m k v : Value} {H H' : AH} (h : hX E t m k v H = some H') : H'.w0 = H.w0 := by
 rcases wH h with h | h
 ·exact xO E h
 ·exact wN E h
theorem aJn {s d : TypeId} {x v : Value} {H H' : AH} (h : mH E s d x H = some (v, H')) : H'.w0 = H.w0 := by
 unfold mH at h
 split at h
 ·cases h; rfl
 ·cases h; rfl
 ·split at h
  ·cases h; rfl
  ·cases h
 ·split at h
  ·split at h
   ·cases h; rfl
   ·split at h
    ·split at h
     ·cases h; rfl
     ·cases h
    ·cases h
  ·cases h
 ·rcases aU h with h | h
  ·split at h
   ·cases h; rfl
   ·cases h
  ·cases h
 ·rcases aU h with h | h
  ·cases h
  ·split at h
   ·rcases aU h with h | h
    ·cases h
    ·rcases aU h with h | h
     ·cases h; rfl
     ·cases h
   ·cases h
 ·rcases aU h with h | h
  ·cases h
  ·split at h
   ·rcases aU h with h | h
    ·cases h
    ·rcases aU h with h | h
     ·cases h; rfl
     ·cases h
   ·cases h
 ·cases h
theorem aBl {pt : TypeId} {x y v : Value} {H H' : AH} (h : nI E pt x y H = some (v, H')) : H'.w0 = H.w0 := by
 unfold nI at h
 split at h
 ·rcases aU h with h | h
  ·cases h; rfl
  ·split at h
   ·rcases aU h with h | h
    ·cases h
    ·split at h
     ·rcases aU h with h | h
      ·split at h
       ·split at h
        ·cases h; rfl
        ·cases h
       ·cases h
      ·cases h
     ·cases h
   ·cases h
 ·cases h
theorem mR {ρ : Operand → Value} {op : Op} {H H' : AH} {v : Value} (h : aop E ρ op H = some (v, H')) : H'.w0 = H.w0 := by
 unfold aop at h
 split at h
 case h_1 | h_2 | h_5 | h_14 | h_15 => cases h; rfl
 case h_3 => split at h <;> cases h <;> rfl
 case h_4 =>
  unfold wT at h
  split at h
  ·split at h
   ·cases h; rfl
   ·cases h
  ·cases h
 case h_7 =>
  unfold fZ at h
  split at h
  ·split at h
   ·rcases aU h with h | h
    ·split at h
     ·split at h
      ·rcases aU h with h | h
       ·cases h; rfl
       ·cases h
      ·cases h
     ·cases h
    ·cases h
   ·cases h
  ·cases h
 case h_8 =>
  split at h
  ·rw [(aJ h).2]
  ·cases h
 case h_9 =>
  split at h
  ·split at h
   ·rename_i hst
    cases h
    unfold jG at hst
    split at hst
    ·rcases aU hst with hst | hst
     ·exact pR hst
     ·cases hst
    ·cases hst
   ·cases h
  ·cases h
 case h_10 => split at h <;> cases h <;> rfl
 case h_13 => exact aJn E h
 case h_16 =>
  unfold lU at h
  split at h
  ·split at h
   ·split at h
    ·split at h
     ·cases h; rfl
     ·cases h
    ·cases h
   ·cases h
  ·cases h
 case h_23 | h_24 =>
  split at h
  ·rename_i hst; cases h; exact wW E hst
  ·cases h
 case h_26 =>
  split at h
  ·split at h
   ·rw [(aJ h).2]
   ·cases h
  ·split at h
   ·rw [(aJ h).2]
   ·cases h
  ·split at h
   ·exact aDi E h
   ·cases h
  ·split at h
   ·exact aMf E h
   ·cases h
  ·split at h
   ·rw [(aJ h).2]
   ·cases h
  ·split at h
   ·rw [(aJ h).2]
   ·cases h
  ·split at h
   ·rw [(aJ h).2]
   ·cases h
  ·split at h
   ·exact aBl E h
   ·cases h
  ·split at h
   ·rw [(aJ h).2]
   ·cases h
  ·cases h
 case h_27 => cases h
 all_goals rw [(aJ h).2]
theorem sZ {ρ ρ' : Operand → Value} (op : Op) (H : AH) (h : ∀ x ∈ op.operands, ρ x = ρ' x) : aop E ρ op H = aop E ρ' op H := by
 have pairs : ∀ ps : Array (Nat × Operand), (∀ x ∈ (ps.toList.map (·.2)).toArray, ρ x = ρ' x) → (ps.toList.map fun x => (x.1, ρ x.2)) = (ps.toList.map fun x => (x.1, ρ' x.2)) := fun ps hp =>
  List.map_congr_left fun p hm => by rw [hp p.2 (by simp; exact ⟨p.1, Array.mem_toList_iff.1 hm⟩)]
 cases op <;> simp only [Op.operands] at h <;> simp only [aop]
 case build t ps => rw [pairs ps h]
 case buildSlice t n ps => rw [pairs ps h]
 case makeFunc fn first captured =>
  rw [List.map_congr_left (l := first.toList) fun x hx => h x (by simp [Array.mem_toList_iff.1 hx]), List.map_congr_left (l := captured.toList) fun x hx => h x (by simp [Array.mem_toList_iff.1 hx])]
 case makeMap t r => cases r <;> rfl
 case slice t x lo hi mx => cases lo <;> cases hi <;> cases mx <;> simp_all
 case call c =>
  have ha : ∀ x ∈ c.args.toList, ρ x = ρ' x := fun x hx => h x (by simp [Call.operands, Array.mem_toList_iff.1 hx])
  cases hc : c.callee with
  | value f =>
   have e1 : ρ f = ρ' f := h f (by simp [Call.operands, hc])
   simp only [e1, List.map_congr_left ha]
  | invoke r m => rfl
  | builtin b =>
   cases b <;> (try rfl) <;> simp only
   ·split
    ·rename_i hs xs hl ht; rw [ha _ (by rw [hl]; simp), ha _ (by rw [hl]; simp)]
    ·rfl
   ·split
    ·rename_i hl ht; rw [ha _ (by rw [hl]; simp)]
    ·rfl
   ·split
    ·rename_i hs xs hl ht; rw [ha _ (by rw [hl]; simp), ha _ (by rw [hl]; simp)]
    ·rfl
   ·split
    ·rename_i hl ht; rw [ha _ (by rw [hl]; simp)]
    ·rfl
   ·split
    ·rename_i x r hl
     rw [ha x (by rw [hl]; simp), List.map_congr_left fun y hy => ha y (by rw [hl]; simp [hy])]
    ·rfl
   ·split
    ·rename_i x r hl
     rw [ha x (by rw [hl]; simp), List.map_congr_left fun y hy => ha y (by rw [hl]; simp [hy])]
    ·rfl
   ·split
    ·rename_i x hl
     rw [ha x (by rw [hl]; simp)]
    ·rfl
   ·split
    ·rename_i hl ht
     rw [ha _ (by rw [hl]; simp), ha _ (by rw [hl]; simp)]
    ·rfl
 all_goals (first | rfl | (simp_all; done))
def dE (ρ : Operand → Value) (op : Op) : Option (FuncId × List Value) :=
 match op with
 | .call c => (match c.callee with
  | .value x => (match ρ x with
   | .func (.func g) ⟨a⟩ ⟨b⟩ => (match E.fn g with
    | some _ => some (g, a ++ (c.args.toList.map ρ ++ b))
    | none => none)
   | _ => none)
  | _ => none)
 | _ => none
theorem oO {ρ ρ' : Operand → Value} (op : Op) (h : ∀ x ∈ op.operands, ρ x = ρ' x) : dE E ρ op = dE E ρ' op := by
 cases op <;> simp only [dE]
 case call c =>
  simp only [Op.operands] at h
  cases hc : c.callee with
  | value f =>
   have e1 : ρ f = ρ' f := h f (by simp [Call.operands, hc])
   have ha : c.args.toList.map ρ = c.args.toList.map ρ' := List.map_congr_left fun x hx => h x (by simp [Call.operands, Array.mem_toList_iff.1 hx])
   simp only [e1, ha]
  | invoke r m => rfl
  | builtin b => rfl
theorem pO {φ : List Place} {ρ ρ' : Operand → Value} (hρ : ∀ x, VR φ (ρ x) (ρ' x)) {o : Oper} {g : FuncId} {args : List Value} (h : dE E ρ o.op = some (g, args)) (w : World) :
 ∃ args', VRs φ args args' ∧ (execOp ρ' o).run P w = .ok (.enter g ⟨args'⟩) w := by
 unfold dE at h
 split at h
 ·rename_i c hop
  split at h
  ·rename_i x hc
   split at h
   ·rename_i g' a b hx
    split at h
    ·rename_i fn hfn
     cases h
     have hv := hρ x
     rw [hx] at hv
     generalize hcc : ρ' x = cc at hv
     cases hv with
     | func fn' q1 q2 q3 q4 =>
      rename_i a' b'
      refine ⟨a' ++ (c.args.toList.map ρ' ++ b'), VRs.append ⟨q1, q3⟩ ((iE hρ _).append ⟨q2, q4⟩), ?_⟩
      obtain ⟨F, hF, hb, _, _, hn⟩ := E.fn_ok _ _ hfn
      have e1 : c.args.map ρ' = ⟨c.args.toList.map ρ'⟩ := by rw [← Array.toList_inj]; simp
      have hn' : ¬ F.name = "runtime.NumGoroutine" := by simpa using hn
      simp [execOp, hop, resolve, hc, hcc, Deferred.ofValue, invoke, callFunc, hF, hn', hb, e1]
    ·cases h
   ·cases h
  ·cases h
 ·cases h
end
abbrev AQ := Exit → Fr → AH → Prop
def iN [Pins] (φ : List Place) (w0 : World) (Q : AQ) : Exit → Act → World → Prop := fun e a w => ∃ φ' f H, φ <+: φ' ∧ FRel φ' f a ∧ Rel φ' H w ∧ H.w0 = w0 ∧ Q e f H
theorem nV [Pins] {φ φ' : List Place} (h : φ <+: φ') {w0 : World} {Q : AQ} {e : Exit} {a : Act} {w : World} (k : iN φ' w0 Q e a w) : iN φ w0 Q e a w := by
 obtain ⟨ψ, f, H, h1, h2⟩ := k
 exact ⟨ψ, f, H, h.trans h1, h2⟩
def ACode (P : Program) (c : Code) (Q : AQ) (f : Fr) (H : AH) : Prop := ∀ (π : Pins) φ a w, FRel φ f a → Rel φ H w → c.wp P (iN φ H.w0 Q) a w
def ACalls (P : Program) (g : FuncId) (args : List Value) (H : AH) (Q : Value → AH → Prop) : Prop :=
 ∀ (π : Pins) φ args' w, VRs φ args args' → Rel φ H w → Calls P g ⟨args'⟩ w fun e w' => ∃ φ' v v' H', φ <+: φ' ∧ e = .returned v' ∧ VR φ' v v' ∧ Rel φ' H' w' ∧ H'.w0 = H.w0 ∧ Q v H'
theorem ACalls.mono {P : Program} {g : FuncId} {args : List Value} {H : AH} {Q Q' : Value → AH → Prop} (h : ACalls P g args H Q) (hq : ∀ v H', Q v H' → Q' v H') : ACalls P g args H Q' :=
 fun π φ args' w hv hR => (h π φ args' w hv hR).mono fun _ _ ⟨φ', v, v', H', h1, h2, h3, h4, h5, h6⟩ => ⟨φ', v, v', H', h1, h2, h3, h4, h5, hq _ _ h6⟩
theorem jF {Q Q' : Exit → Act → World → Prop} (h : ∀ e a w, Q e a w → Q' e a w) (k : LetsOut Q) : LetsOut Q' := let ⟨a, w, q⟩ := k; ⟨a, w, h _ _ _ q⟩
theorem tV {P : Program} {ops : Array Oper} {Q Q' : Exit → Act → World → Prop} (h : ∀ e a w, Q e a w → Q' e a w) : ∀ (l : List Nat) (a : Act) (w : World), wpOps P ops Q l a w → wpOps P ops Q' l a w := by
 intro l
 induction l with
 | nil => intro a w k; exact h _ _ _ k
 | cons i rest ih =>
  intro a w k
  simp only [wpOps] at k ⊢
  cases ho : ops[i]? with
  | none => simp only [ho] at k ⊢; exact ih a w k
  | some o =>
   simp only [ho] at k ⊢
   split
   ·rename_i hw
    simp only [hw, if_true] at k
    rcases k with k | ⟨k1, k2⟩
    ·left
     unfold Oper.wp at *
     generalize (execOp a.eval o).run P w = r at *
     cases r with
     | ok n w' =>
      cases n <;> simp only [Oper.upon] at k ⊢ <;>
       first
        | exact ih _ _ k
        | exact Calls.mono k (fun e w'' he => by cases e <;> first | exact ih _ _ he | exact h _ _ _ he | exact jF h he)
        | exact Rows.mono k (fun _ _ he => ih _ _ he)
     | halt x w' => cases x <;> simp only [Oper.upon] at k ⊢ <;> first | exact h _ _ _ k | exact k
    ·exact .inr ⟨k1, jF h k2⟩
   ·rename_i hw
    simp only [hw] at k
    exact ih _ _ k
def bZ (ops : Array Oper) (sv : Tmp → Value) (o : Oper) : Bool :=
 match o.guard with
 | none => true
 | some (j, want) => (match ops[j]? with
  | some oj => (match oj.dst with
   | some d => (match sv d with
    | .bool b => b == want
    | _ => false)
   | none => false)
  | none => false)
def VRel [π : Pins] (φ : List Place) (n : Nat) (sv : Tmp → Value) (a : Act) : Prop := a.defers = π.ds ∧ a.tmps.size = n ∧ ∀ t, VR φ (sv t) (a.tmps.getD t undef)
theorem aBm {φ : List Place} {v v' : Value} (h : VR φ v v') (b : Bool) : v = .bool b ↔ v' = .bool b := by
 cases h
 case ph k => rcases σ.kind k with ⟨c, n, e⟩ | ⟨s, e⟩ <;> rw [e] <;> simp
 all_goals simp
theorem fV {φ : List Place} {sv : Tmp → Value} {a : Act} (ops : Array Oper) (o : Oper)
 (h : ∀ d ∈ o.looksAt ops, VR φ (sv d) (a.tmps.getD d undef)) : Region.wanted o (yielded ops a.tmps) = bZ ops sv o := by
 unfold Region.wanted bZ
 cases hg : o.guard with
 | none => rfl
 | some jw =>
  obtain ⟨j, want⟩ := jw
  simp only [yielded]
  cases hj : ops[j]? with
  | none => simp
  | some oj =>
   cases hd : oj.dst with
   | none => simp [hd]
   | some d =>
    simp only [hd, Option.bind_some]
    have hv := h d (by simp [Oper.looksAt, hg, hj, hd])
    by_cases hlt : d < a.tmps.size
    ·have e : a.tmps[d]? = some (a.tmps.getD d undef) := by simp [Array.getD_eq_getD_getElem?, hlt]
     rw [e]
     generalize a.tmps.getD d undef = x at hv
     generalize sv d = y at hv
     cases hv
     case ph k => rcases σ.kind k with ⟨c, n, e⟩ | ⟨s, e⟩ <;> rw [e] <;> rfl
     all_goals (first | rfl | (rename_i b; cases b <;> cases want <;> rfl))
    ·have e : a.tmps[d]? = none := Array.getElem?_eq_none (Nat.le_of_not_lt hlt)
     have e2 : a.tmps.getD d undef = undef := by simp [Array.getD_eq_getD_getElem?, e]
     rw [e2] at hv
     rw [e]
     have hy : ∀ b, sv d ≠ .bool b := fun b q => by have := (aBm hv b).1 q; unfold undef at this; cases this
     generalize sv d = y at hy
     cases y <;> first | rfl | (exact absurd rfl (hy _))
def AOps (P : Program) (ops : Array Oper) (l : List Nat) (Q : AQ) (f : Fr) (H : AH) : Prop := ∀ (π : Pins) φ a w, FRel φ f a → Rel φ H w → wpOps P ops (iN φ H.w0 Q) l a w
def dA (f : Fr) (t : Tmp) : Value := bS f (.tmp t)
section
variable {P : Program} {ops : Array Oper} {Q : AQ} {f : Fr} {H : AH}
theorem AOps.nil (h : Q .normal f H) : AOps P ops [] Q f H := fun π φ _ _ hf hR => ⟨φ, f, H, List.prefix_refl _, hf, hR, rfl, h⟩
theorem AOps.skip {i : Nat} {rest : List Nat} {o : Oper} {g : Fr} (ho : ops[i]? = some o) (hw : bZ ops (dA f) o = false) (hp : f.put o.dst undef = some g) (h : AOps P ops rest Q g H) : AOps P ops (i :: rest) Q f H := by
 intro π φ a w hf hR
 have hw' : Region.wanted o (yielded ops a.tmps) = false := by rw [fV (φ := φ) (sv := dA f) ops o (fun d _ => hf.2.2 d), hw]
 simp only [wpOps, ho, hw', Bool.false_eq_true, if_false]
 exact h _ φ _ w (hf.put (VR.undef φ) hp) hR
theorem AOps.op (E : Env P) {i : Nat} {rest : List Nat} {o : Oper} {g : Fr} {v : Value} {H' : AH} (ho : ops[i]? = some o) (hw : bZ ops (dA f) o = true) (hop : aop E (bS f) o.op H = some (v, H')) (hp : f.put o.dst v = some g)
 (h : AOps P ops rest Q g H') : AOps P ops (i :: rest) Q f H := by
 intro π φ a w hf hR
 have hw' : Region.wanted o (yielded ops a.tmps) = true := by rw [fV (φ := φ) (sv := dA f) ops o (fun d _ => hf.2.2 d), hw]
 simp only [wpOps, ho, hw', if_true]
 left
 obtain ⟨φ', v', w', h1, h2, h3, h4⟩ := sF E hR (ρ := bS f) (ρ' := a.eval) hf.eval hop
 have hw0 := mR E hop
 have hnext : wpOps P ops (iN φ H.w0 Q) rest (a.put o.dst v') w' := by
  refine tV (fun e a w k => nV h1 k) rest _ _ ?_
  rw [← hw0]
  exact h _ φ' _ w' ((hf.mono h1).put h3 hp) h2
 unfold Oper.wp
 rcases h4 with h4 | ⟨h4, rfl⟩
 ·rw [h4]; exact hnext
 ·rw [h4]; exact hnext
theorem AOps.call (E : Env P) {i : Nat} {rest : List Nat} {o : Oper} {k : FuncId} {args : List Value} (ho : ops[i]? = some o) (hw : bZ ops (dA f) o = true) (hc : dE E (bS f) o.op = some (k, args))
 (h : ACalls P k args H fun v H' => ∃ g, f.put o.dst v = some g ∧ AOps P ops rest Q g H') : AOps P ops (i :: rest) Q f H := by
 intro π φ a w hf hR
 have hw' : Region.wanted o (yielded ops a.tmps) = true := by rw [fV (φ := φ) (sv := dA f) ops o (fun d _ => hf.2.2 d), hw]
 simp only [wpOps, ho, hw', if_true]
 left
 obtain ⟨args', h1, h2⟩ := pO E (ρ := bS f) (ρ' := a.eval) hf.eval hc w
 unfold Oper.wp
 rw [h2]
 refine (h _ φ args' w h1 hR).mono ?_
 rintro e w' ⟨φ', v, v', H', h3, rfl, h4, h5, h6, g, hp, hrest⟩
 refine tV (fun e a w k => nV h3 k) rest _ _ ?_
 rw [← h6]
 exact hrest _ φ' _ w' ((hf.mono h3).put h4 hp) h5
end
end Go.AM
namespace Go.AM
open Go.RowKit
variable [σ : Sg]
def sG (acc : List Nat) : List Edge → Nat
 | [] => 0
 | e :: r => bif Region.binds .any e then (2 ^ e.on ||| acc.getD e.on 0) ||| sG acc r else sG acc r
def aFr : List Oper → List Nat → List Nat
 | [], acc => acc
 | o :: r, acc => aFr r (acc ++ [sG acc o.after.toList])
def bef (ops : Array Oper) : List Nat := aFr ops.toList []
def fX (ops : Array Oper) (S : Nat → Bool) : Prop := ∀ (i : Nat) (o : Oper), ops[i]? = some o → S i = true → ∀ e ∈ o.after, Region.binds .any e = true → S e.on = true
theorem aCn {acc : List Nat} {j : Nat} : ∀ (es : List Edge), (sG acc es).testBit j = true → ∃ e ∈ es, Region.binds .any e = true ∧ (e.on = j ∨ (acc.getD e.on 0).testBit j = true) := by
 intro es
 induction es with
 | nil => intro h; simp [sG] at h
 | cons e es ih =>
  intro h
  simp only [sG] at h
  cases hb : Region.binds .any e with
  | false =>
   rw [hb, cond_false] at h
   obtain ⟨e', h1, h2⟩ := ih h
   exact ⟨e', List.mem_cons_of_mem _ h1, h2⟩
  | true =>
   rw [hb, cond_true, Nat.testBit_or, Nat.testBit_or, Bool.or_eq_true, Bool.or_eq_true] at h
   rcases h with (h | h) | h
   ·refine ⟨e, List.mem_cons_self .., hb, .inl ?_⟩
    rw [Nat.testBit_two_pow] at h
    simpa using h
   ·exact ⟨e, List.mem_cons_self .., hb, .inr h⟩
   ·obtain ⟨e', h1, h2⟩ := ih h
    exact ⟨e', List.mem_cons_of_mem _ h1, h2⟩
theorem aBd {ops : Array Oper} {S : Nat → Bool} (hS : fX ops S) : ∀ (l : List Oper) (acc : List Nat), (∀ k, l[k]? = ops[acc.length + k]?) →
 (∀ i j, ((acc.getD i 0).testBit j = true) → S i = true → S j = true) → ∀ i j, (((aFr l acc).getD i 0).testBit j = true) → S i = true → S j = true := by
 intro l
 induction l with
 | nil => intro acc _ h; exact h
 | cons o r ih =>
  intro acc hl h
  simp only [aFr]
  refine ih _ (fun k => ?_) (fun i j hb hi => ?_)
  ·have := hl (k + 1)
   simp only [List.getElem?_cons_succ] at this
   rw [this]
   simp only [List.length_append, List.length_singleton]
   congr 1; omega
  ·by_cases hlt : i < acc.length
   ·rw [List.getD_eq_getElem?_getD, List.getElem?_append_left hlt, ← List.getD_eq_getElem?_getD] at hb
    exact h i j hb hi
   ·by_cases he : i = acc.length
    ·subst he
     rw [List.getD_eq_getElem?_getD, List.getElem?_append_right (Nat.le_refl _)] at hb
     simp at hb
     have ho : ops[acc.length]? = some o := by have := hl 0; simpa using this.symm
     obtain ⟨e, h1, h2, h3⟩ := aCn _ hb
     have hon := hS _ o ho hi e (by simpa using h1) h2
     rcases h3 with h3 | h3
     ·rw [← h3]; exact hon
     ·exact h _ _ h3 hon
    ·rw [List.getD_eq_getElem?_getD, List.getElem?_eq_none (by simp; omega)] at hb
     simp at hb
theorem fH {ops : Array Oper} {S : Nat → Bool} (hS : fX ops S) {i j : Nat} (hb : ((bef ops).getD i 0).testBit j = true) (hi : S i = true) : S j = true :=
 aBd hS ops.toList [] (fun k => by simp) (fun i j h => by simp at h) i j hb hi
def dH (ops : Array Oper) (bs : List Nat) : Bool :=
 (List.range ops.size).all fun j => match ops[j]? with
  | some oj => (oj.after.toList.all fun e => !(Region.binds .any e) || Nat.blt e.on j) && (match oj.op with | .select .. => false | _ => true) &&
   (List.range j).all fun i => match ops[i]? with
    | some oi => oi.apart ops oj || (bs.getD j 0).testBit i
    | none => true
  | none => true
theorem eH {ops : Array Oper} {bs : List Nat} (h : dH ops bs = true) {i j : Nat} {oi oj : Oper} (hij : i < j) (hi : ops[i]? = some oi) (hj : ops[j]? = some oj) : oi.apart ops oj = true ∨ (bs.getD j 0).testBit i = true := by
 unfold dH at h
 rw [List.all_eq_true] at h
 have h1 := h j (List.mem_range.2 (alt_of_getElem? hj))
 simp only [hj, Bool.and_eq_true] at h1
 have h2 := h1.2
 rw [List.all_eq_true] at h2
 have h3 := h2 i (List.mem_range.2 hij)
 simp only [hi, Bool.or_eq_true] at h3
 exact h3
theorem gD {ops : Array Oper} {bs : List Nat} (h : dH ops bs = true) {j : Nat} {oj : Oper} (hj : ops[j]? = some oj) {e : Edge} (he : e ∈ oj.after) (hb : Region.binds .any e = true) : e.on < j := by
 unfold dH at h
 rw [List.all_eq_true] at h
 have h1 := h j (List.mem_range.2 (alt_of_getElem? hj))
 simp only [hj, Bool.and_eq_true] at h1
 have h2 := h1.1.1
 rw [List.all_eq_true] at h2
 have h3 := h2 e (by simpa using he)
 simp only [hb, Bool.not_true, Bool.false_or] at h3
 exact Nat.le_of_ble_eq_true h3
def jT (f0 : Fr) (ops : Array Oper) (V : Nat → Value) (S : Nat → Bool) : Nat → Tmp → Value
 | 0, d => dA f0 d
 | k + 1, d => if S k = true ∧ (ops[k]?).bind (·.dst) = some d then V k else jT f0 ops V S k d
theorem rE {f0 : Fr} {ops : Array Oper} {V : Nat → Value} {S S' : Nat → Bool} {d : Tmp} : ∀ n, (∀ k, k < n → (ops[k]?).bind (·.dst) = some d → S k = S' k) → jT f0 ops V S n d = jT f0 ops V S' n d := by
 intro n
 induction n with
 | zero => intro _; rfl
 | succ n ih =>
  intro h
  simp only [jT]
  rw [ih fun k hk => h k (by omega)]
  by_cases hd : (ops[n]?).bind (·.dst) = some d
  ·rw [h n (by omega) hd]
  ·simp [hd]
theorem lH {f0 : Fr} {ops : Array Oper} {V : Nat → Value} {S : Nat → Bool} {d : Tmp} {i : Nat} : ∀ n, i ≤ n → (∀ k, i ≤ k → k < n → (ops[k]?).bind (·.dst) = some d → S k = false) → jT f0 ops V S n d = jT f0 ops V S i d := by
 intro n
 induction n with
 | zero => intro hi _; rw [show i = 0 by omega]
 | succ n ih =>
  intro hi h
  by_cases he : i = n + 1
  ·rw [he]
  ·simp only [jT]
   rw [if_neg (fun ⟨h1, h2⟩ => by rw [h n (by omega) (by omega) h2] at h1; cases h1)]
   exact ih (by omega) fun k hk hk' => h k hk (by omega)
structure Trace0 (ops : Array Oper) (F : Nat → Fr) (V : Nat → Value) : Prop where
 order : dH ops (bef ops) = true
 put : ∀ (i : Nat) o, ops[i]? = some o → (F i).put o.dst (V i) = some (F (i + 1))
structure Trace {P : Program} (E : Env P) (ops : Array Oper) (F : Nat → Fr) (HH : Nat → AH) (V : Nat → Value) (M : Nat → Bool) : Prop extends Trace0 ops F V where
 step : ∀ (i : Nat) o, ops[i]? = some o →
  (bZ ops (dA (F i)) o = false ∧ V i = undef ∧ M i = false) ∨
  (bZ ops (dA (F i)) o = true ∧ M i = false ∧ ∀ t, t ≤ ops.size → (∀ j, j < ops.size → M j = true → ((bef ops).getD i 0).testBit j = true → j < t) →
   (∀ j, j < ops.size → M j = true → ((bef ops).getD j 0).testBit i = true → t ≤ j) → aop E (bS (F i)) o.op (HH t) = some (V i, HH t)) ∨
  (bZ ops (dA (F i)) o = true ∧ M i = true ∧ aop E (bS (F i)) o.op (HH i) = some (V i, HH (i + 1))) ∨
  (bZ ops (dA (F i)) o = true ∧ M i = true ∧ ∃ g args, dE E (bS (F i)) o.op = some (g, args) ∧ ACalls P g args (HH i) fun v H' => v = V i ∧ H' = HH (i + 1))
 still : ∀ i, i < ops.size → M i = false → HH (i + 1) = HH i
 mains : ∀ i j, i < j → j < ops.size → M i = true → M j = true → ((bef ops).getD j 0).testBit i = true
section
variable {P : Program} {E : Env P} {ops : Array Oper} {F : Nat → Fr} {HH : Nat → AH} {V : Nat → Value} {M : Nat → Bool}
theorem Trace0.slots (T : Trace0 ops F V) (d : Tmp) : ∀ k, k ≤ ops.size → dA (F k) d = jT (F 0) ops V (fun _ => true) k d := by
 intro k
 induction k with
 | zero => intro _; rfl
 | succ k ih =>
  intro hk
  have hlt : k < ops.size := by omega
  have ho : ops[k]? = some ops[k] := Array.getElem?_eq_getElem hlt
  have hp := T.put k _ ho
  simp only [jT, ho, Option.bind_some]
  unfold Fr.put at hp
  cases hd : ops[k].dst with
  | none =>
   rw [hd] at hp
   simp only [Option.some.injEq] at hp
   rw [← hp]
   simpa using ih (by omega)
  | some d' =>
   rw [hd] at hp
   simp only at hp
   rcases aU hp with hp | hp
   ·simp only [Option.some.injEq] at hp
    rw [← hp]
    simp only [dA, bS, Tr.get_set]
    by_cases e : d = d'
    ·subst e; simp
    ·rw [if_neg e, if_neg (fun h => e (by simpa using h.2.symm))]
     exact ih (by omega)
   ·cases hp
theorem Trace0.size (T : Trace0 ops F V) : ∀ k, k ≤ ops.size → (F k).n = (F 0).n := by
 intro k
 induction k with
 | zero => intro _; rfl
 | succ k ih =>
  intro hk
  have ho : ops[k]? = some ops[k] := Array.getElem?_eq_getElem (by omega)
  have hp := T.put k _ ho
  unfold Fr.put at hp
  split at hp
  ·simp only [Option.some.injEq] at hp; rw [← hp]; exact ih (by omega)
  ·rcases aU hp with hp | hp
   ·simp only [Option.some.injEq] at hp; rw [← hp]; exact ih (by omega)
   ·cases hp
theorem Trace0.dst_lt (T : Trace0 ops F V) {i : Nat} {o : Oper} (ho : ops[i]? = some o) {d : Tmp} (hd : o.dst = some d) : d < (F 0).n := by
 have hp := T.put i o ho
 rw [hd] at hp
 unfold Fr.put at hp
 simp only at hp
 have hi := alt_of_getElem? ho
 cases hle : Nat.ble (d + 1) (F i).n with
 | false => rw [hle] at hp; cases hp
 | true => have := Nat.le_of_ble_eq_true hle; rw [T.size i (by omega)] at this; exact this
def Inv [Pins] (ops : Array Oper) (F : Nat → Fr) (HH : Nat → AH) (V : Nat → Value) (M : Nat → Bool) (φ : List Place) (listed : Array Bool) (a : Act) (w : World) : Prop :=
 listed.size = ops.size ∧ fX ops (fun i => listed.getD i false) ∧ ∃ φ', φ <+: φ' ∧ VRel φ' (F 0).n (jT (F 0) ops V (fun i => listed.getD i false) ops.size) a ∧
  ∃ t, t ≤ ops.size ∧ (∀ j, j < ops.size → M j = true → (listed.getD j false = true ↔ j < t)) ∧ Rel φ' (HH t) w
theorem qR (hw : ∀ i, i < ops.size → (HH (i + 1)).w0 = (HH i).w0) : ∀ t, t ≤ ops.size → (HH t).w0 = (HH 0).w0 := by
 intro t
 induction t with
 | zero => intro _; rfl
 | succ t ih => intro h; rw [hw t (by omega), ih (by omega)]
theorem kL {listed : Array Bool} {i j : Nat} (hi : i < listed.size) : (listed.setIfInBounds i true).getD j false = if j = i then true else listed.getD j false := by
 simp only [Array.getD_eq_getD_getElem?, Array.getElem?_setIfInBounds]
 by_cases e : i = j
 ·subst e; simp [hi]
 ·rw [if_neg e, if_neg (fun h => e h.symm)]
theorem VRel.put [Pins] {φ : List Place} {n : Nat} {sv : Tmp → Value} {a : Act} (h : VRel φ n sv a) {dst : Option Tmp} {v v' : Value} (hv : VR φ v v') (hlt : ∀ d, dst = some d → d < n) :
 VRel φ n (fun t => if dst = some t then v else sv t) (a.put dst v') := by
 obtain ⟨h1, h2, h3⟩ := h
 cases dst with
 | none => exact ⟨h1, h2, fun t => by simpa [Act.put] using h3 t⟩
 | some d =>
  refine ⟨h1, by simp [Act.put, h2], fun t => ?_⟩
  have hd := hlt d rfl
  simp only [Act.put]
  by_cases e : d = t
  ·subst e
   simp only [if_true]
   have : (a.tmps.setIfInBounds d v').getD d undef = v' := by simp [Array.getD_eq_getD_getElem?, h2, hd]
   rw [this]; exact hv
  ·have : (a.tmps.setIfInBounds d v').getD t undef = a.tmps.getD t undef := by simp [Array.getD_eq_getD_getElem?, e]
   rw [this]
   simp only [Option.some.injEq, e, if_false]
   exact h3 t
theorem VRel.mono [Pins] {φ φ' : List Place} (h : φ <+: φ') {n : Nat} {sv : Tmp → Value} {a : Act} (r : VRel φ n sv a) : VRel φ' n sv a := ⟨r.1, r.2.1, fun t => (r.2.2 t).mono h⟩
theorem Trace0.sees (T : Trace0 ops F V) {S : Nat → Bool} (hS : fX ops S) {i : Nat} (hS' : fX ops (fun j => if j = i then true else S j)) {o : Oper} (ho : ops[i]? = some o) (hi : S i = false) {d : Tmp} (hd : d ∈ o.looksAt ops) : jT (F 0) ops V S ops.size d = dA (F i) d := by
 have hlt := alt_of_getElem? ho
 rw [lH (i := i) ops.size (by omega) ?_, T.slots d i (by omega)]
 ·refine rE i fun k hk hdk => ?_
  have hkk : ops[k]? = some ops[k] := Array.getElem?_eq_getElem (by omega)
  rw [hkk] at hdk
  simp only [Option.bind_some] at hdk
  rcases eH T.order hk hkk ho with hap | hb
  ·exact absurd hd ((Oper.apart_spec hap).1 d hdk)
  ·have := fH hS' hb (by simp)
   rw [if_neg (by omega)] at this
   rw [this]
 ·intro k hk hkn hdk
  have hkk : ops[k]? = some ops[k] := Array.getElem?_eq_getElem hkn
  rw [hkk] at hdk
  simp only [Option.bind_some] at hdk
  by_cases e : k = i
  ·subst e; exact hi
  ·cases hSk : S k with
   | false => rfl
   | true =>
    rcases eH T.order (show i < k by omega) ho hkk with hap | hb
    ·exact absurd hd ((Oper.apart_spec hap).2.2 d hdk)
    ·rw [fH hS hb hSk] at hi; cases hi
theorem Trace0.sees_dst (T : Trace0 ops F V) {S : Nat → Bool} (hS : fX ops S) {i : Nat} {o : Oper} (ho : ops[i]? = some o) (hi : S i = false) (d : Tmp) :
 jT (F 0) ops V (fun j => if j = i then true else S j) ops.size d = if o.dst = some d then V i else jT (F 0) ops V S ops.size d := by
 have hlt := alt_of_getElem? ho
 by_cases hd : o.dst = some d
 ·rw [if_pos hd, lH (i := i + 1) ops.size (by omega) ?_]
  ·simp [jT, ho, hd]
  ·intro k hk hkn hdk
   have hkk : ops[k]? = some ops[k] := Array.getElem?_eq_getElem hkn
   rw [hkk] at hdk
   simp only [Option.bind_some] at hdk
   rw [if_neg (by omega)]
   cases hSk : S k with
   | false => rfl
   | true =>
    rcases eH T.order (show i < k by omega) ho hkk with hap | hb
    ·exact absurd hdk ((Oper.apart_spec hap).2.1 d hd)
    ·rw [fH hS hb hSk] at hi; cases hi
 ·rw [if_neg hd]
  refine rE ops.size fun k hk hdk => ?_
  by_cases e : k = i
  ·subst e; rw [ho] at hdk; simp at hdk; exact absurd hdk hd
  ·rw [if_neg e]
theorem iO {listed : Array Bool} (hS : fX ops (fun i => listed.getD i false)) {i : Nat} (hr : i ∈ Region.ready .any ops listed) : fX ops (fun j => if j = i then true else listed.getD j false) := by
 intro k o ho hk e he hb
 show (if e.on = i then true else listed.getD e.on false) = true
 by_cases hei : e.on = i
 ·rw [if_pos hei]
 ·rw [if_neg hei]
  simp only at hk
  by_cases hki : k = i
  ·subst hki
   have hr' := hr
   unfold Region.ready at hr'
   rw [List.mem_filter] at hr'
   obtain ⟨_, h2⟩ := hr'
   simp only [Bool.and_eq_true, ho, Option.map_some, Option.getD_some] at h2
   have h3 := h2.2
   rw [Array.all_eq_true'] at h3
   have h4 := h3 e he
   simpa [hb] using h4
  ·rw [if_neg hki] at hk
   exact hS k o ho hk e he hb
theorem Trace.any [Pins] (T : Trace E ops F HH V M) (hw0 : ∀ i, i < ops.size → (HH (i + 1)).w0 = (HH i).w0) {Q : AQ} (hQ : Q .normal (F ops.size) (HH ops.size)) (φ : List Place) :
 ∀ (fuel : Nat) (listed : Array Bool) (a : Act) (w : World), Inv ops F HH V M φ listed a w → listed.toList.countP id + fuel = ops.size → wpAny P .any ops (iN φ (HH 0).w0 Q) fuel listed a w := by
 have fin : ∀ (listed : Array Bool) (a : Act) (w : World), Inv ops F HH V M φ listed a w → (∀ i, i < ops.size → listed.getD i false = true) → iN φ (HH 0).w0 Q .normal a w := by
  intro listed a w ⟨hsz, hS, φ', hφ, hV, t, ht, htm, hR⟩ hall
  have hlast : ∀ k, t ≤ k → k ≤ ops.size → HH k = HH t := by
   intro k
   induction k with
   | zero => intro h _; rw [show t = 0 by omega]
   | succ k ih =>
    intro h1 h2
    by_cases e : t = k + 1
    ·rw [e]
    ·have hM : M k = false := by
      cases hk : M k with
      | false => rfl
      | true => have := (htm k (by omega) hk).1 (hall k (by omega)); omega
     rw [T.still k (by omega) hM]
     exact ih (by omega) (by omega)
  refine ⟨φ', F ops.size, HH ops.size, hφ, ⟨hV.1, by rw [hV.2.1, T.size _ (Nat.le_refl _)], fun d => ?_⟩, by rw [hlast _ ht (Nat.le_refl _)]; exact hR, qR hw0 _ (Nat.le_refl _), hQ⟩
  have := hV.2.2 d
  rw [rE (S' := fun _ => true) ops.size (fun k hk _ => by simp [hall k hk]), ← T.slots d _ (Nat.le_refl _)] at this
  exact this
 intro fuel
 induction fuel with
 | zero =>
  intro listed a w hI hc
  have hall : ∀ i, i < ops.size → listed.getD i false = true := by
   have hsz := hI.1
   have : listed.toList.countP id = listed.toList.length := by rw [Array.length_toList, hsz]; omega
   rw [List.countP_eq_length] at this
   intro i hi
   have hm : listed[i]'(by omega) ∈ listed.toList := by simp
   have := this _ hm
   simp only [id] at this
   simp [Array.getD_eq_getD_getElem?, hsz, hi, this]
  refine ⟨?_, fin listed a w hI hall⟩
  rw [List.eq_nil_iff_forall_not_mem]
  intro i hi
  unfold Region.ready at hi
  rw [List.mem_filter] at hi
  obtain ⟨h1, h2⟩ := hi
  have hlt := List.mem_range.1 h1
  simp only [Bool.and_eq_true] at h2
  have h3 := hall i hlt
  have h4 := h2.1
  have hsz := hI.1
  simp [Array.getD_eq_getD_getElem?, hsz, hlt] at h3 h4
  rw [h3] at h4; cases h4
 | succ fuel ih =>
  intro listed a w hI hc
  refine ⟨fun hr => fin listed a w hI ?_, fun i hi => ?_⟩
  ·-- nothing is ready: all has run
   intro i
   induction i using Nat.strongRecOn with
   | _ i ihi =>
    intro hlt
    cases hl : listed.getD i false with
    | true => rfl
    | false =>
     exfalso
     have hmem : i ∈ Region.ready .any ops listed := by
      unfold Region.ready
      rw [List.mem_filter]
      refine ⟨List.mem_range.2 hlt, ?_⟩
      have ho : ops[i]? = some ops[i] := Array.getElem?_eq_getElem hlt
      simp only [Bool.and_eq_true, ho, Option.map_some, Option.getD_some]
      refine ⟨?_, ?_⟩
      ·have hsz := hI.1
       simp [Array.getD_eq_getD_getElem?, hsz, hlt] at hl ⊢
       exact hl
      ·rw [Array.all_eq_true']
       intro e he
       cases hb : Region.binds .any e with
       | false => rfl
       | true =>
        have hlt' := gD T.order ho he hb
        simp [ihi e.on hlt' (by omega)]
     rw [hr] at hmem
     cases hmem
  ·-- one operation
   obtain ⟨hsz, hS, φ', hφ, hV, t, ht, htm, hR⟩ := hI
   have hi' := hi
   unfold Region.ready at hi'
   rw [List.mem_filter] at hi'
   have hlt := List.mem_range.1 hi'.1
   have hunl : listed.getD i false = false := by
    have h4 := hi'.2
    simp only [Bool.and_eq_true] at h4
    have h4 := h4.1
    simp [Array.getD_eq_getD_getElem?, hsz, hlt] at h4 ⊢
    exact h4
   have ho : ops[i]? = some ops[i] := Array.getElem?_eq_getElem hlt
   generalize ops[i] = o at ho
   have hS' := iO hS hi
   have hcount : (listed.setIfInBounds i true).toList.countP id + fuel = ops.size := by
    rw [Array.toList_setIfInBounds, List.countP_set (by simp; omega)]
    have hget : (listed.toList[i]'(by simp; omega)) = false := by
     simp [Array.getD_eq_getD_getElem?, hsz, hlt] at hunl
     simpa using hunl
    rw [hget]
    simp only [id, Bool.false_eq_true, if_false, if_true]
    omega
   have hsee : ∀ d ∈ o.looksAt ops, VR φ' (dA (F i) d) (a.tmps.getD d undef) := by
    intro d hd
    rw [← T.sees hS hS' ho hunl hd]
    exact hV.2.2 d
   have hwant := fV (φ := φ') (sv := dA (F i)) ops o hsee
   -- the invariant, behind the operation
   have next : ∀ (φ2 : List Place) (v' : Value) (w' : World) (t2 : Nat), φ' <+: φ2 → VR φ2 (V i) v' → t2 ≤ ops.size → (∀ j, j < ops.size → M j = true → ((if j = i then true else listed.getD j false) = true ↔ j < t2)) → Rel φ2 (HH t2) w' →
    wpAny P .any ops (iN φ (HH 0).w0 Q) fuel (listed.setIfInBounds i true) (a.put o.dst v') w' := by
    intro φ2 v' w' t2 h1 h2 h3 h4 h5
    have hgd : (fun j => (listed.setIfInBounds i true).getD j false) = fun j => if j = i then true else listed.getD j false := funext fun j => kL (by omega)
    refine ih _ _ _ ⟨by simp [hsz], by rw [hgd]; exact hS', φ2, hφ.trans h1, ?_, t2, h3, fun j hj hM => ?_, h5⟩ hcount
    ·rw [hgd]
     have := (hV.mono h1).put (dst := o.dst) h2 (fun d hd => T.dst_lt ho hd)
     have heq : jT (F 0) ops V (fun j => if j = i then true else listed.getD j false) ops.size = fun d => if o.dst = some d then V i else jT (F 0) ops V (fun i => listed.getD i false) ops.size d := funext fun d => T.sees_dst hS ho hunl d
     rw [heq]; exact this
    ·rw [show (listed.setIfInBounds i true).getD j false = if j = i then true else listed.getD j false from congrFun hgd j]
     exact h4 j hj hM
   unfold wpOp
   rw [ho]
   simp only
   rw [hwant]
   have hρ : ∃ ρ2 : Operand → Value, (∀ x, VR φ' (ρ2 x) (a.eval x)) ∧ ∀ x ∈ o.op.operands, ρ2 x = bS (F i) x := by
    open Classical in
    refine ⟨fun x => if x ∈ o.op.operands then bS (F i) x else ext (a.eval x), fun x => ?_, fun x hx => by simp [hx]⟩
    by_cases hx : x ∈ o.op.operands
    ·simp only [hx, if_true]
     cases x with
     | tmp d => exact hsee d (by simp only [Oper.looksAt, List.mem_append, List.mem_filterMap]; exact .inl ⟨.tmp d, by simpa using hx, rfl⟩)
     | const v => exact VR.ext φ' v
     | global g => exact .ptr (.inl ⟨by simp, by simp, rfl, rfl⟩)
     | func g => exact .func _ rfl rfl (fun i v v' h => by simp at h) (fun i v v' h => by simp at h)
    ·simp only [hx, if_false]
     exact VR.ext φ' _
   obtain ⟨ρ2, hρ2, hρe⟩ := hρ
   have hwp : ∀ (v : Value) (H2 : AH) (t2 : Nat) (Hx : AH), Rel φ' Hx w → aop E (bS (F i)) o.op Hx = some (v, H2) → v = V i → H2 = HH t2 → t2 ≤ ops.size →
    (∀ j, j < ops.size → M j = true → ((if j = i then true else listed.getD j false) = true ↔ j < t2)) → o.wp P a w (wpAny P .any ops (iN φ (HH 0).w0 Q) fuel (listed.setIfInBounds i true)) (iN φ (HH 0).w0 Q) := by
    intro v H2 t2 Hx hRx hop hv hH2 h3 h4
    rw [← sZ E o.op Hx hρe] at hop
    obtain ⟨φ2, v', w', q1, q2, q3, q4⟩ := sF E hRx hρ2 hop
    subst hv
    subst hH2
    unfold Oper.wp
    rcases q4 with q4 | ⟨q4, rfl⟩
    ·rw [q4]; exact next φ2 v' w' t2 q1 q3 h3 h4 q2
    ·rw [q4]; exact next φ2 undef w' t2 q1 q3 h3 h4 q2
   have heq : ∀ t', t' ≤ ops.size → (∀ j, j < ops.size → M j = true → (j < t ↔ j < t')) → HH t' = HH t := by
    have up : ∀ x y, x ≤ y → y ≤ ops.size → (∀ j, j < ops.size → M j = true → ¬ (x ≤ j ∧ j < y)) → HH y = HH x := by
     intro x y
     induction y with
     | zero => intro h _ _; rw [show x = 0 by omega]
     | succ y ihy =>
      intro h1 h2 h3
      by_cases e : x = y + 1
      ·rw [e]
      ·have hM : M y = false := by
        cases hk : M y with
        | false => rfl
        | true => exact absurd ⟨by omega, by omega⟩ (h3 y (by omega) hk)
       rw [T.still y (by omega) hM]
       exact ihy (by omega) (by omega) fun j hj hM hh => h3 j hj hM ⟨hh.1, by omega⟩
    intro t' ht' h
    rcases Nat.le_total t t' with hle | hle
    ·exact up t t' hle ht' fun j hj hM hh => by have := (h j hj hM).2 hh.2; omega
    ·exact (up t' t hle ht fun j hj hM hh => by have := (h j hj hM).1 hh.2; omega).symm
   have hbefore : ∀ j, j < ops.size → M j = true → j ≠ i → ((bef ops).getD i 0).testBit j = true → j < t := by
    intro j hj hM hne hb
    have := fH hS' hb (by simp)
    rw [if_neg hne] at this
    exact (htm j hj hM).1 this
   have hafter : ∀ j, j < ops.size → M j = true → ((bef ops).getD j 0).testBit i = true → t ≤ j := by
    intro j hj hM hb
    rcases Nat.lt_or_ge j t with h | h
    ·have := fH hS hb ((htm j hj hM).2 h)
     rw [this] at hunl; cases hunl
    ·exact h
   have hmain : M i = true → HH i = HH t ∧ (∀ j, j < ops.size → M j = true → ((if j = i then true else listed.getD j false) = true ↔ j < i + 1)) := by
    intro hMi
    have hiff : ∀ j, j < ops.size → M j = true → j ≠ i → (j < t ↔ j < i) := by
     intro j hj hM hne
     constructor
     ·intro h
      rcases Nat.lt_or_ge j i with h' | h'
      ·exact h'
      ·have := hafter j hj hM (T.mains i j (by omega) hj hMi hM); omega
     ·intro h
      exact hbefore j hj hM hne (T.mains j i h hlt hM hMi)
    have hti : ¬ i < t := fun h => by rw [(htm i hlt hMi).2 h] at hunl; cases hunl
    refine ⟨heq i (by omega) fun j hj hM => ?_, fun j hj hM => ?_⟩
    ·by_cases e : j = i
     ·subst e; omega
     ·exact hiff j hj hM e
    ·by_cases e : j = i
     ·subst e; simp
     ·rw [if_neg e]
      have h1 := htm j hj hM
      have h2 := hiff j hj hM e
      constructor
      ·intro h; have := h2.1 (h1.1 h); omega
      ·intro h; exact h1.2 (h2.2 (by omega))
   have hquiet : M i = false → ∀ j, j < ops.size → M j = true → ((if j = i then true else listed.getD j false) = true ↔ j < t) := by
    intro hMi j hj hM
    by_cases e : j = i
    ·subst e; rw [hMi] at hM; cases hM
    ·rw [if_neg e]; exact htm j hj hM
   rcases T.step i o ho with ⟨h1, h2, h3⟩ | ⟨h1, h2, h3⟩ | ⟨h1, h2, h3⟩ | ⟨h1, h2, g, args, h3, h4⟩
   ·rw [h1]
    simp only [Bool.false_eq_true, if_false]
    exact next φ' undef w t (List.prefix_refl _) (by rw [h2]; exact VR.undef φ') ht (hquiet h3) hR
   ·rw [h1, if_pos rfl]
    left
    refine hwp _ _ t (HH t) hR (h3 t ht (fun j hj hM hb => hbefore j hj hM (fun e => by subst e; rw [h2] at hM; cases hM) hb) hafter) rfl rfl ht (hquiet h2)
   ·rw [h1, if_pos rfl]
    left
    obtain ⟨m1, m2⟩ := hmain h2
    exact hwp _ _ (i + 1) (HH i) (by rw [m1]; exact hR) h3 rfl rfl (by omega) m2
   ·rw [h1, if_pos rfl]
    left
    obtain ⟨m1, m2⟩ := hmain h2
    rw [← oO E o.op hρe] at h3
    obtain ⟨args', q1, q2⟩ := pO E hρ2 h3 w
    unfold Oper.wp
    rw [q2]
    refine (h4 _ φ' args' w q1 (by rw [m1]; exact hR)).mono ?_
    rintro e w' ⟨φ2, v, v', H', r1, rfl, r2, r3, r4, rfl, rfl⟩
    exact next φ2 v' w' (i + 1) r1 r2 (by omega) m2 r3
theorem Trace.region (T : Trace E ops F HH V M) (hm : P.follows .mixedOrders = true) (hw0 : ∀ i, i < ops.size → (HH (i + 1)).w0 = (HH i).w0) {Q : AQ} (hQ : Q .normal (F ops.size) (HH ops.size)) (id : Nat) :
 ACode P (.region id ops true) Q (F 0) (HH 0) := by
 intro π φ a w hf hR
 refine wp_region_any hm ?_
 refine T.any hw0 hQ φ ops.size (Array.replicate ops.size false) a _ ⟨by simp, ?_, φ, List.prefix_refl _, ?_, 0, Nat.zero_le _, fun j hj hM => ?_, hR.drew⟩ ?_
 ·intro i o ho hi
  simp [Array.getD_eq_getD_getElem?, Array.getElem?_replicate] at hi
  split at hi <;> simp at hi
 ·refine ⟨hf.1, hf.2.1, fun d => ?_⟩
  have hS : jT (F 0) ops V (fun i => (Array.replicate ops.size false).getD i false) ops.size d = dA (F 0) d := by
   rw [lH (i := 0) ops.size (Nat.zero_le _)]
   ·rfl
   ·intro k _ hk _
    simp [Array.getD_eq_getD_getElem?, hk]
  rw [hS]
  exact hf.2.2 d
 ·simp [Array.getD_eq_getD_getElem?, hj]
 ·simp [Array.toList_replicate]
end
end Go.AM
namespace Go.AM
open Go.RowKit
variable [σ : Sg]
def aPp : Value → Value → Bool
 | .bool a, .bool b => a == b
 | .int k a, .int k' b => decide (k = k') && a == b
 | .string a, .string b => a.data.toList == b.data.toList
 | .pointer a, .pointer b => decide (a = b)
 | .slice a l c, .slice b l' c' => decide (a = b) && (Nat.beq l l' && Nat.beq c c')
 | .map a, .map b => decide (a = b)
 | .chan a, .chan b => decide (a = b)
 | .nilIface, .nilIface => true
 | .nilFunc, .nilFunc => true
 | _, _ => false
def aDo : List Value → List Value → Bool
 | [], [] => true
 | a :: r, b :: s => aPp a b && aDo r s
 | _, _ => false
def aOi : Value → Value → Bool
 | .agg ⟨xs⟩, .agg ⟨ys⟩ => aDo xs ys
 | a, b => aPp a b
def aGq : List Value → List Value → Bool
 | [], [] => true
 | a :: r, b :: s => aOi a b && aGq r s
 | _, _ => false
def veq : Value → Value → Bool
 | .tuple ⟨xs⟩, .tuple ⟨ys⟩ => aGq xs ys
 | a, b => aOi a b
theorem aFo {a b : Value} (h : aPp a b = true) : a = b := by
 unfold aPp at h
 split at h
 ·rw [beq_iff_eq] at h; rw [h]
 ·simp only [Bool.and_eq_true, decide_eq_true_eq, beq_iff_eq] at h; rw [h.1, h.2]
 ·rw [beq_iff_eq] at h
  congr 1
  apply ByteArray.ext
  rw [← Array.toList_inj]; exact h
 ·simp only [decide_eq_true_eq] at h; rw [h]
 ·simp only [Bool.and_eq_true, decide_eq_true_eq] at h
  rw [h.1, Nat.eq_of_beq_eq_true h.2.1, Nat.eq_of_beq_eq_true h.2.2]
 ·simp only [decide_eq_true_eq] at h; rw [h]
 ·simp only [decide_eq_true_eq] at h; rw [h]
 ·rfl
 ·rfl
 ·cases h
theorem zK : ∀ {a b : List Value}, aDo a b = true → a = b
 | [], [], _ => rfl
 | [], _ :: _, h => by simp [aDo] at h
 | _ :: _, [], h => by simp [aDo] at h
 | a :: r, b :: s, h => by
  simp only [aDo, Bool.and_eq_true] at h
  rw [aFo h.1, zK h.2]
theorem aEz {a b : Value} (h : aOi a b = true) : a = b := by
 unfold aOi at h
 split at h
 ·rw [zK h]
 ·exact aFo h
theorem aFp : ∀ {a b : List Value}, aGq a b = true → a = b
 | [], [], _ => rfl
 | [], _ :: _, h => by simp [aGq] at h
 | _ :: _, [], h => by simp [aGq] at h
 | a :: r, b :: s, h => by
  simp only [aGq, Bool.and_eq_true] at h
  rw [aEz h.1, aFp h.2]
theorem rS {a b : Value} (h : veq a b = true) : a = b := by
 unfold veq at h
 split at h
 ·rw [aFp h]
 ·exact aEz h
section
variable {P : Program} (E : Env P)
def dI (op : Op) : Bool :=
 match op with
 | .move _ | .assign _ | .pick .. | .build .. | .load .. | .nilCheck _ | .binOp .. | .unOp .. | .makeFunc .. | .slice .. | .fieldAddr .. | .field .. | .indexAddr .. | .index .. | .lookup .. | .extract .. => true
 | .convert _ d _ => (match E.und d with | some (.int _) => true | some .string => true | _ => false)
 | .call c => (match c.callee with | .builtin .len | .builtin .cap | .builtin .min | .builtin .max => true | _ => false)
 | _ => false
def hP (op : Op) : Bool :=
 match op with
 | .move _ | .assign _ | .pick .. | .build .. | .nilCheck _ | .binOp .. | .unOp .. | .makeFunc .. | .fieldAddr .. | .field .. | .indexAddr .. | .index .. | .extract .. => true
 | .convert _ d _ => (match E.und d with | some (.int _) => true | _ => false)
 | .call c => (match c.callee with
  | .builtin .min | .builtin .max => true
  | .builtin .len => (match c.argTypes.toList with
   | [t] => (match E.und t with | some (.map _ _) => false | _ => true)
   | _ => false)
  | _ => false)
 | _ => false
theorem jO {ρ : Operand → Value} {op : Op} {H H' : AH} {v : Value} (hq : dI E op = true) (h : aop E ρ op H = some (v, H')) : H' = H := by
 cases op <;> simp only [dI] at hq <;> (try (cases hq; done)) <;> simp only [aop] at h
 case move => cases h; rfl
 case assign => cases h; rfl
 case pick => split at h <;> cases h <;> rfl
 case load => split at h
              ·exact (aJ h).2
              ·cases h
 case nilCheck => split at h <;> cases h <;> rfl
 case makeFunc => cases h; rfl
 case convert s d x =>
  unfold mH at h
  split at hq
  ·rename_i k hd
   split at h
   ·cases h; rfl
   ·rename_i hd2 _; rw [hd] at hd2; cases hd2
   ·rename_i hd2 _; rw [hd] at hd2; cases hd2
   ·rename_i hd2 _; rw [hd] at hd2; cases hd2
   ·rename_i hd2 _; rw [hd] at hd2; cases hd2
   ·first | (rename_i hd2 _; rw [hd] at hd2; cases hd2; done) | (rename_i hd2; rw [hd] at hd2; cases hd2; done)
   ·first | (rename_i hd2 _; rw [hd] at hd2; cases hd2; done) | (rename_i hd2; rw [hd] at hd2; cases hd2; done)
   ·cases h
  ·rename_i hd
   split at h
   ·cases h; rfl
   ·cases h; rfl
   ·rename_i hd2 _; rw [hd] at hd2; cases hd2
   ·split at h
    ·split at h
     ·cases h; rfl
     ·split at h
      ·split at h
       ·cases h; rfl
       ·cases h
      ·cases h
    ·cases h
   ·rename_i hd2 _; rw [hd] at hd2; cases hd2
   ·first | (rename_i hd2 _; rw [hd] at hd2; cases hd2; done) | (rename_i hd2; rw [hd] at hd2; cases hd2; done)
   ·first | (rename_i hd2 _; rw [hd] at hd2; cases hd2; done) | (rename_i hd2; rw [hd] at hd2; cases hd2; done)
   ·cases h
  ·cases hq
 case call c =>
  split at hq
  ·rename_i hc
   simp only [hc] at h
   split at h
   ·exact (aJ h).2
   ·cases h
  ·rename_i hc
   simp only [hc] at h
   split at h
   ·exact (aJ h).2
   ·cases h
  ·rename_i hc
   simp only [hc] at h
   split at h
   ·exact (aJ h).2
   ·cases h
  ·rename_i hc
   simp only [hc] at h
   split at h
   ·exact (aJ h).2
   ·cases h
  ·cases hq
 all_goals exact (aJ h).2
theorem kD {x : Option Value} {H H2 : AH} {v : Value} (h : cH x H = some (v, H)) : cH x H2 = some (v, H2) := by
 obtain ⟨rfl, _⟩ := aJ h; rfl
theorem xD {ρ : Operand → Value} {op : Op} {H : AH} {v : Value} (hq : hP E op = true) (h : aop E ρ op H = some (v, H)) (H2 : AH) : aop E ρ op H2 = some (v, H2) := by
 cases op <;> simp only [hP] at hq <;> (try (cases hq; done)) <;> simp only [aop] at h ⊢
 case move => cases h; rfl
 case assign => cases h; rfl
 case pick => split at h <;> cases h <;> rfl
 case nilCheck => split at h <;> cases h <;> rfl
 case makeFunc => cases h; rfl
 case convert s d x =>
  unfold mH at h ⊢
  split at hq
  ·rename_i k hd
   split at h
   ·cases h; rfl
   ·rename_i hd2 _; rw [hd] at hd2; cases hd2
   ·rename_i hd2 _; rw [hd] at hd2; cases hd2
   ·rename_i hd2 _; rw [hd] at hd2; cases hd2
   ·rename_i hd2 _; rw [hd] at hd2; cases hd2
   ·first | (rename_i hd2 _; rw [hd] at hd2; cases hd2; done) | (rename_i hd2; rw [hd] at hd2; cases hd2; done)
   ·first | (rename_i hd2 _; rw [hd] at hd2; cases hd2; done) | (rename_i hd2; rw [hd] at hd2; cases hd2; done)
   ·cases h
  ·cases hq
 case call c =>
  split at hq
  ·rename_i hc
   simp only [hc] at h ⊢
   split at h
   ·exact kD h
   ·cases h
  ·rename_i hc
   simp only [hc] at h ⊢
   split at h
   ·exact kD h
   ·cases h
  ·rename_i hc
   simp only [hc] at h ⊢
   split at hq
   ·rename_i t ht
    split at h
    ·rename_i x t' ha ht'
     rw [ht] at ht'; cases ht'
     split at hq
     ·cases hq
     ·rename_i hnm
      obtain ⟨h1, _⟩ := aJ h
      have : aBg E t (ρ x) H2 = aBg E t (ρ x) H := by
       unfold aBg
       split
       ·rename_i hu; rfl
       ·rfl
       ·rfl
       ·rename_i hu _; exact absurd hu (hnm _ _)
       ·rename_i hu _; exact absurd hu (hnm _ _)
       ·rfl
      rw [this]
      exact kD h
    ·cases h
   ·cases hq
  ·cases hq
 all_goals exact kD h
abbrev dM := FuncId → List Value → AH → Option (Value × AH)
def eR (P : Program) (call : dM) : Prop := ∀ g args H v H', call g args H = some (v, H') → H'.w0 = H.w0 ∧ ACalls P g args H fun u K => u = v ∧ K = H'
def lX (call : dM) (ops : Array Oper) (o : Oper) (f : Fr) (H : AH) : Option (Value × AH × Bool) :=
 bif bZ ops (dA f) o then
  bif dI E o.op then (match aop E (bS f) o.op H with
   | some (v, _) => some (v, H, false)
   | none => none)
  else (match dE E (bS f) o.op with
   | some (g, args) => (match call g args H with
    | some (v, H') => some (v, H', true)
    | none => none)
   | none => (match aop E (bS f) o.op H with
    | some (v, H') => some (v, H', true)
    | none => none))
 else some (undef, H, false)
def eI (call : dM) (ops : Array Oper) : List Oper → Fr → AH → Option (Fr × AH)
 | [], f, H => some (f, H)
 | o :: r, f, H => (match lX E call ops o f H with
  | some (v, H', _) => (match f.put o.dst v with
   | some g => eI call ops r g H'
   | none => none)
  | none => none)
abbrev iM := Fr × AH × Value × Bool
def fO (call : dM) (ops : Array Oper) : List Oper → Fr → AH → Option (List iM × Fr × AH)
 | [], f, H => some ([], f, H)
 | o :: r, f, H => (match lX E call ops o f H with
  | some (v, H', m) => (match f.put o.dst v with
   | some g => (match fO call ops r g H' with
    | some (l, x) => some ((f, H, v, m) :: l, x)
    | none => none)
   | none => none)
  | none => none)
def eW : Nat → List iM → List Nat
 | _, [] => []
 | i, (_, _, _, m) :: r => bif m then i :: eW (i + 1) r else eW (i + 1) r
def eO (bs : List Nat) : List Nat → Bool
 | [] => true
 | i :: r => (r.all fun j => (bs.getD j 0).testBit i) && eO bs r
def gI (l : List iM) (last : AH) : List Nat → List (Nat × AH)
 | [] => []
 | m :: r => (m + 1, match l[m + 1]? with
  | some s => s.2.1
  | none => last) :: gI l last r
def uP (bs ms : List Nat) (i : Nat) (o : Oper) (f : Fr) (v : Value) (t : Nat) (H : AH) : Bool :=
 (ms.any fun j => (bs.getD i 0).testBit j && !(Nat.blt j t)) || ((ms.any fun j => (bs.getD j 0).testBit i && Nat.blt j t) ||
  match aop E (bS f) o.op H with
  | some (u, _) => veq u v
  | none => false)
def iF (ops : Array Oper) (bs ms : List Nat) (hs : List (Nat × AH)) : Nat → List iM → Bool
 | _, [] => true
 | i, (f, _, v, m) :: r =>
  (match ops[i]? with
  | some o => m || (hP E o.op || (!(bZ ops (dA f) o) || hs.all fun th => uP E bs ms i o f v th.1 th.2))
  | none => true) && iF ops bs ms hs (i + 1) r
def nE (call : dM) (ops : Array Oper) (f : Fr) (H : AH) : Option (Fr × AH) :=
 bif dH ops (bef ops) then
  (match fO E call ops ops.toList f H with
  | some (l, g, H') =>
   (match eW 0 l with
   | [] => some (g, H')
   | m :: r => bif eO (bef ops) (m :: r) && iF E ops (bef ops) (m :: r) ((0, H) :: gI l H' (m :: r)) 0 l then some (g, H') else none)
  | none => none)
 else none
theorem cU {call : dM} {ops : Array Oper} {o : Oper} {f : Fr} {H H' : AH} {v : Value} {m : Bool} (h : lX E call ops o f H = some (v, H', m)) :
 (bZ ops (dA f) o = false ∧ v = undef ∧ m = false ∧ H' = H) ∨
 (bZ ops (dA f) o = true ∧ m = false ∧ H' = H ∧ dI E o.op = true ∧ aop E (bS f) o.op H = some (v, H)) ∨
 (bZ ops (dA f) o = true ∧ m = true ∧ aop E (bS f) o.op H = some (v, H')) ∨
 (bZ ops (dA f) o = true ∧ m = true ∧ ∃ g args, dE E (bS f) o.op = some (g, args) ∧ call g args H = some (v, H')) := by
 unfold lX at h
 cases hw : bZ ops (dA f) o with
 | false => rw [hw, cond_false] at h; cases h; exact .inl ⟨rfl, rfl, rfl, rfl⟩
 | true =>
  rw [hw, cond_true] at h
  cases hq : dI E o.op with
  | true =>
   rw [hq, cond_true] at h
   split at h
   ·rename_i u K hop
    have hK := jO E hq hop
    cases h
    rw [hK] at hop
    exact .inr (.inl ⟨rfl, rfl, rfl, rfl, hop⟩)
   ·cases h
  | false =>
   rw [hq, cond_false] at h
   split at h
   ·rename_i g args hc
    split at h
    ·rename_i u K hcall
     cases h
     exact .inr (.inr (.inr ⟨rfl, rfl, g, args, hc, hcall⟩))
    ·cases h
   ·split at h
    ·rename_i u K hop
     cases h
     exact .inr (.inr (.inl ⟨rfl, rfl, hop⟩))
    ·cases h
theorem pX {call : dM} (hcall : eR P call) {ops : Array Oper} {Q : AQ} {g : Fr} {K : AH} (hQ : Q .normal g K) : ∀ (l : List Oper) (k : Nat) (f : Fr) (H : AH), (∀ j, l[j]? = ops[k + j]?) → eI E call ops l f H = some (g, K) →
 AOps P ops (List.range' k l.length) Q f H := by
 intro l
 induction l with
 | nil => intro k f H _ h; simp [eI] at h; obtain ⟨rfl, rfl⟩ := h; exact AOps.nil hQ
 | cons o r ih =>
  intro k f H hl h
  simp only [eI] at h
  split at h
  ·rename_i v H' m hs
   split at h
   ·rename_i f' hp
    have ho : ops[k]? = some o := by have := hl 0; simpa using this.symm
    have hr := ih (k + 1) f' H' (fun j => by have := hl (j + 1); simp only [List.getElem?_cons_succ] at this; rw [this]; congr 1; omega) h
    rw [List.length_cons, List.range'_succ]
    rcases cU E hs with ⟨h1, rfl, _, rfl⟩ | ⟨h1, _, rfl, _, h2⟩ | ⟨h1, _, h2⟩ | ⟨h1, _, c, args, h2, h3⟩
    ·exact AOps.skip ho h1 hp hr
    ·exact AOps.op E ho h1 h2 hp hr
    ·exact AOps.op E ho h1 h2 hp hr
    ·refine AOps.call E ho h1 h2 ((hcall _ _ _ _ _ h3).2.mono ?_)
     rintro u K' ⟨rfl, rfl⟩
     exact ⟨f', hp, hr⟩
   ·cases h
  ·cases h
theorem yF {call : dM} {ops : Array Oper} : ∀ (l : List Oper) (f : Fr) (H : AH) (L : List iM) (g : Fr) (K : AH), fO E call ops l f H = some (L, g, K) →
 L.length = l.length ∧ ∀ (i : Nat) (o : Oper) (s : iM), l[i]? = some o → L[i]? = some s → ∃ s', (L ++ [(g, K, undef, false)])[i + 1]? = some s' ∧ lX E call ops o s.1 s.2.1 = some (s.2.2.1, s'.2.1, s.2.2.2) ∧ s.1.put o.dst s.2.2.1 = some s'.1 := by
 intro l
 induction l with
 | nil => intro f H L g K h; simp [fO] at h; obtain ⟨rfl, rfl, rfl⟩ := h; exact ⟨rfl, fun i o s h => by simp at h⟩
 | cons o r ih =>
  intro f H L g K h
  simp only [fO] at h
  split at h
  ·rename_i v H' m hs
   split at h
   ·rename_i f' hp
    split at h
    ·rename_i L' x hr
     obtain ⟨g', K'⟩ := x
     cases h
     obtain ⟨h1, h2⟩ := ih f' H' L' _ _ hr
     have hhead : ∃ s', (L' ++ [(g, K, undef, false)])[0]? = some s' ∧ s'.1 = f' ∧ s'.2.1 = H' := by
      cases r with
      | nil => simp [fO] at hr; obtain ⟨rfl, rfl, rfl⟩ := hr; exact ⟨_, rfl, rfl, rfl⟩
      | cons o2 r2 =>
       simp only [fO] at hr
       split at hr
       ·split at hr
        ·split at hr
         ·cases hr; exact ⟨_, rfl, rfl, rfl⟩
         ·cases hr
        ·cases hr
       ·cases hr
     refine ⟨by simp [h1], fun i o' s hi hs' => ?_⟩
     cases i with
     | zero =>
      simp at hi hs'
      subst hi; subst hs'
      obtain ⟨s', q1, q2, q3⟩ := hhead
      exact ⟨s', by simpa using q1, by rw [q3]; exact hs, by rw [q2]; exact hp⟩
     | succ i =>
      simp at hi hs'
      obtain ⟨s2, q1, q2⟩ := h2 i o' s hi hs'
      exact ⟨s2, by simpa using q1, q2⟩
    ·cases h
   ·cases h
  ·cases h
theorem fY : ∀ (L : List iM) (k j : Nat), j ∈ eW k L ↔ ∃ i s, L[i]? = some s ∧ s.2.2.2 = true ∧ j = k + i := by
 intro L
 induction L with
 | nil => intro k j; simp [eW]
 | cons s L ih =>
  intro k j
  obtain ⟨a, b, c, m⟩ := s
  simp only [eW]
  cases m with
  | true =>
   rw [cond_true, List.mem_cons, ih]
   constructor
   ·rintro (rfl | ⟨i, s, h1, h2, rfl⟩)
    ·exact ⟨0, _, rfl, rfl, rfl⟩
    ·exact ⟨i + 1, s, by simpa using h1, h2, by omega⟩
   ·rintro ⟨i, s, h1, h2, rfl⟩
    cases i with
    | zero => exact .inl rfl
    | succ i => exact .inr ⟨i, s, by simpa using h1, h2, by omega⟩
  | false =>
   rw [cond_false, ih]
   constructor
   ·rintro ⟨i, s, h1, h2, rfl⟩
    exact ⟨i + 1, s, by simpa using h1, h2, by omega⟩
   ·rintro ⟨i, s, h1, h2, rfl⟩
    cases i with
    | zero => simp at h1; subst h1; cases h2
    | succ i => exact ⟨i, s, by simpa using h1, h2, by omega⟩
theorem nD : ∀ (L : List iM) (k : Nat), (eW k L).Pairwise (· < ·) := by
 intro L
 induction L with
 | nil => intro k; exact List.Pairwise.nil
 | cons s L ih =>
  intro k
  obtain ⟨a, b, c, m⟩ := s
  simp only [eW]
  cases m with
  | true =>
   rw [cond_true]
   refine List.Pairwise.cons (fun j hj => ?_) (ih (k + 1))
   obtain ⟨i, _, _, _, rfl⟩ := (fY L (k + 1) j).1 hj
   omega
  | false => rw [cond_false]; exact ih (k + 1)
theorem tK {bs : List Nat} : ∀ {ms : List Nat}, eO bs ms = true → ms.Pairwise (· < ·) → ∀ i j, i ∈ ms → j ∈ ms → i < j → (bs.getD j 0).testBit i = true := by
 intro ms
 induction ms with
 | nil => intro _ _ i j h; cases h
 | cons m r ih =>
  intro h hs i j hi hj hij
  simp only [eO, Bool.and_eq_true, List.all_eq_true] at h
  rw [List.pairwise_cons] at hs
  rcases List.mem_cons.1 hi with rfl | hi2
  ·rcases List.mem_cons.1 hj with rfl | hj2
   ·omega
   ·exact h.1 j hj2
  ·rcases List.mem_cons.1 hj with rfl | hj2
   ·have := hs.1 i hi2; omega
   ·exact ih h.2 hs.2 i j hi2 hj2 hij
theorem uR {ops : Array Oper} {bs ms : List Nat} {hs : List (Nat × AH)} : ∀ (L : List iM) (k : Nat), iF E ops bs ms hs k L = true → ∀ (i : Nat) (s : iM) (o : Oper), L[i]? = some s → ops[k + i]? = some o → s.2.2.2 = false → hP E o.op = false →
 bZ ops (dA s.1) o = true → ∀ th ∈ hs, uP E bs ms (k + i) o s.1 s.2.2.1 th.1 th.2 = true := by
 intro L
 induction L with
 | nil => intro k _ i s o h; simp at h
 | cons x L ih =>
  intro k h i s o hi ho hm hp hw th hth
  obtain ⟨f, K, v, m⟩ := x
  simp only [iF, Bool.and_eq_true] at h
  cases i with
  | zero =>
   simp at hi
   subst hi
   simp only at hm hw
   subst hm
   rw [Nat.add_zero] at ho ⊢
   have h1 := h.1
   simp only [ho, hp, hw, Bool.false_or, Bool.not_true, List.all_eq_true] at h1
   exact h1 th hth
  | succ i =>
   have := ih (k + 1) h.2 i s o (by simpa using hi) (by rw [← ho]; congr 1; omega) hm hp hw th hth
   rwa [show k + (i + 1) = k + 1 + i by omega]
theorem uB {L : List iM} {last : AH} : ∀ {ms : List Nat} {m : Nat}, m ∈ ms → (m + 1, match L[m + 1]? with | some s => s.2.1 | none => last) ∈ gI L last ms := by
 intro ms
 induction ms with
 | nil => intro m h; cases h
 | cons x r ih =>
  intro m h
  simp only [gI]
  rcases List.mem_cons.1 h with rfl | h
  ·exact List.mem_cons_self ..
  ·exact List.mem_cons_of_mem _ (ih h)
theorem aAu {call : dM} (hcall : eR P call) (hm : P.follows .mixedOrders = true) {ops : Array Oper} {Q : AQ} {f g : Fr} {H K : AH} (hQ : Q .normal g K) (h : nE E call ops f H = some (g, K)) (id : Nat) : ACode P (.region id ops true) Q f H := by
 unfold nE at h
 cases hord : dH ops (bef ops) with
 | false => rw [hord] at h; cases h
 | true =>
  rw [hord, cond_true] at h
  split at h
  ·rename_i L g' K' hrun
   obtain ⟨hlen, hst⟩ := yF E _ _ _ _ _ _ hrun
   have hgK : g' = g ∧ K' = K := by
    split at h
    ·cases h; exact ⟨rfl, rfl⟩
    ·rcases aU h with h | h
     ·cases h; exact ⟨rfl, rfl⟩
     ·cases h
   obtain ⟨rfl, rfl⟩ := hgK
   have hlen' : L.length = ops.size := by rw [hlen, Array.length_toList]
   let A := L ++ [(g', K', undef, false)]
   let d : iM := (g', K', undef, false)
   let F := fun i => (A.getD i d).1
   let HH := fun i => (A.getD i d).2.1
   let V := fun i => (A.getD i d).2.2.1
   let M := fun i => (A.getD i d).2.2.2
   have hA : ∀ i, i < ops.size → ∃ s, L[i]? = some s ∧ A.getD i d = s := by
    intro i hi
    refine ⟨L[i]'(by omega), by simp [hlen', hi], ?_⟩
    simp only [A, List.getD_eq_getElem?_getD]
    rw [List.getElem?_append_left (by omega)]
    simp [hlen', hi]
   have hAn : A.getD ops.size d = d := by
    simp only [A, List.getD_eq_getElem?_getD]
    rw [List.getElem?_append_right (by omega)]
    simp [hlen', d]
   have hstep : ∀ i o, ops[i]? = some o → lX E call ops o (F i) (HH i) = some (V i, HH (i + 1), M i) ∧ (F i).put o.dst (V i) = some (F (i + 1)) := by
    intro i o ho
    obtain ⟨s, h1, h2⟩ := hA i (alt_of_getElem? ho)
    obtain ⟨s', q1, q2, q3⟩ := hst i o s (by simpa using ho) h1
    have e : A.getD (i + 1) d = s' := by simp only [A, List.getD_eq_getElem?_getD, q1, Option.getD_some]
    simp only [F, HH, V, M, h2, e]
    exact ⟨q2, q3⟩
   have hmm : ∀ i, i < ops.size → (M i = true ↔ i ∈ eW 0 L) := by
    intro i hi
    obtain ⟨s, h1, h2⟩ := hA i hi
    rw [fY]
    simp only [M, h2]
    constructor
    ·intro hM; exact ⟨i, s, h1, hM, by omega⟩
    ·rintro ⟨j, s', h3, h4, h5⟩
     obtain rfl : j = i := by omega
     rw [h1] at h3; cases h3; exact h4
   have hF0 : F 0 = f ∧ HH 0 = H := by
    by_cases hz : ops.size = 0
    ·have hnil : ops.toList = [] := List.eq_nil_of_length_eq_zero (by rw [Array.length_toList]; exact hz)
     rw [hnil] at hrun
     simp [fO] at hrun
     obtain ⟨rfl, rfl, rfl⟩ := hrun
     exact ⟨rfl, rfl⟩
    ·cases hops : ops.toList with
     | nil => have : ops.toList.length = 0 := by rw [hops]; rfl
              rw [Array.length_toList] at this; omega
     | cons o r =>
      rw [hops] at hrun
      simp only [fO] at hrun
      split at hrun
      ·split at hrun
       ·split at hrun
        ·cases hrun; exact ⟨rfl, rfl⟩
        ·cases hrun
       ·cases hrun
      ·cases hrun
   have still : ∀ i, i < ops.size → M i = false → HH (i + 1) = HH i := by
    intro i hi hM
    have ho : ops[i]? = some ops[i] := Array.getElem?_eq_getElem hi
    rcases cU E (hstep i _ ho).1 with ⟨_, _, _, h4⟩ | ⟨_, _, h4, _⟩ | ⟨_, h4, _⟩ | ⟨_, h4, _⟩
    ·exact h4
    ·exact h4
    ·rw [hM] at h4; cases h4
    ·rw [hM] at h4; cases h4
   have w0s : ∀ i, i < ops.size → (HH (i + 1)).w0 = (HH i).w0 := by
    intro i hi
    have ho : ops[i]? = some ops[i] := Array.getElem?_eq_getElem hi
    rcases cU E (hstep i _ ho).1 with ⟨_, _, _, h4⟩ | ⟨_, _, h4, _⟩ | ⟨_, _, h4⟩ | ⟨_, _, c, args, _, h4⟩
    ·rw [h4]
    ·rw [h4]
    ·exact mR E h4
    ·exact (hcall _ _ _ _ _ h4).1
   have T : Trace E ops F HH V M := by
    refine ⟨⟨hord, fun i o ho => (hstep i o ho).2⟩, fun i o ho => ?_, still, fun i j hij hj hMi hMj => ?_⟩
    ·have hi := alt_of_getElem? ho
     rcases cU E (hstep i o ho).1 with ⟨h1, h2, h3, h4⟩ | ⟨h1, h2, h3, h4, h5⟩ | ⟨h1, h2, h3⟩ | ⟨h1, h2, c, args, h3, h4⟩
     ·exact .inl ⟨h1, h2, h3⟩
     ·refine .inr (.inl ⟨h1, h2, fun t ht hb ha => ?_⟩)
      cases hp : hP E o.op with
      | true => exact xD E hp h5 (HH t)
      | false =>
       split at h
       ·-- no mains at all
        rename_i hnil
        have hno : ∀ j, j < ops.size → M j = false := by
         intro j hj
         cases hMj : M j with
         | false => rfl
         | true => have := (hmm j hj).1 hMj; rw [hnil] at this; cases this
        have hconst : ∀ k, k ≤ ops.size → HH k = HH 0 := by
         intro k
         induction k with
         | zero => intro _; rfl
         | succ k ihk => intro hk; rw [still k (by omega) (hno k (by omega))]; exact ihk (by omega)
        rw [hconst t ht, ← hconst i (by omega)]; exact h5
       ·rename_i m r hms
        cases hck : (eO (bef ops) (m :: r) && iF E ops (bef ops) (m :: r) ((0, H) :: gI L K' (m :: r)) 0 L) with
        | false => rw [hck] at h; cases h
        | true =>
         simp only [Bool.and_eq_true] at hck
         obtain ⟨s, hs1, hs2⟩ := hA i hi
         have hF : F i = s.1 := by simp only [F, hs2]
         have hV : V i = s.2.2.1 := by simp only [V, hs2]
         have hM : M i = s.2.2.2 := by simp only [M, hs2]
         have hq := uR E L 0 hck.2 i s o hs1 (by rw [Nat.zero_add]; exact ho) (by rw [← hM]; exact h2) hp (by rw [← hF]; exact h1)
         rw [Nat.zero_add] at hq
         -- the heap at t is one of those that were tried
         have hrep : ∃ t', t' ≤ t ∧ HH t' = HH t ∧ (t', HH t') ∈ ((0, H) :: gI L K' (m :: r)) ∧ (∀ j, j < ops.size → M j = true → j < t → j < t') := by
          clear hb ha
          induction t with
          | zero => exact ⟨0, Nat.le_refl _, rfl, by rw [hF0.2]; exact List.mem_cons_self .., fun j _ _ h => h⟩
          | succ t iht =>
           cases hMt : M t with
           | true =>
            refine ⟨t + 1, Nat.le_refl _, rfl, List.mem_cons_of_mem _ ?_, fun j _ _ h => h⟩
            have hin := (hmm t (by omega)).1 hMt
            rw [hms] at hin
            have := uB (L := L) (last := K') hin
            have e : HH (t + 1) = (match L[t + 1]? with | some s => s.2.1 | none => K') := by
             by_cases hlt : t + 1 < ops.size
             ·obtain ⟨s2, q1, q2⟩ := hA (t + 1) hlt
              simp only [HH, q2, q1]
             ·have he : t + 1 = ops.size := by omega
              have : L[t + 1]? = none := List.getElem?_eq_none (by omega)
              simp only [HH, he, hAn, d]
              rw [← he, this]
            rw [e]; exact this
           | false =>
            obtain ⟨t', r1, r2, r3, r4⟩ := iht (by omega)
            refine ⟨t', by omega, by rw [r2, still t (by omega) hMt], r3, fun j hj hMj hjt => ?_⟩
            by_cases e : j = t
            ·subst e; rw [hMt] at hMj; cases hMj
            ·exact r4 j hj hMj (by omega)
         obtain ⟨t', r1, r2, r3, r4⟩ := hrep
         have hqa := hq _ r3
         simp only [uP, Bool.or_eq_true, List.any_eq_true, Bool.and_eq_true, Bool.not_eq_true'] at hqa
         rcases hqa with ⟨j, hj, hbit, hge⟩ | ⟨j, hj, hbit, hlt⟩ | hval
         ·exfalso
          rw [← hms] at hj
          obtain ⟨ii, ss, q1, q2, rfl⟩ := (fY L 0 j).1 hj
          have hjlt : 0 + ii < ops.size := by have := lt_of_getElem? q1; omega
          have hMj := (hmm _ hjlt).2 hj
          have := r4 _ hjlt hMj (hb _ hjlt hMj hbit)
          have hlt' : Nat.blt (0 + ii) t' = true := by simp only [Nat.blt, Nat.ble_eq]; omega
          rw [hlt'] at hge; cases hge
         ·exfalso
          rw [← hms] at hj
          obtain ⟨ii, ss, q1, q2, rfl⟩ := (fY L 0 j).1 hj
          have hjlt : 0 + ii < ops.size := by have := lt_of_getElem? q1; omega
          have hMj := (hmm _ hjlt).2 hj
          have := ha _ hjlt hMj hbit
          simp only [Nat.blt, Nat.ble_eq] at hlt
          omega
         ·rw [← r2]
          split at hval
          ·rename_i u K2 hu
           have e1 := rS hval
           have e2 := jO E h4 hu
           rw [hF, hV, hu, e1, e2]
          ·cases hval
     ·exact .inr (.inr (.inl ⟨h1, h2, h3⟩))
     ·exact .inr (.inr (.inr ⟨h1, h2, c, args, h3, (hcall _ _ _ _ _ h4).2⟩))
    ·-- mains
     have hi : i < ops.size := by omega
     have m1 := (hmm i hi).1 hMi
     have m2 := (hmm j hj).1 hMj
     split at h
     ·rename_i hnil; rw [hnil] at m1; cases m1
     ·rename_i m r hms
      cases hck : (eO (bef ops) (m :: r) && iF E ops (bef ops) (m :: r) ((0, H) :: gI L K' (m :: r)) 0 L) with
      | false => rw [hck] at h; cases h
      | true =>
       simp only [Bool.and_eq_true] at hck
       rw [hms] at m1 m2
       have hsorted := nD L 0
       rw [hms] at hsorted
       exact tK hck.1 hsorted i j m1 m2 hij
   have := T.region hm w0s (Q := Q) (by simp only [F, HH, hAn]; exact hQ) id
   rw [hF0.1, hF0.2] at this
   exact this
  ·cases h
end
end Go.AM
namespace Go.AM
open Go.RowKit
variable [σ : Sg]
section
variable {P : Program} {Q : AQ} {f : Fr} {H : AH}
theorem aHq [Pins] {φ : List Place} {w0 : World} {y : Code} {Q : AQ} {e : Exit} {a : Act} {w : World} {R : AQ}
 (hn : ∀ f H, R .normal f H → ACode P y Q f H) (ho : ∀ e f H, e ≠ .normal → R e f H → Q e f H) (h : iN φ w0 R e a w) : Exit.then (y.wp P (iN φ w0 Q)) (iN φ w0 Q) e a w := by
 obtain ⟨φ', f, H, h1, h2, h3, h4, h5⟩ := h
 cases e with
 | normal =>
  refine wp_mono (hn f H h5 _ φ' a w h2 h3) fun e a w k => ?_
  rw [h4] at k
  exact nV h1 k
 | _ => exact ⟨φ', f, H, h1, h2, h3, h4, ho _ f H (by simp) h5⟩
theorem ACode.mono {c : Code} {Q' : AQ} (h : ACode P c Q f H) (hq : ∀ e f H, Q e f H → Q' e f H) : ACode P c Q' f H :=
 fun π φ a w hf hR => wp_mono (h _ φ a w hf hR) fun _ _ _ ⟨φ', f, H, h1, h2, h3, h4, h5⟩ => ⟨φ', f, H, h1, h2, h3, h4, hq _ _ _ h5⟩
theorem ACode.here {c : Code} {e : Exit} (hw : ∀ {R : Exit → Act → World → Prop} {a : Act} {w : World}, R e a w → c.wp P R a w) (h : Q e f H) : ACode P c Q f H :=
 fun π φ _ _ hf hR => hw ⟨φ, f, H, List.prefix_refl _, hf, hR, rfl, h⟩
theorem ACode.skip (h : Q .normal f H) : ACode P .skip Q f H := ACode.here (fun k => wp_skip k) h
theorem ACode.label {l : Nat} (h : Q .normal f H) : ACode P (.label l) Q f H := ACode.here (fun k => wp_label k) h
theorem ACode.exit {i : Nat} (h : Q (.exit i) f H) : ACode P (.exit i) Q f H := ACode.here (fun k => wp_exit k) h
theorem ACode.ret (h : Q .ret f H) : ACode P .ret Q f H := ACode.here (fun k => wp_ret k) h
theorem ACode.seq {x y : Code} {R : AQ} (h : ACode P x R f H) (hn : ∀ f H, R .normal f H → ACode P y Q f H) (ho : ∀ e f H, e ≠ .normal → R e f H → Q e f H) : ACode P (.seq x y) Q f H :=
 fun π φ a w hf hR => wp_seq (wp_mono (h _ φ a w hf hR) fun _ _ _ k => aHq hn ho k)
theorem ACode.cond {c : Operand} {x y : Code} {b : Bool} (hc : bS f c = .bool b) (h : ACode P (if b then x else y) Q f H) : ACode P (.cond c x y) Q f H := by
 intro π φ a w hf hR
 have hv := hf.eval c
 rw [hc] at hv
 generalize hcc : a.eval c = cc at hv
 cases hv
 exact wp_cond hcc (h _ φ a w hf hR)
theorem ACode.block {i : Nat} {c : Code} (h : ACode P c (fun e f H => match e with | .exit j => if j = i then Q .normal f H else Q (.exit j) f H | e => Q e f H) f H) : ACode P (.block i c) Q f H := by
 intro π φ a w hf hR
 refine wp_block (wp_mono (h _ φ a w hf hR) ?_)
 rintro e a w ⟨φ', f, H, h1, h2, h3, h4, h5⟩
 cases e with
 | exit j =>
  simp only [Exit.inBlock]
  simp only at h5
  split
  ·rename_i e; rw [if_pos e] at h5; exact ⟨φ', f, H, h1, h2, h3, h4, h5⟩
  ·rename_i e; rw [if_neg e] at h5; exact ⟨φ', f, H, h1, h2, h3, h4, h5⟩
 | _ => exact ⟨φ', f, H, h1, h2, h3, h4, h5⟩
theorem ACode.region {i : Nat} {ops : Array Oper} (h : AOps P ops (List.range ops.size) Q f H) : ACode P (.region i ops false) Q f H := fun π φ a w hf hR => wp_region (h _ φ a w hf hR)
theorem ACode.loop {c : Code} (I : Fr → AH → Prop) (μ : Fr → AH → Nat) (h0 : I f H) (round : ∀ f H, I f H → ACode P c (fun e f' H' => match e with | .normal => I f' H' ∧ μ f' H' < μ f H | e => Q e f' H') f H) : ACode P (.loop c) Q f H := by
 intro π φ a w hf hR b k cs
 have key : ∀ n f H φ' a w, μ f H = n → I f H → H.w0 = H.w0 → φ <+: φ' → FRel φ' f a → Rel φ' H w → ∀ w0, H.w0 = w0 →
  ∃ e a' w', iN φ w0 Q e a' w' ∧ Arrives P (lone (b.at a (.code c :: .inLoop c :: k)) cs w) b k cs e a' w' := by
  intro n
  induction n using Nat.strongRecOn with
  | _ n ih =>
   intro f H φ' a w hn hI _ hφ hf hR w0 hw0
   obtain ⟨e, a₁, w₁, hq, harr⟩ := round f H hI _ φ' a w hf hR b (.inLoop c :: k) cs
   obtain ⟨φ2, f2, H2, q1, q2, q3, q4, q5⟩ := hq
   have hw2 : H2.w0 = w0 := q4.trans hw0
   cases e with
   | normal =>
    obtain ⟨hI₁, hlt⟩ := q5
    obtain ⟨e₂, a₂, w₂, hq₂, harr₂⟩ := ih (μ f2 H2) (hn ▸ hlt) f2 H2 φ2 a₁ w₁ rfl hI₁ rfl (hφ.trans q1) q2 q3 w0 hw2
    exact ⟨e₂, a₂, w₂, hq₂, .of_steps (Steps.trans harr (.one step_inLoop)) harr₂⟩
   | exit id => exact ⟨_, a₁, w₁, ⟨φ2, f2, H2, hφ.trans q1, q2, q3, hw2, q5⟩, .pass (x := .inLoop c) rfl (fun _ _ => .inl (by simp)) harr⟩
   | goto l => exact ⟨_, a₁, w₁, ⟨φ2, f2, H2, hφ.trans q1, q2, q3, hw2, q5⟩, .pass (x := .inLoop c) rfl (fun _ _ => .inl (by simp)) harr⟩
   | ret => exact ⟨_, a₁, w₁, ⟨φ2, f2, H2, hφ.trans q1, q2, q3, hw2, q5⟩, .pass (x := .inLoop c) rfl (fun _ _ => .inl (by simp)) harr⟩
   | panic ch => exact ⟨_, a₁, w₁, ⟨φ2, f2, H2, hφ.trans q1, q2, q3, hw2, q5⟩, .pass (x := .inLoop c) rfl (fun _ _ => .inl (by simp)) harr⟩
   | outgrown => exact ⟨_, a₁, w₁, ⟨φ2, f2, H2, hφ.trans q1, q2, q3, hw2, q5⟩, .pass (x := .inLoop c) rfl (fun _ _ => .inl (by simp)) harr⟩
 obtain ⟨e, a', w', hq, harr⟩ := key _ f H φ a w rfl h0 rfl (List.prefix_refl _) hf hR H.w0 rfl
 exact ⟨e, a', w', hq, .of_steps (.one step_loop) harr⟩
end
def aJd : List Value → Nat → Tr Value → Tr Value
 | [], _, t => t
 | v :: r, i, t => aJd r (i + 1) (t.set i (some v))
def mB (args : List Value) (ntmps : Nat) : Fr := ⟨args.length + (ntmps - args.length), aJd args 0 .nil⟩
theorem aKx : ∀ (l : List Value) (i : Nat) (t : Tr Value) (j : Nat), (aJd l i t).get j = if j < i then t.get j else if j < i + l.length then l[j - i]? else t.get j := by
 intro l
 induction l with
 | nil =>
  intro i t j
  simp only [aJd, List.length_nil, Nat.add_zero]
  by_cases h : j < i
  ·rw [if_pos h]
  ·rw [if_neg h, if_neg h]
 | cons v r ih =>
  intro i t j
  simp only [aJd, ih, Tr.get_set, List.length_cons]
  by_cases h1 : j < i
  ·rw [if_pos (by omega), if_neg (by omega), if_pos h1]
  ·rw [if_neg h1]
   by_cases h2 : j = i
   ·subst h2; simp
   ·rw [if_neg (by omega), if_neg h2]
    by_cases h3 : j < i + 1 + r.length
    ·rw [if_pos h3, if_pos (by omega), show j - i = (j - (i + 1)) + 1 by omega]
     simp
    ·rw [if_neg h3, if_neg (by omega)]
theorem zF [π : Pins] {φ : List Place} {args args' : List Value} (h : VRs φ args args') (n : Nat) : @FRel σ ⟨⟨π.pin, []⟩⟩ φ (mB args n) { tmps := ⟨args'⟩ ++ Array.replicate (n - (⟨args'⟩ : Array Value).size) undef, defers := [] } := by
 refine ⟨rfl, by simp [mB, h.1], fun t => ?_⟩
 simp only [bS, mB, aKx, Nat.not_lt_zero, if_false, Nat.zero_add, Nat.sub_zero]
 by_cases ht : t < args.length
 ·rw [if_pos ht]
  have ht' : t < args'.length := h.1 ▸ ht
  simp only [ht, List.getElem?_eq_getElem]
  have : (⟨args'⟩ ++ Array.replicate (n - (⟨args'⟩ : Array Value).size) undef).getD t undef = args'[t] := by
   simp [Array.getD_eq_getD_getElem?, Array.getElem?_append, ht']
  rw [this]
  exact h.2 t _ _ (by simp [ht]) (by simp [ht'])
 ·rw [if_neg ht]
  have ht' : ¬ t < args'.length := h.1 ▸ ht
  have : (⟨args'⟩ ++ Array.replicate (n - (⟨args'⟩ : Array Value).size) undef).getD t undef = undef := by
   simp only [Array.getD_eq_getD_getElem?, Array.getElem?_append, List.size_toArray, ht', if_false, Array.getElem?_replicate]
   split <;> rfl
  rw [this]
  exact VR.undef φ
section
variable {P : Program} (E : Env P)
def rA (f : Fr) (H : AH) : ResultVar → Option Value
 | .tmp t => some (bS f (.tmp t))
 | .cell a t => (match bS f (.tmp a) with
  | .pointer (some p) => iI E t p H
  | _ => none)
def cJ (f : Fr) (H : AH) : List ResultVar → Option (List Value)
 | [] => some []
 | r :: l => (match rA E f H r, cJ f H l with
  | some v, some vs => some (v :: vs)
  | _, _ => none)
def dX : List Value → Value
 | [v] => v
 | vs => .tuple ⟨vs⟩
theorem aBv [Pins] {φ : List Place} {f : Fr} {H : AH} {a : Act} {w : World} (hf : FRel φ f a) (R : Rel φ H w) : ∀ (rs : List ResultVar) (vs : List Value), cJ E f H rs = some vs →
 ∃ vs', VRs φ vs vs' ∧ (rs.mapM (fun | .tmp t => pure (a.tmps.getD t undef) | .cell p t => do loadVar t (← asAddr (a.tmps.getD p undef))) : Sem (List Value)).run P w = .ok vs' w := by
 intro rs
 induction rs with
 | nil => intro vs h; simp [cJ] at h; subst h; exact ⟨[], VRs.nil φ, by simp⟩
 | cons r rs ih =>
  intro vs h
  simp only [cJ] at h
  split at h
  ·rename_i v vs2 hv hvs
   cases h
   obtain ⟨vs', h1, h2⟩ := ih vs2 hvs
   cases r with
   | tmp t =>
    simp only [rA] at hv
    cases hv
    exact ⟨_ :: vs', VRs.cons (hf.2.2 t) h1, by simp only [List.mapM_cons, Sem.run_bind, Sem.run_pure, Result.andThen_ok, h2]⟩
   | cell p t =>
    simp only [rA] at hv
    split at hv
    ·rename_i q hq
     have hr := hf.2.2 p
     rw [hq] at hr
     generalize hcc : a.tmps.getD p undef = cc at hr
     cases hr with
     | ptr hA =>
      obtain ⟨v', q1, q2⟩ := nA E R hA hv
      have hadr : ∀ w, (asAddr (a.tmps.getD p undef)).run P w = .ok _ w := fun w => by rw [hcc]; rfl
      exact ⟨v' :: vs', VRs.cons q2 h1, by simp only [List.mapM_cons, Sem.run_bind, hadr, Sem.run_pure, Result.andThen_ok, q1, h2]⟩
    ·cases hv
  ·cases h
theorem mX [Pins] {φ : List Place} {f : Fr} {H : AH} {a : Act} {w : World} (hf : FRel φ f a) (R : Rel φ H w) {F : Func} {rs : List ResultVar} (hF : F.results.toList = rs) {vs : List Value} (h : cJ E f H rs = some vs) :
 ∃ v', VR φ (dX vs) v' ∧ (results F a.tmps).run P w = .ok v' w := by
 obtain ⟨vs', h1, h2⟩ := aBv E hf R rs vs h
 refine ⟨if h : (⟨vs'⟩ : Array Value).size = 1 then (⟨vs'⟩ : Array Value)[0] else .tuple ⟨vs'⟩, ?_, ?_⟩
 ·cases vs with
  | nil =>
   have : vs' = [] := List.eq_nil_of_length_eq_zero h1.1.symm
   subst this
   exact VR.tuple' (VRs.nil φ)
  | cons v r =>
   cases vs' with
   | nil => have := h1.1; simp at this
   | cons v' r' =>
    cases r with
    | nil =>
     have : r' = [] := List.eq_nil_of_length_eq_zero (by have := h1.1; simpa using this.symm)
     subst this
     simpa [dX] using h1.head
    | cons u s =>
     have hne : ¬ (⟨v' :: r'⟩ : Array Value).size = 1 := by have := h1.1; simp at this ⊢; intro e; rw [e] at this; simp at this
     rw [dif_neg hne]
     exact VR.tuple' h1
 ·unfold results
  rw [Array.mapM_eq_mapM_toList, hF]
  simp only [Sem.run_bind, Sem.run_map]
  erw [h2]
  rfl
theorem ACalls.body {g : FuncId} {x : AFn} (hg : E.fn g = some x) {args : List Value} {H : AH} {Q : Value → AH → Prop}
 (h : ACode P x.body (fun e f H' => (e = .normal ∨ e = .ret) ∧ ∃ vs, cJ E f H' x.results = some vs ∧ Q (dX vs) H') (mB args x.ntmps) H) : ACalls P g args H Q := by
 intro π φ args' w hv hR
 obtain ⟨F, hF, hb, hn, hr, _⟩ := E.fn_ok _ _ hg
 refine calls_of_wp hF hb ?_
 have hf := zF hv x.ntmps
 rw [hn]
 have there : ∀ {φ : List Place} {H : AH} {w : World}, Rel φ H w → @Rel σ ⟨⟨π.pin, []⟩⟩ φ H w := fun R => @Rel.mk σ ⟨⟨π.pin, []⟩⟩ _ _ _ R.below R.len R.obj R.inj R.pin R.lt
 refine wp_mono (h ⟨⟨π.pin, []⟩⟩ φ _ w hf (there hR)) ?_
 rintro e a w' ⟨φ', f, H', h1, h2, h3, h4, h5, vs, h6, h7⟩
 obtain ⟨v', q1, q2⟩ := @mX σ _ E ⟨⟨π.pin, []⟩⟩ _ _ _ _ _ h2 h3 _ _ hr _ h6
 have h3 := @Rel.mk σ π _ _ _ (@Rel.below σ ⟨⟨π.pin, []⟩⟩ _ _ _ h3) (@Rel.len σ ⟨⟨π.pin, []⟩⟩ _ _ _ h3) (@Rel.obj σ ⟨⟨π.pin, []⟩⟩ _ _ _ h3) (@Rel.inj σ ⟨⟨π.pin, []⟩⟩ _ _ _ h3) (@Rel.pin σ ⟨⟨π.pin, []⟩⟩ _ _ _ h3) (@Rel.lt σ ⟨⟨π.pin, []⟩⟩ _ _ _ h3)
 rcases h5 with rfl | rfl
 ·exact ⟨h2.1, v', q2, φ', _, v', H', h1, rfl, q1, h3, h4, h7⟩
 ·exact ⟨h2.1, v', q2, φ', _, v', H', h1, rfl, q1, h3, h4, h7⟩
def qI (body : Fr → AH → Option (Exit × Fr × AH)) : Nat → Fr → AH → Option (Exit × Fr × AH)
 | 0, _, _ => none
 | n + 1, f, H => (match body f H with
  | some (.normal, f', H') => qI body n f' H'
  | r => r)
def kS (call : dM) (fuel : Nat) : Code → Fr → AH → Option (Exit × Fr × AH)
 | .skip, f, H => some (.normal, f, H)
 | .label _, f, H => some (.normal, f, H)
 | .exit i, f, H => some (.exit i, f, H)
 | .ret, f, H => some (.ret, f, H)
 | .seq a b, f, H => (match kS call fuel a f H with
  | some (.normal, f', H') => kS call fuel b f' H'
  | r => r)
 | .cond c x y, f, H => (match bS f c with
  | .bool true => kS call fuel x f H
  | .bool false => kS call fuel y f H
  | _ => none)
 | .block i c, f, H => (match kS call fuel c f H with
  | some (.exit j, f', H') => bif Nat.beq j i then some (.normal, f', H') else some (.exit j, f', H')
  | r => r)
 | .loop c, f, H => qI (kS call fuel c) fuel f H
 | .region _ ops draw, f, H =>
  bif draw then (match nE E call ops f H with
   | some (g, K) => some (.normal, g, K)
   | none => none)
  else (match eI E call ops ops.toList f H with
   | some (g, K) => some (.normal, g, K)
   | none => none)
 | _, _, _ => none
def xX : Nat → dM
 | 0, _, _, _ => none
 | n + 1, g, args, H => (match E.fn g with
  | some x => (match kS E (xX n) n x.body (mB args x.ntmps) H with
   | some (.normal, f, H') => (match cJ E f H' x.results with
    | some vs => some (dX vs, H')
    | none => none)
   | some (.ret, f, H') => (match cJ E f H' x.results with
    | some vs => some (dX vs, H')
    | none => none)
   | _ => none)
  | none => none)
def mI (P : Program) (c : Code) (e : Exit) (g : Fr) (K : AH) (f : Fr) (H : AH) : Prop := K.w0 = H.w0 ∧ ACode P c (fun e' g' K' => e' = e ∧ g' = g ∧ K' = K) f H
theorem pL {call : dM} (hcall : eR P call) {ops : Array Oper} {g : Fr} {K : AH} : ∀ (l : List Oper) (f : Fr) (H : AH), eI E call ops l f H = some (g, K) → K.w0 = H.w0 := by
 intro l
 induction l with
 | nil => intro f H h; simp [eI] at h; rw [h.2]
 | cons o r ih =>
  intro f H h
  simp only [eI] at h
  split at h
  ·rename_i v H' m hs
   split at h
   ·rw [ih _ _ h]
    rcases cU E hs with ⟨_, _, _, rfl⟩ | ⟨_, _, rfl, _⟩ | ⟨_, _, h2⟩ | ⟨_, _, c, args, _, h3⟩
    ·rfl
    ·rfl
    ·exact mR E h2
    ·exact (hcall _ _ _ _ _ h3).1
   ·cases h
  ·cases h
theorem nT {call : dM} (hcall : eR P call) {ops : Array Oper} : ∀ (l : List Oper) (f : Fr) (H : AH) (L : List iM) (g : Fr) (K : AH), fO E call ops l f H = some (L, g, K) → K.w0 = H.w0 := by
 intro l
 induction l with
 | nil => intro f H L g K h; simp [fO] at h; rw [h.2.2]
 | cons o r ih =>
  intro f H L g K h
  simp only [fO] at h
  split at h
  ·rename_i v H' m hs
   split at h
   ·split at h
    ·rename_i L' x hr
     obtain ⟨g', K'⟩ := x
     cases h
     rw [ih _ _ _ _ _ hr]
     rcases cU E hs with ⟨_, _, _, rfl⟩ | ⟨_, _, rfl, _⟩ | ⟨_, _, h2⟩ | ⟨_, _, c, args, _, h3⟩
     ·rfl
     ·rfl
     ·exact mR E h2
     ·exact (hcall _ _ _ _ _ h3).1
    ·cases h
   ·cases h
  ·cases h
theorem aCf {call : dM} (hcall : eR P call) {ops : Array Oper} {f g : Fr} {H K : AH} (h : nE E call ops f H = some (g, K)) : K.w0 = H.w0 := by
 unfold nE at h
 rcases aU h with h | h
 ·split at h
  ·rename_i L g' K' hr
   split at h
   ·cases h; exact nT E hcall _ _ _ _ _ _ hr
   ·rcases aU h with h | h
    ·cases h; exact nT E hcall _ _ _ _ _ _ hr
    ·cases h
  ·cases h
 ·cases h
theorem aBn {c : Code} {body : Fr → AH → Option (Exit × Fr × AH)} (hb : ∀ f H e g K, body f H = some (e, g, K) → mI P c e g K f H) (n : Nat) (f : Fr) (H : AH) (e : Exit) (g : Fr) (K : AH) (h : qI body n f H = some (e, g, K)) : mI P (.loop c) e g K f H := by
 have hw0 : ∀ (n : Nat) (f : Fr) (H : AH), qI body n f H = some (e, g, K) → K.w0 = H.w0 := by
  intro n
  induction n with
  | zero => intro f H h; cases h
  | succ n ih =>
   intro f H h
   simp only [qI] at h
   split at h
   ·rename_i f' H' hbd
    rw [ih f' H' h, (hb _ _ _ _ _ hbd).1]
   ·exact (hb _ _ _ _ _ h).1
 refine ⟨hw0 n f H h, ?_⟩
 intro π
 have key : ∀ (n : Nat) (f : Fr) (H : AH), qI body n f H = some (e, g, K) → ∀ φ a w, FRel φ f a → Rel φ H w → Code.rounds P c (iN φ H.w0 fun e' g' K' => e' = e ∧ g' = g ∧ K' = K) n a w := by
  intro n
  induction n with
  | zero => intro f H h; cases h
  | succ n ih =>
   intro f H h φ a w hf hR
   rw [rounds_succ]
   simp only [qI] at h
   have fin : ∀ {e2 g2 K2}, body f H = some (e2, g2, K2) → (e2 = .normal → qI body n g2 K2 = some (e, g, K)) → (e2 ≠ .normal → e2 = e ∧ g2 = g ∧ K2 = K) →
    c.wp P (Exit.then (Code.rounds P c (iN φ H.w0 fun e' g' K' => e' = e ∧ g' = g ∧ K' = K) n) (iN φ H.w0 fun e' g' K' => e' = e ∧ g' = g ∧ K' = K)) a w := by
    intro e2 g2 K2 hbd h1 h2
    refine wp_mono ((hb _ _ _ _ _ hbd).2 _ φ a w hf hR) ?_
    rintro e3 a3 w3 ⟨φ', f', H', q1, q2, q3, q4, rfl, rfl, rfl⟩
    cases e3 with
    | normal =>
     have := ih _ _ (h1 rfl) φ' a3 w3 q2 q3
     rw [q4] at this
     have mono : ∀ (n : Nat) (a : Act) (w : World), Code.rounds P c (iN φ' H.w0 fun e' g' K' => e' = e ∧ g' = g ∧ K' = K) n a w → Code.rounds P c (iN φ H.w0 fun e' g' K' => e' = e ∧ g' = g ∧ K' = K) n a w := by
      intro n
      induction n with
      | zero => intro a w k; exact k
      | succ n ihn =>
       intro a w k
       rw [rounds_succ] at k ⊢
       refine wp_mono k fun e4 a4 w4 k4 => ?_
       cases e4 with
       | normal => exact ihn _ _ k4
       | _ =>
        simp only [Exit.then] at k4 ⊢
        exact nV q1 k4
     exact mono n a3 w3 this
    | _ => exact ⟨φ', f', H', q1, q2, q3, q4, h2 (by simp)⟩
   cases hbd : body f H with
   | none => rw [hbd] at h; cases h
   | some r =>
    obtain ⟨e2, g2, K2⟩ := r
    rw [hbd] at h
    refine fin hbd (fun he => ?_) (fun he => ?_)
    ·subst he; exact h
    ·cases e2 with
     | normal => exact absurd rfl he
     | _ => simp only [Option.some.injEq, Prod.mk.injEq] at h; exact h
 intro φ a w hf hR
 exact wp_loop_rounds n (key n f H h φ a w hf hR)
theorem aQa {call : dM} (hcall : eR P call) (hm : P.follows .mixedOrders = true) (fuel : Nat) : ∀ (c : Code) (f : Fr) (H : AH) (e : Exit) (g : Fr) (K : AH), kS E call fuel c f H = some (e, g, K) → mI P c e g K f H := by
 intro c
 induction c with
 | skip => intro f H e g K h; simp only [kS] at h; cases h; exact ⟨rfl, ACode.skip ⟨rfl, rfl, rfl⟩⟩
 | label l => intro f H e g K h; simp only [kS] at h; cases h; exact ⟨rfl, ACode.label ⟨rfl, rfl, rfl⟩⟩
 | exit i => intro f H e g K h; simp only [kS] at h; cases h; exact ⟨rfl, ACode.exit ⟨rfl, rfl, rfl⟩⟩
 | ret => intro f H e g K h; simp only [kS] at h; cases h; exact ⟨rfl, ACode.ret ⟨rfl, rfl, rfl⟩⟩
 | seq x y ihx ihy =>
  intro f H e g K h
  simp only [kS] at h
  cases hx : kS E call fuel x f H with
  | none => rw [hx] at h; cases h
  | some r =>
   obtain ⟨e1, f1, H1⟩ := r
   rw [hx] at h
   obtain ⟨w1, c1⟩ := ihx _ _ _ _ _ hx
   by_cases he : e1 = .normal
   ·subst he
    simp only at h
    obtain ⟨w2, c2⟩ := ihy _ _ _ _ _ h
    refine ⟨w2.trans w1, ACode.seq c1 ?_ ?_⟩
    ·rintro f' H' ⟨_, rfl, rfl⟩; exact c2
    ·rintro e' f' H' hne ⟨rfl, _⟩; exact absurd rfl hne
   ·have hh : e1 = e ∧ f1 = g ∧ H1 = K := by
     cases e1 with
     | normal => exact absurd rfl he
     | _ => simp only [Option.some.injEq, Prod.mk.injEq] at h; exact h
    obtain ⟨rfl, rfl, rfl⟩ := hh
    refine ⟨w1, ACode.seq c1 ?_ ?_⟩
    ·rintro f' H' ⟨e0, _⟩; exact absurd e0.symm he
    ·rintro e' f' H' _ k; exact k
 | cond c x y ihx ihy =>
  intro f H e g K h
  simp only [kS] at h
  split at h
  ·rename_i hc
   obtain ⟨w1, c1⟩ := ihx _ _ _ _ _ h
   exact ⟨w1, ACode.cond hc c1⟩
  ·rename_i hc
   obtain ⟨w1, c1⟩ := ihy _ _ _ _ _ h
   exact ⟨w1, ACode.cond hc c1⟩
  ·cases h
 | block i c ih =>
  intro f H e g K h
  simp only [kS] at h
  cases hx : kS E call fuel c f H with
  | none => rw [hx] at h; cases h
  | some r =>
   obtain ⟨e1, f1, H1⟩ := r
   rw [hx] at h
   obtain ⟨w1, c1⟩ := ih _ _ _ _ _ hx
   have fin : H1 = K → f1 = g → (∀ f' H', f' = g → H' = K → (match e1 with | .exit j => if j = i then (Exit.normal = e ∧ f' = g ∧ H' = K) else (Exit.exit j = e ∧ f' = g ∧ H' = K) | e' => (e' = e ∧ f' = g ∧ H' = K))) → mI P (.block i c) e g K f H := by
    rintro rfl rfl k
    refine ⟨w1, ACode.block (c1.mono ?_)⟩
    rintro e' f' H' ⟨rfl, rfl, rfl⟩
    have := k f' H' rfl rfl
    cases e' <;> exact this
   cases e1 with
   | exit j =>
    simp only at h
    cases hj : Nat.beq j i with
    | true =>
     rw [hj, cond_true] at h
     cases h
     have := Nat.eq_of_beq_eq_true hj
     exact fin rfl rfl fun f' H' h1 h2 => by simp only [this, if_true]; exact ⟨trivial, h1, h2⟩
    | false =>
     rw [hj, cond_false] at h
     cases h
     have : ¬ j = i := fun e => by rw [e] at hj; simp at hj
     exact fin rfl rfl fun f' H' h1 h2 => by simp only [this, if_false]; exact ⟨trivial, h1, h2⟩
   | _ =>
    simp only [Option.some.injEq, Prod.mk.injEq] at h
    obtain ⟨rfl, rfl, rfl⟩ := h
    exact fin rfl rfl fun f' H' h1 h2 => ⟨rfl, h1, h2⟩
 | loop c ih =>
  intro f H e g K h
  simp only [kS] at h
  exact aBn ih fuel f H e g K h
 | region i ops draw =>
  intro f H e g K h
  simp only [kS] at h
  cases draw with
  | true =>
   rw [cond_true] at h
   split at h
   ·rename_i g' K' hd
    cases h
    exact ⟨aCf E hcall hd, aAu E hcall hm ⟨rfl, rfl, rfl⟩ hd i⟩
   ·cases h
  | false =>
   rw [cond_false] at h
   split at h
   ·rename_i g' K' hd
    cases h
    refine ⟨pL E hcall _ _ _ hd, ACode.region ?_⟩
    have := pX E hcall (Q := fun e' g'' K'' => e' = Exit.normal ∧ g'' = g ∧ K'' = K) ⟨rfl, rfl, rfl⟩ ops.toList 0 f H (fun j => by simp) hd
    rw [Array.length_toList, ← List.range_eq_range'] at this
    exact this
   ·cases h
 | _ => intro f H e g K h; simp only [kS] at h; cases h
theorem vF (hm : P.follows .mixedOrders = true) : ∀ n, eR P (xX E n) := by
 intro n
 induction n with
 | zero => intro g args H v H' h; cases h
 | succ n ih =>
  intro g args H v H' h
  simp only [xX] at h
  split at h
  ·rename_i x hg
   have fin : ∀ {e f K}, kS E (xX E n) n x.body (mB args x.ntmps) H = some (e, f, K) → (e = .normal ∨ e = .ret) → (match cJ E f K x.results with | some vs => some (dX vs, K) | none => none) = some (v, H') →
    H'.w0 = H.w0 ∧ ACalls P g args H fun u K => u = v ∧ K = H' := by
    intro e f K hr he hv
    split at hv
    ·rename_i vs hvs
     cases hv
     obtain ⟨w1, c1⟩ := aQa E ih hm n _ _ _ _ _ _ hr
     refine ⟨w1, ACalls.body E hg (c1.mono ?_)⟩
     rintro e' f' K' ⟨rfl, rfl, rfl⟩
     exact ⟨he, vs, hvs, rfl, rfl⟩
    ·cases hv
   split at h
   ·rename_i f K hr; exact fin hr (.inl rfl) h
   ·rename_i f K hr; exact fin hr (.inr rfl) h
   ·cases h
  ·cases h
end
end Go.AM
namespace Go.AM
open Go.RowKit
variable [σ : Sg]
def look (k : Nat) : List (Nat × Value) → Option Value
 | [] => none
 | (d, v) :: r => bif Nat.beq d k then some v else look k r
def tv (t : Tr Value) (k : Nat) : Value :=
 match t.get k with
 | some v => v
 | none => undef
def fr (n : Nat) (t : Tr Value) : List (Nat × Value) → Fr
 | [] => ⟨n, t⟩
 | (d, v) :: r => ⟨n, (fr n t r).tr.set d (some v)⟩
theorem aOc (n : Nat) (t : Tr Value) (l : List (Nat × Value)) : (fr n t l).n = n := by cases l <;> rfl
theorem aGo (n : Nat) (t : Tr Value) (k : Nat) : ∀ l : List (Nat × Value), tv (fr n t l).tr k = match look k l with | some v => v | none => tv t k
 | [] => rfl
 | (d, v) :: r => by
  simp only [fr, tv, look, Tr.get_set]
  by_cases e : k = d
  ·subst e
   rw [if_pos rfl, show Nat.beq k k = true by simp]; rfl
  ·rw [if_neg e, show Nat.beq d k = false by (cases h : Nat.beq d k with | false => rfl | true => exact absurd (Nat.eq_of_beq_eq_true h).symm e), cond_false]
   exact aGo n t k r
theorem wY (n : Nat) (t : Tr Value) (l : List (Nat × Value)) (k : Nat) : bS (fr n t l) (.tmp k) = match look k l with | some v => v | none => tv t k := aGo n t k l
theorem qW (n : Nat) (t : Tr Value) (l : List (Nat × Value)) (k : Nat) : dA (fr n t l) k = match look k l with | some v => v | none => tv t k := aGo n t k l
theorem oC (f : Fr) (g : FuncId) : bS f (.func g) = .func (.func g) ⟨[]⟩ ⟨[]⟩ := rfl
theorem vA {n d : Nat} (h : d < n) (t : Tr Value) (l : List (Nat × Value)) (v : Value) : (fr n t l).put (some d) v = some (fr n t ((d, v) :: l)) := by
 simp only [Fr.put, aOc, fr]
 rw [Nat.ble_eq_true_of_le (by omega)]; rfl
theorem ACode.congr {P : Program} {c : Code} {Q : AQ} {f g : Fr} {H : AH} (hn : f.n = g.n) (hs : ∀ k, dA f k = dA g k) (h : ACode P c Q g H) : ACode P c Q f H :=
 fun π φ a w hf hR => h _ φ a w ⟨hf.1, by rw [hf.2.1, hn], fun t => by have := hf.2.2 t; rw [show bS f (.tmp t) = bS g (.tmp t) from hs t] at this; exact this⟩ hR
def WF (H : AH) : Prop := ∀ i o, H.tr.get i = some o → i < H.nx
theorem Rel.wf [Pins] {φ : List Place} {H : AH} {w : World} (R : Rel φ H w) : WF H := fun i o h => by
 obtain ⟨p, hp, _⟩ := R.obj i o h
 rw [← R.len]; exact lt_of_getElem? hp
structure Kept (N : Nat) (H H' : AH) : Prop where
 w0 : H'.w0 = H.w0
 nx : H.nx ≤ H'.nx
 get : ∀ i, i < N → H'.tr.get i = H.tr.get i
theorem Kept.refl (N : Nat) (H : AH) : Kept N H H := ⟨rfl, Nat.le_refl _, fun _ _ => rfl⟩
theorem Kept.trans {N : Nat} {A B C : AH} (h : Kept N A B) (k : Kept N B C) : Kept N A C := ⟨k.w0.trans h.w0, Nat.le_trans h.nx k.nx, fun i hi => (k.get i hi).trans (h.get i hi)⟩
theorem Kept.mono {N N' : Nat} {A B : AH} (h : Kept N A B) (hN : N' ≤ N) : Kept N' A B := ⟨h.w0, h.nx, fun i hi => h.get i (by omega)⟩
theorem Kept.new {N : Nat} (H : AH) (o : AObj) (hN : N ≤ H.nx) : Kept N H (fT H o) := ⟨rfl, Nat.le_succ _, fun i hi => by simp only [fT]; rw [Tr.get_set_ne _ _ (by omega)]⟩
theorem Kept.set {N i : Nat} (H : AH) (o : Option AObj) (hN : N ≤ i) : Kept N H { H with tr := H.tr.set i o } := ⟨rfl, Nat.le_refl _, fun j hj => by simp only; rw [Tr.get_set_ne _ _ (by omega)]⟩
theorem zM (H : AH) (o : AObj) : (fT H o).tr.get H.nx = some o := by simp only [fT]; rw [Tr.get_set_same]
section
variable {H : AH} {N : Nat} {cs : List Value} {sz : Nat} {ex : Bool}
theorem iU (N : Nat) : Nat.beq ((2 * N + 1) % 2) 0 = false := by
 have : (2 * N + 1) % 2 = 1 := by omega
 rw [this]; rfl
theorem cR (N : Nat) : (2 * N + 1) / 2 = N := by omega
theorem aHz (hg : H.tr.get N = some (.cells cs sz ex)) (off : Nat) (s : Option Nat) : aload H ⟨2 * N + 1, off, s⟩ = cs[off]? := by
 unfold aload
 simp only [iU, cond_false, cR, hg]
theorem fC (hg : H.tr.get N = some (.cells cs sz ex)) (off n : Nat) (s : Option Nat) (h : off + n ≤ cs.length) : aloads H ⟨2 * N + 1, off, s⟩ n = some ((cs.drop off).take n) := by
 unfold aloads
 by_cases hn : n = 0
 ·subst hn; simp
 ·rw [show Nat.beq n 0 = false by (cases n with | zero => exact absurd rfl hn | succ n => rfl), cond_false]
  simp only [iU, cond_false, cR, hg]
  rw [Nat.ble_eq_true_of_le h]; rfl
theorem aCi (hg : H.tr.get N = some (.cells cs sz ex)) (off : Nat) (s : Option Nat) {vs : List Value} (h : off + vs.length ≤ cs.length) (h1 : cO vs = true) :
 iG H ⟨2 * N + 1, off, s⟩ vs = some { H with tr := H.tr.set N (some (.cells (cs.take off ++ (vs ++ cs.drop (off + vs.length))) sz ex)) } := by
 unfold iG
 simp only [iU, cond_false, cR, hg]
 rw [Nat.ble_eq_true_of_le h, h1]; rfl
end
def CRead (w : World) (a : Addr) (l : List Value) : Prop := ∀ (i : Nat) v, l[i]? = some v → w.cell? (a.add i) = some v
theorem aOf (a : Addr) (n m : Nat) : (a.add n).add m = a.add (n + m) := by
 unfold Addr.add
 by_cases hn : n = 0
 ·subst hn; simp
 ·by_cases hm : m = 0
  ·subst hm; simp
  ·rw [if_neg hn, if_neg hm, if_neg (by omega)]
   simp only; congr 1; omega
theorem aBa (a : Addr) (n : Nat) : (dC a).add n = dC (a.add n) := by
 unfold Addr.add dC
 split <;> rfl
theorem zX (a : Addr) : Nat.beq ((dC a).block % 2) 0 = true := by
 have : (dC a).block % 2 = 0 := by simp [dC]
 rw [this]; rfl
theorem zS (a : Addr) : (⟨(dC a).block / 2, (dC a).off, (dC a).spot⟩ : Addr) = a := by
 cases a; simp [dC]
theorem xH {w : World} {a : Addr} : ∀ (n i : Nat) (l : List Value), (∀ j v, l[j]? = some v → w.cell? (a.add (i + j)) = some v) → l.length = n → fR w a i n = some (dJ l) := by
 intro n
 induction n with
 | zero =>
  intro i l _ hl
  have : l = [] := List.eq_nil_of_length_eq_zero hl
  subst this; simp [fR, dJ]
 | succ n ih =>
  intro i l h hl
  cases l with
  | nil => simp at hl
  | cons v r =>
   have h0 := h 0 v rfl
   rw [Nat.add_zero] at h0
   have hr := ih (i + 1) r (fun j u hu => by have := h (j + 1) u (by simpa using hu); rwa [show i + (j + 1) = i + 1 + j by omega] at this) (by simpa using hl)
   simp only [fR, h0, hr, dJ]
theorem aCu {H : AH} {a : Addr} {l : List Value} (h : CRead H.w0 a l) : aloads H (dC a) l.length = some (dJ l) := by
 unfold aloads
 by_cases hn : l.length = 0
 ·have : l = [] := List.eq_nil_of_length_eq_zero hn
  subst this; simp [dJ]
 ·rw [show Nat.beq l.length 0 = false by (cases hq : l.length with | zero => exact absurd hq hn | succ m => rfl), cond_false, zX, cond_true, zS]
  exact xH _ 0 l (fun j v hj => by rw [Nat.zero_add]; exact h j v hj) rfl
theorem CRead.drop {w : World} {a : Addr} {l : List Value} (h : CRead w a l) (n : Nat) : CRead w (a.add n) (l.drop n) := fun i v hv => by
 rw [aOf]; exact h (n + i) v (by simpa using hv)
theorem CRead.take {w : World} {a : Addr} {l : List Value} (h : CRead w a l) (n : Nat) : CRead w a (l.take n) := fun i v hv => by
 rw [List.getElem?_take] at hv
 split at hv
 ·exact h i v hv
 ·cases hv
theorem CRead.below {w w' : World} (hb : Below w.heap.size w w') {a : Addr} {l : List Value} (h : CRead w a l) : CRead w' a l := fun i v hv => by
 have := h i v hv
 rw [hb.cell (World.block_lt_of_cell? _ _ this)]; exact this
section
variable {P : Program} {ops : Array Oper} {Q : AQ} {H : AH} {n : Nat} {t : Tr Value} {l : List (Nat × Value)} {rest : List Nat} {i : Nat} {o : Oper}
theorem op1 (E : Env P) (ho : ops[i]? = some o) (hg : o.guard = none) {d : Nat} (hd : o.dst = some d) (hdn : d < n) {v : Value} {H' : AH} (hop : aop E (bS (fr n t l)) o.op H = some (v, H')) (h : AOps P ops rest Q (fr n t ((d, v) :: l)) H') :
 AOps P ops (i :: rest) Q (fr n t l) H := AOps.op E ho (by simp [bZ, hg]) hop (by rw [hd]; exact vA hdn t l v) h
end
section
variable {P : Program} {Q : AQ} {f : Fr} {H : AH}
theorem ACode.wf {c : Code} (h : WF H → ACode P c Q f H) : ACode P c Q f H := fun π φ a w hf hR => h hR.wf _ φ a w hf hR
theorem AOps.wf {ops : Array Oper} {l : List Nat} (h : WF H → AOps P ops l Q f H) : AOps P ops l Q f H := fun π φ a w hf hR => h hR.wf _ φ a w hf hR
theorem ACalls.wf {g : FuncId} {args : List Value} {R : Value → AH → Prop} (h : WF H → ACalls P g args H R) : ACalls P g args H R := fun π φ args' w hv hR => h hR.wf _ φ args' w hv hR
theorem loopn {c : Code} (I : Nat → Fr → AH → Prop) (k : Nat) (h0 : I k f H) (round : ∀ k f H, I k f H → ∀ K : AQ, (∀ k' f' H', k' < k → I k' f' H' → K .normal f' H') → (∀ e f' H', e ≠ .normal → Q e f' H' → K e f' H') → ACode P c K f H) : ACode P (.loop c) Q f H := by
 intro π φ a w hf hR b kk cs
 have key : ∀ n f H φ' a w, I n f H → φ <+: φ' → FRel φ' f a → Rel φ' H w → ∀ w0, H.w0 = w0 →
  ∃ e a' w', iN φ w0 Q e a' w' ∧ Arrives P (lone (b.at a (.code c :: .inLoop c :: kk)) cs w) b kk cs e a' w' := by
  intro n
  induction n using Nat.strongRecOn with
  | _ n ih =>
   intro f H φ' a w hI hφ hf hR w0 hw0
   have hr := round n f H hI (fun e f' H' => (e = .normal → ∃ k' < n, I k' f' H') ∧ (e ≠ .normal → Q e f' H')) (fun k' f' H' hk hI' => ⟨fun _ => ⟨k', hk, hI'⟩, fun hn => absurd rfl hn⟩) (fun e f' H' hn hq => ⟨fun h => absurd h hn, fun _ => hq⟩)
   obtain ⟨e, a₁, w₁, ⟨φ2, f2, H2, q1, q2, q3, q4, q5⟩, harr⟩ := hr _ φ' a w hf hR b (.inLoop c :: kk) cs
   have hw2 : H2.w0 = w0 := q4.trans hw0
   cases e with
   | normal =>
    obtain ⟨k', hlt, hI'⟩ := q5.1 rfl
    obtain ⟨e₂, a₂, w₂, hq₂, harr₂⟩ := ih k' hlt f2 H2 φ2 a₁ w₁ hI' (hφ.trans q1) q2 q3 w0 hw2
    exact ⟨e₂, a₂, w₂, hq₂, .of_steps (Steps.trans harr (.one step_inLoop)) harr₂⟩
   | exit id => exact ⟨_, a₁, w₁, ⟨φ2, f2, H2, hφ.trans q1, q2, q3, hw2, q5.2 (by simp)⟩, .pass (x := .inLoop c) rfl (fun _ _ => .inl (by simp)) harr⟩
   | goto l => exact ⟨_, a₁, w₁, ⟨φ2, f2, H2, hφ.trans q1, q2, q3, hw2, q5.2 (by simp)⟩, .pass (x := .inLoop c) rfl (fun _ _ => .inl (by simp)) harr⟩
   | ret => exact ⟨_, a₁, w₁, ⟨φ2, f2, H2, hφ.trans q1, q2, q3, hw2, q5.2 (by simp)⟩, .pass (x := .inLoop c) rfl (fun _ _ => .inl (by simp)) harr⟩
   | panic ch => exact ⟨_, a₁, w₁, ⟨φ2, f2, H2, hφ.trans q1, q2, q3, hw2, q5.2 (by simp)⟩, .pass (x := .inLoop c) rfl (fun _ _ => .inl (by simp)) harr⟩
   | outgrown => exact ⟨_, a₁, w₁, ⟨φ2, f2, H2, hφ.trans q1, q2, q3, hw2, q5.2 (by simp)⟩, .pass (x := .inLoop c) rfl (fun _ _ => .inl (by simp)) harr⟩
 obtain ⟨e, a', w', hq, harr⟩ := key k f H φ a w h0 (List.prefix_refl _) hf hR H.w0 rfl
 exact ⟨e, a', w', hq, .of_steps (.one step_loop) harr⟩
end
def start (w : World) : AH := ⟨w, 0, .nil⟩
abbrev kQ : Pins := ⟨⟨fun _ => none, []⟩⟩
theorem Rel.start (w : World) : @Rel σ kQ [] (start w) w := @Rel.mk σ kQ _ _ _ (Below.refl _ _) rfl (fun i o h => by simp [AM.start, Tr.get_nil] at h) (fun i j o o' p q h => by simp [AM.start, Tr.get] at h) (fun b x h => by cases h) (fun i p h => by simp at h)
def Flat (P : Program) (g : FuncId) (args : List Value) (w : World) (r : Value) : Prop := ACalls P g (dJ args) (start w) fun v _ => v = r
def yC : Value → Bool
 | .tuple ⟨vs⟩ => vs.all flat
 | v => flat v
theorem aIi {φ ψ : List Place} {v v' : Value} (h : VR φ v v') (hf : yC v = true) : VR ψ v v' := by
 have one : ∀ {u u' : Value}, VR φ u u' → flat u = true → VR ψ u u' := by
  intro u u' hu hfu
  cases hu with
  | agg ha hv =>
   refine .agg ha fun i x x' hx hx' => ?_
   have hx2 := hv i x x' hx hx'
   have hfx : oP x = true := by
    have hall : ∀ (l : List Value), lF l = true → ∀ y ∈ l, oP y = true := by
     intro l
     induction l with
     | nil => intro _ y hy; cases hy
     | cons z l ih =>
      intro hl y hy
      simp only [lF, Bool.and_eq_true] at hl
      rcases List.mem_cons.1 hy with rfl | hy
      ·exact hl.1
      ·exact ih hl.2 y hy
    exact hall _ hfu x (List.mem_of_getElem? hx)
   cases hx2 <;> first | (simp [oP] at hfx; done) | constructor
  | bool b => exact .bool b
  | int k n => exact .int k n
  | string s => exact .string s
  | _ => simp [flat, oP] at hfu
 cases h with
 | tuple ha hv =>
  refine .tuple ha fun i x x' hx hx' => one (hv i x x' hx hx') ?_
  simp only [yC, List.all_eq_true] at hf
  exact hf x (List.mem_of_getElem? hx)
 | _ => exact one (by constructor <;> assumption) hf
theorem Rel.later [Pins] {φ : List Place} {H : AH} {w w' : World} (R : Rel φ H w) (hb : Below w.heap.size w w') : Rel φ H w' := by
 refine ⟨⟨hb.os.trans R.below.os, hb.tape.trans R.below.tape, hb.output.trans R.below.output, Nat.le_trans R.below.size hb.size, fun k hk => ?_⟩, R.len, fun i o hi => ?_, R.inj, fun b x h => ⟨(hb.block b (alt_of_getElem? (R.pin b x h).1)).trans (R.pin b x h).1, (R.pin b x h).2⟩, fun i p h => Nat.lt_of_lt_of_le (R.lt i p h) hb.size⟩
 ·rw [hb.block k (by have := R.below.size; omega), R.below.block k hk]
 ·obtain ⟨p, hp, hN, hO⟩ := R.obj i o hi
  refine ⟨p, hp, hN, ?_⟩
  have hlt : p.blk < w.heap.size := by
   cases o with
   | cells cs s e => obtain ⟨C, e, lo, hi, hx, _⟩ := hO; exact alt_of_getElem? hx
   | map es c => obtain ⟨es', hx, _⟩ := hO; exact alt_of_getElem? hx
   | iter s q => exact alt_of_getElem? hO
  rw [hb.block _ hlt]; exact hO
theorem ACalls.flat {P : Program} {g : FuncId} {args : List Value} {H : AH} {r : Value} (hr : yC r = true) (h : ∀ (π : Pins) φ args' w, VRs φ args args' → Rel φ H w → Flat P g args' w r) : ACalls P g args H fun v H' => v = r ∧ H' = H := by
 intro π φ args' w hv hR
 refine (h _ φ args' w hv hR kQ [] args' w (VRs.ext [] args') (Rel.start w)).mono ?_
 rintro e w' ⟨φ', v, v', H', h1, rfl, h3, h4, h5, rfl⟩
 have hb : Below w.heap.size w w' := by have := @Rel.below σ kQ _ _ _ h4; rw [h5] at this; exact this
 exact ⟨φ, v, v', H, List.prefix_refl _, rfl, aIi h3 hr, hR.later hb, rfl, rfl, rfl⟩
theorem Flat.calls {P : Program} {g : FuncId} {args : List Value} {w : World} {r : Value} (h : Flat P g args w r) (hr : yC r = true) : Calls P g ⟨args⟩ w fun e w' => e = .returned r ∧ Below w.heap.size w w' := by
 refine (h kQ [] args w (VRs.ext [] args) (Rel.start w)).mono ?_
 rintro e w' ⟨φ', v, v', H', h1, rfl, h3, h4, h5, rfl⟩
 have hb : Below w.heap.size w w' := by have := @Rel.below σ kQ _ _ _ h4; rw [h5] at this; exact this
 refine ⟨?_, hb⟩
 congr 1
 have one : ∀ {u u' : Value}, VR φ' u u' → AM.flat u = true → u' = u := fun hu hf => zB hu hf
 cases h3 with
 | tuple ha hv =>
  congr 2
  simp only [yC, List.all_eq_true] at hr
  apply List.ext_getElem?
  intro i
  rename_i a a'
  by_cases hi : i < a.length
  ·have hi' : i < a'.length := ha ▸ hi
   rw [List.getElem?_eq_getElem hi, List.getElem?_eq_getElem hi']
   congr 1
   exact one (hv i _ _ (List.getElem?_eq_getElem hi) (List.getElem?_eq_getElem hi')) (hr _ (List.getElem_mem hi))
  ·rw [List.getElem?_eq_none (by omega), List.getElem?_eq_none (by omega)]
 | _ => exact one (by constructor <;> assumption) hr
theorem Flat.closed {P : Program} (E : Env P) (hm : P.follows .mixedOrders = true) {g : FuncId} {r : Value} (n : Nat) (h : ∀ w : World, ∃ H', xX E n g [] (start w) = some (r, H')) (w : World) : Flat P g [] w r := by
 obtain ⟨H', hH⟩ := h w
 exact (vF E hm n g [] (start w) r H' hH).2.mono fun v K hk => hk.1
end Go.AM
namespace Go.AM
open Go.RowKit
variable [σ : Sg]
section
variable {T : Type} {enc : TypeId × Value → T} {P : Program} {W : World} {t : TypeId} {cs : List Value} {fuel : Nat}
def Reads (enc : TypeId × Value → T) (P : Program) (W : World) (t : TypeId) (cs : List Value) : Prop := ∃ fuel x, DataW.trod enc P W 0 (fun _ => true) true fuel t cs = some x
theorem Reads.int {k : IntKind} (hu : P.underlying t = some (.int k)) (h : Reads enc P W t cs) : ∃ n, cs = [.int k n] ∧ (Lit.int k n).wf = true := by
 obtain ⟨fuel, x, h⟩ := h
 cases fuel with
 | zero => simp [DataW.trod] at h
 | succ fuel =>
  unfold DataW.trod at h
  rw [hu] at h
  split at h <;> (try (rename_i h1 _; cases h1; done)) <;> (try (rename_i h1; cases h1; done))
  ·rename_i k1 k2 n h1
   cases h1
   split at h
   ·rename_i hc; exact ⟨n, by rw [hc.1], hc.2⟩
   ·cases h
  ·cases h
theorem Reads.bool (hu : P.underlying t = some .bool) (h : Reads enc P W t cs) : ∃ b, cs = [.bool b] := by
 obtain ⟨fuel, x, h⟩ := h
 cases fuel with
 | zero => simp [DataW.trod] at h
 | succ fuel =>
  unfold DataW.trod at h
  rw [hu] at h
  split at h <;> (try (rename_i h1 _; cases h1; done)) <;> (try (rename_i h1; cases h1; done))
  ·rename_i b h1; exact ⟨b, rfl⟩
  ·cases h
theorem Reads.string (hu : P.underlying t = some .string) (h : Reads enc P W t cs) : ∃ s, cs = [.string s] ∧ s.size ≤ maxLen := by
 obtain ⟨fuel, x, h⟩ := h
 cases fuel with
 | zero => simp [DataW.trod] at h
 | succ fuel =>
  unfold DataW.trod at h
  rw [hu] at h
  split at h <;> (try (rename_i h1 _; cases h1; done)) <;> (try (rename_i h1; cases h1; done))
  ·rename_i s h1
   split at h
   ·rename_i hc; exact ⟨s, rfl, hc⟩
   ·cases h
  ·cases h
theorem cells?_read {a : Addr} {n : Nat} {l : List Value} (h : W.cells? 0 a n = some l) : l.length = n ∧ CRead W a l := by
 unfold World.cells? at h
 rw [if_pos (Nat.zero_le _)] at h
 have key : ∀ (is : List Nat) (l : List Value), (is.mapM fun i => W.cell? (a.add i)) = some l → l.length = is.length ∧ ∀ (j : Nat) i v, is[j]? = some i → l[j]? = some v → W.cell? (a.add i) = some v := by
  intro is
  induction is with
  | nil => intro l h; simp at h; subst h; exact ⟨rfl, fun j i v h => by simp at h⟩
  | cons i is ih =>
   intro l h
   simp only [List.mapM_cons, Option.bind_eq_bind, Option.pure_def] at h
   cases hc : W.cell? (a.add i) with
   | none => rw [hc] at h; simp at h
   | some v =>
    cases hr : (is.mapM fun i => W.cell? (a.add i)) with
    | none => rw [hc, hr] at h; simp at h
    | some r =>
     rw [hc, hr] at h
     simp at h
     subst h
     obtain ⟨h1, h2⟩ := ih r hr
     refine ⟨by simp [h1], fun j i' v' hj hv => ?_⟩
     cases j with
     | zero => simp at hj hv; subst hj; subst hv; exact hc
     | succ j => simp at hj hv; exact h2 j i' v' hj hv
 obtain ⟨h1, h2⟩ := key _ _ h
 refine ⟨by simpa using h1, fun i v hv => h2 i i v ?_ hv⟩
 have hi := lt_of_getElem? hv
 rw [List.length_range] at h1
 rw [List.getElem?_range (by omega)]
theorem aCg {α β : Type} {f : α → Option β} : ∀ {l : List α} {r : List β}, l.mapM f = some r → ∀ x ∈ l, ∃ y, f x = some y := by
 intro l
 induction l with
 | nil => intro r _ x hx; cases hx
 | cons a l ih =>
  intro r h x hx
  simp only [List.mapM_cons, Option.bind_eq_bind, Option.pure_def] at h
  cases ha : f a with
  | none => rw [ha] at h; simp at h
  | some y =>
   cases hl : l.mapM f with
   | none => rw [ha, hl] at h; simp at h
   | some r' =>
    rcases List.mem_cons.1 hx with rfl | hx
    ·exact ⟨y, ha⟩
    ·exact ih hl x hx
theorem Reads.slice {e : TypeId} (hu : P.underlying t = some (.slice e)) (h : Reads enc P W t cs) :
 cs = [.slice none 0 0] ∨ ∃ a len cap, cs = [.slice (some a) len cap] ∧ len ≤ cap ∧ cap ≤ maxLen ∧ ∀ i, i < len → ∃ l, l.length = P.cellsOf e ∧ CRead W (a.add (i * P.cellsOf e)) l ∧ Reads enc P W e l := by
 obtain ⟨fuel, x, h⟩ := h
 cases fuel with
 | zero => simp [DataW.trod] at h
 | succ fuel =>
  unfold DataW.trod at h
  rw [hu] at h
  split at h <;> (try (rename_i h1 _; cases h1; done)) <;> (try (rename_i h1; cases h1; done))
  ·exact .inl rfl
  ·rename_i e' a len cap h1
   cases h1
   split at h
   ·rename_i hc
    right
    refine ⟨a, len, cap, rfl, hc.2.1, hc.2.2, fun i hi => ?_⟩
    cases hm : (List.range len).mapM (fun i => (W.cells? 0 (a.add (i * P.cellsOf e)) (P.cellsOf e)).bind (DataW.trod enc P W 0 (fun _ => true) true fuel e)) with
    | none => simp only at h; rw [hm] at h; cases h
    | some r =>
     obtain ⟨y, hy⟩ := aCg hm i (List.mem_range.2 hi)
     cases hcl : W.cells? 0 (a.add (i * P.cellsOf e)) (P.cellsOf e) with
     | none => rw [hcl] at hy; cases hy
     | some l =>
      rw [hcl, Option.bind_some] at hy
      obtain ⟨q1, q2⟩ := cells?_read hcl
      exact ⟨l, q1, q2, fuel, y, hy⟩
   ·cases h
  ·cases h
theorem Reads.struct {fs : Array Field} (hu : P.underlying t = some (.struct fs)) (h : Reads enc P W t cs) : cs.length = P.cellsOf t ∧ ∀ f ∈ fs.toList, Reads enc P W f.type ((cs.drop f.offset).take (P.cellsOf f.type)) := by
 obtain ⟨fuel, x, h⟩ := h
 cases fuel with
 | zero => simp [DataW.trod] at h
 | succ fuel =>
  simp only [DataW.trod, hu] at h
  split at h
  ·rename_i hc
   refine ⟨hc, fun f hf => ?_⟩
   cases hm : fs.toList.mapM (fun f => DataW.trod enc P W 0 (fun _ => true) true fuel f.type ((cs.drop f.offset).take (P.cellsOf f.type))) with
   | none => rw [hm] at h; cases h
   | some r =>
    obtain ⟨y, hy⟩ := aCg hm f hf
    exact ⟨fuel, y, hy⟩
  ·cases h
end
theorem aKv {T : Type} {enc : TypeId × Value → T} {P : Program} {f : Func} {s : ChangeSpec} {tb : TypeId} (uH : laidOutB P = true) (hres : f.resultTypes = #[tb]) (hb : P.underlying tb = some .bool) (hvars : s.vars = [])
 (hread : ∀ t ∈ f.params.toList, P.readableRec t = true ∧ t < P.types.size) (hs : ∀ (ds : List (DataW T)), ds.length = f.params.size → (s.fn T (ds ++ [])).results = [.lit (.bool true)] ∧ (s.fn T (ds ++ [])).args = ds ∧ (s.fn T (ds ++ [])).vars = [])
 {W W' : World} {args : Array Value} {ds gs : List (DataW T)} {before : List MemPlace} (hW : DataW.Whole enc P f.params.toList s.vars false W args.toList ds gs before) (bel : Below W.heap.size W W') :
 s.post enc P f false true false false W args (.bool true) W' := by
 have hW' := hW
 obtain ⟨p, q, hA, hV, rfl, hfz, hnd⟩ := hW
 have hlt : ∀ x ∈ p ++ q, x.block < W.heap.size := fun x hx => hW'.lt x hx
 rw [hvars] at hV
 have hgs : gs = [] ∧ q = [] := by
  cases gs with
  | nil => exact ⟨rfl, hV⟩
  | cons g gs => exact hV.elim
 obtain ⟨rfl, rfl⟩ := hgs
 have hlen : ds.length = f.params.size := by
  have key : ∀ (ts : List TypeId) (vs : List Value) (ds : List (DataW T)) (ps : List MemPlace), DataW.TrodAll enc P W 0 (fun _ => true) true ts vs ds ps → ds.length = ts.length := by
   intro ts
   induction ts with
   | nil =>
    intro vs ds ps h
    cases vs with
    | nil => cases ds with
     | nil => rfl
     | cons _ _ => exact h.elim
    | cons _ _ => cases ds <;> exact h.elim
   | cons t ts ih =>
    intro vs ds ps h
    cases vs with
    | nil => cases ds <;> exact h.elim
    | cons v vs =>
     cases ds with
     | nil => exact h.elim
     | cons d ds =>
      obtain ⟨p1, q1, _, h2, _⟩ := h
      simp [ih vs ds q1 h2]
  rw [key _ _ _ _ hA, Array.length_toList]
 obtain ⟨r1, r2, r3⟩ := hs ds hlen
 have hargs : DataW.TrodAll enc P W' 0 (fun b => decide (b < W.heap.size)) true f.params.toList args.toList ds p := by
  have key : ∀ (ts : List TypeId) (vs : List Value) (ds : List (DataW T)) (ps : List MemPlace), (∀ t ∈ ts, P.readableRec t = true ∧ t < P.types.size) → (∀ x ∈ ps, x.block < W.heap.size) → DataW.TrodAll enc P W 0 (fun _ => true) true ts vs ds ps →
   DataW.TrodAll enc P W' 0 (fun b => decide (b < W.heap.size)) true ts vs ds ps := by
   intro ts
   induction ts with
   | nil =>
    intro vs ds ps _ _ h
    cases vs with
    | nil => cases ds with
     | nil => exact h
     | cons _ _ => exact h.elim
    | cons _ _ => cases ds <;> exact h.elim
   | cons t ts ih =>
    intro vs ds ps hr hl h
    cases vs with
    | nil => cases ds <;> exact h.elim
    | cons v vs =>
     cases ds with
     | nil => exact h.elim
     | cons d ds =>
      obtain ⟨p1, q1, h1, h2, rfl⟩ := h
      exact ⟨p1, q1, Below.trod uH (hr t (List.mem_cons_self ..)).1 (hr t (List.mem_cons_self ..)).2 h1 bel (fun x hx => hl x (List.mem_append_left _ hx)), ih vs ds q1 (fun t ht => hr t (List.mem_cons_of_mem _ ht)) (fun x hx => hl x (List.mem_append_right _ hx)) h2, rfl⟩
  exact key _ _ _ _ hread (fun x hx => hlt x (by simpa using hx)) hA
 refine ⟨ds, [], p ++ [], [], p, [], hW', ?_, ?_, ?_, bel.frame _, fun h => by cases h⟩
 ·rw [r1, hres]
  refine ⟨[], [], ⟨1, ?_⟩, rfl, rfl⟩
  simp [DataW.trod, hb, Value.resultList, Value.cells]
 ·rw [r2]; exact hargs
 ·rw [hvars, r3]; rfl
end Go.AM
namespace Go.AM
open Go.RowKit
variable [σ : Sg]
section
variable {P : Program} {Q : AQ} {f : Fr} {H : AH}
def XC (P : Program) (c : Code) (Q : AQ) (f : Fr) (H : AH) : Prop := ∃ e g K, Q e g K ∧ mI P c e g K f H
def vH (P : Program) (y : Code) (Q : AQ) : AQ := fun e f H => (e = .normal ∧ XC P y Q f H) ∨ (e ≠ .normal ∧ Q e f H)
def oZ (i : Nat) (Q : AQ) : AQ := fun e f H => match e with
 | .exit j => if j = i then Q .normal f H else Q (.exit j) f H
 | e => Q e f H
theorem XC.mono {c : Code} {Q' : AQ} (h : XC P c Q f H) (hq : ∀ e f H, Q e f H → Q' e f H) : XC P c Q' f H := by
 obtain ⟨e, g, K, h1, h2⟩ := h
 exact ⟨e, g, K, hq _ _ _ h1, h2⟩
theorem XC.skip (h : Q .normal f H) : XC P .skip Q f H := ⟨_, _, _, h, rfl, ACode.skip ⟨rfl, rfl, rfl⟩⟩
theorem XC.label {l : Nat} (h : Q .normal f H) : XC P (.label l) Q f H := ⟨_, _, _, h, rfl, ACode.label ⟨rfl, rfl, rfl⟩⟩
theorem XC.exit {i : Nat} (h : Q (.exit i) f H) : XC P (.exit i) Q f H := ⟨_, _, _, h, rfl, ACode.exit ⟨rfl, rfl, rfl⟩⟩
theorem XC.ret (h : Q .ret f H) : XC P .ret Q f H := ⟨_, _, _, h, rfl, ACode.ret ⟨rfl, rfl, rfl⟩⟩
theorem XC.seq {x y : Code} (h : XC P x (vH P y Q) f H) : XC P (.seq x y) Q f H := by
 obtain ⟨e, g, K, hk, w1, c1⟩ := h
 rcases hk with ⟨rfl, e2, g2, K2, q2, w2, c2⟩ | ⟨hne, hq⟩
 ·refine ⟨e2, g2, K2, q2, w2.trans w1, ACode.seq c1 ?_ ?_⟩
  ·rintro f' H' ⟨_, rfl, rfl⟩; exact c2
  ·rintro e' f' H' hne ⟨rfl, _⟩; exact absurd rfl hne
 ·refine ⟨e, g, K, hq, w1, ACode.seq c1 ?_ ?_⟩
  ·rintro f' H' ⟨e0, _⟩; exact absurd e0.symm hne
  ·rintro e' f' H' _ k; exact k
theorem XC.cond {c : Operand} {x y : Code} {b : Bool} (hc : bS f c = .bool b) (h : XC P (if b then x else y) Q f H) : XC P (.cond c x y) Q f H := by
 obtain ⟨e, g, K, hk, w1, c1⟩ := h
 exact ⟨e, g, K, hk, w1, ACode.cond hc c1⟩
theorem XC.block {i : Nat} {c : Code} (h : XC P c (oZ i Q) f H) : XC P (.block i c) Q f H := by
 obtain ⟨e, g, K, hk, w1, c1⟩ := h
 cases e with
 | exit j =>
  simp only [oZ] at hk
  by_cases hj : j = i
  ·rw [if_pos hj] at hk
   refine ⟨.normal, g, K, hk, w1, ACode.block (c1.mono ?_)⟩
   rintro e' f' H' ⟨rfl, rfl, rfl⟩
   simp only [hj, if_true]
   exact ⟨trivial, trivial, trivial⟩
  ·rw [if_neg hj] at hk
   refine ⟨.exit j, g, K, hk, w1, ACode.block (c1.mono ?_)⟩
   rintro e' f' H' ⟨rfl, rfl, rfl⟩
   simp only [hj, if_false]
   exact ⟨trivial, trivial, trivial⟩
 | _ =>
  refine ⟨_, g, K, hk, w1, ACode.block (c1.mono ?_)⟩
  rintro e' f' H' ⟨rfl, rfl, rfl⟩
  exact ⟨rfl, rfl, rfl⟩
inductive Chain (P : Program) (c : Code) (e : Exit) (g : Fr) (K : AH) : Nat → Fr → AH → Prop
 | last {f : Fr} {H : AH} (hn : e ≠ .normal) (h : mI P c e g K f H) : Chain P c e g K 0 f H
 | next {f f1 : Fr} {H H1 : AH} {n : Nat} (h : mI P c .normal f1 H1 f H) (r : Chain P c e g K n f1 H1) : Chain P c e g K (n + 1) f H
theorem Chain.says {c : Code} {e : Exit} {g : Fr} {K : AH} {n : Nat} (h : Chain P c e g K n f H) : mI P (.loop c) e g K f H := by
 have hw : K.w0 = H.w0 := by
  induction h with
  | last hn h => exact h.1
  | next h r ih => exact ih.trans h.1
 refine ⟨hw, loopn (Chain P c e g K) n h ?_⟩
 intro k f H hI K' hn ho
 cases hI with
 | last hne h =>
  refine h.2.mono ?_
  rintro e' g' H' ⟨rfl, rfl, rfl⟩
  exact ho _ _ _ hne ⟨rfl, rfl, rfl⟩
 | next h r =>
  refine h.2.mono ?_
  rintro e' g' H' ⟨rfl, rfl, rfl⟩
  exact hn _ _ _ (Nat.lt_succ_self _) r
theorem XC.loop {c : Code} {σ : Type} (μ : σ → Nat) (I : σ → Fr → AH → Prop)
 (round : ∀ s f H, I s f H → XC P c (fun e f' H' => (e = .normal ∧ ∃ s', μ s' < μ s ∧ I s' f' H') ∨ (e ≠ .normal ∧ Q e f' H')) f H) (s : σ) (h0 : I s f H) : XC P (.loop c) Q f H := by
 have key : ∀ m s f H, μ s = m → I s f H → ∃ e g K n, Q e g K ∧ Chain P c e g K n f H := by
  intro m
  induction m using Nat.strongRecOn with
  | _ m ih =>
   intro s f H hm hI
   obtain ⟨e, g, K, hk, hs⟩ := round s f H hI
   rcases hk with ⟨rfl, s', hlt, hI'⟩ | ⟨hne, hq⟩
   ·obtain ⟨e2, g2, K2, n, q, ch⟩ := ih _ (hm ▸ hlt) s' g K rfl hI'
    exact ⟨e2, g2, K2, n + 1, q, .next hs ch⟩
   ·exact ⟨e, g, K, 0, hq, .last hne hs⟩
 obtain ⟨e, g, K, n, hq, ch⟩ := key _ s f H rfl h0
 exact ⟨e, g, K, hq, ch.says⟩
end
def aJr (bs ms : List Nat) (i : Nat) : Bool := ms.all fun j => (Nat.blt j i && (bs.getD i 0).testBit j) || (Nat.blt i j && (bs.getD j 0).testBit i)
section
variable {P : Program} (E : Env P) (D : Bool) (ops : Array Oper) (ms : List Nat) (W : AH → Prop)
def SD (i : Nat) (o : Oper) (f : Fr) (H : AH) (v : Value) (H' : AH) (m : Bool) : Prop :=
 (bZ ops (dA f) o = false ∧ v = undef ∧ m = false ∧ H' = H) ∨
 (bZ ops (dA f) o = true ∧ m = false ∧ H' = H ∧ (dI E o.op = true ∧ aop E (bS f) o.op H = some (v, H)) ∧ (D = true → (hP E o.op = true ∨ aJr (bef ops) ms i = true ∨ ∀ H', W H' → aop E (bS f) o.op H' = some (v, H')))) ∨
 (bZ ops (dA f) o = true ∧ m = true ∧ (D = true → i ∈ ms ∧ W H') ∧ aop E (bS f) o.op H = some (v, H')) ∨
 (bZ ops (dA f) o = true ∧ m = true ∧ (D = true → i ∈ ms ∧ W H') ∧ H'.w0 = H.w0 ∧ ∃ g args, dE E (bS f) o.op = some (g, args) ∧ ACalls P g args H fun u K => u = v ∧ K = H')
inductive RunD : Nat → List Oper → Fr → AH → List iM → Fr → AH → Prop
 | nil {i : Nat} {f : Fr} {H : AH} : RunD i [] f H [] f H
 | cons {i : Nat} {o : Oper} {l : List Oper} {f f' g : Fr} {H H' K : AH} {v : Value} {m : Bool} {L : List iM} (hs : SD E D ops ms W i o f H v H' m) (hp : f.put o.dst v = some f') (r : RunD (i + 1) l f' H' L g K) : RunD i (o :: l) f H ((f, H, v, m) :: L) g K
variable {E D ops ms W}
theorem RunD.w0 {i : Nat} {l : List Oper} {f g : Fr} {H K : AH} {L : List iM} (h : RunD E D ops ms W i l f H L g K) : K.w0 = H.w0 := by
 induction h with
 | nil => rfl
 | cons hs hp r ih =>
  rw [ih]
  rcases hs with ⟨_, _, _, rfl⟩ | ⟨_, _, rfl, _⟩ | ⟨_, _, _, h⟩ | ⟨_, _, _, h, _⟩
  ·rfl
  ·rfl
  ·exact mR E h
  ·exact h
theorem RunD.opsOk {i : Nat} {l : List Oper} {f g : Fr} {H K : AH} {L : List iM} (h : RunD E D ops ms W i l f H L g K) (hl : ∀ j, l[j]? = ops[i + j]?) {Q : AQ} (hQ : Q .normal g K) : AOps P ops (List.range' i l.length) Q f H := by
 induction h with
 | nil => exact AOps.nil hQ
 | @cons i o l f f' g H H' K v m L hs hp r ih =>
  have ho : ops[i]? = some o := by have := hl 0; simpa using this.symm
  have hr := ih (fun j => by have := hl (j + 1); simp only [List.getElem?_cons_succ] at this; rw [this]; congr 1; omega) hQ
  rw [List.length_cons, List.range'_succ]
  rcases hs with ⟨h1, rfl, _, rfl⟩ | ⟨h1, _, rfl, ⟨_, h2⟩, _⟩ | ⟨h1, _, _, h2⟩ | ⟨h1, _, _, _, c, args, h2, h3⟩
  ·exact AOps.skip ho h1 hp hr
  ·exact AOps.op E ho h1 h2 hp hr
  ·exact AOps.op E ho h1 h2 hp hr
  ·refine AOps.call E ho h1 h2 (h3.mono ?_)
   rintro u K' ⟨rfl, rfl⟩
   exact ⟨f', hp, hr⟩
theorem RunD.region {f g : Fr} {H K : AH} {L : List iM} (h : RunD E D ops ms W 0 ops.toList f H L g K) (id : Nat) : mI P (.region id ops false) .normal g K f H := by
 refine ⟨h.w0, ACode.region ?_⟩
 have := h.opsOk (fun j => by simp) (Q := fun e' g' K' => e' = .normal ∧ g' = g ∧ K' = K) ⟨rfl, rfl, rfl⟩
 rw [Array.length_toList, ← List.range_eq_range'] at this
 exact this
theorem RunD.at {i : Nat} {l : List Oper} {f g : Fr} {H K : AH} {L : List iM} (h : RunD E D ops ms W i l f H L g K) :
 L.length = l.length ∧ (∃ s, (L ++ [(g, K, undef, false)])[0]? = some s ∧ s.1 = f ∧ s.2.1 = H) ∧
 ∀ (j : Nat) (o : Oper) (s : iM), l[j]? = some o → L[j]? = some s → ∃ s', (L ++ [(g, K, undef, false)])[j + 1]? = some s' ∧ SD E D ops ms W (i + j) o s.1 s.2.1 s.2.2.1 s'.2.1 s.2.2.2 ∧ s.1.put o.dst s.2.2.1 = some s'.1 := by
 induction h with
 | nil => exact ⟨rfl, ⟨_, rfl, rfl, rfl⟩, fun j o s h => by simp at h⟩
 | @cons i o l f f' g H H' K v m L hs hp r ih =>
  obtain ⟨h1, ⟨s1, hh1, hh2, hh3⟩, h2⟩ := ih
  refine ⟨by simp [h1], ⟨_, rfl, rfl, rfl⟩, fun j o' s hj hs' => ?_⟩
  cases j with
  | zero =>
   simp at hj hs'
   subst hj; subst hs'
   refine ⟨s1, by simpa using hh1, ?_, by rw [hh2]; exact hp⟩
   rw [hh3, Nat.add_zero]; exact hs
  | succ j =>
   simp at hj hs'
   obtain ⟨s2, q1, q2, q3⟩ := h2 j o' s hj hs'
   exact ⟨s2, by simpa using q1, by rw [show i + (j + 1) = i + 1 + j by omega]; exact q2, q3⟩
theorem RunD.draw {f g : Fr} {H K : AH} {L : List iM} (h : RunD E true ops ms W 0 ops.toList f H L g K) (hm : P.follows .mixedOrders = true) (hord : dH ops (bef ops) = true) (hpairs : eO (bef ops) ms = true) (hsorted : ms.Pairwise (· < ·)) (hW : W H) (id : Nat) :
 mI P (.region id ops true) .normal g K f H := by
 refine ⟨h.w0, ?_⟩
 obtain ⟨hlen, ⟨s0, hs0, hs0f, hs0H⟩, hst⟩ := h.at
 have hlen' : L.length = ops.size := by rw [hlen, Array.length_toList]
 let A := L ++ [(g, K, undef, false)]
 let d : iM := (g, K, undef, false)
 let F := fun i => (A.getD i d).1
 let HH := fun i => (A.getD i d).2.1
 let V := fun i => (A.getD i d).2.2.1
 let M := fun i => (A.getD i d).2.2.2
 have hA : ∀ i, i < ops.size → ∃ s, L[i]? = some s ∧ A.getD i d = s := by
  intro i hi
  refine ⟨L[i]'(by omega), by simp [hlen', hi], ?_⟩
  simp only [A, List.getD_eq_getElem?_getD]
  rw [List.getElem?_append_left (by omega)]
  simp [hlen', hi]
 have hAn : A.getD ops.size d = d := by
  simp only [A, List.getD_eq_getElem?_getD]
  rw [List.getElem?_append_right (by omega)]
  simp [hlen', d]
 have hstep : ∀ i o, ops[i]? = some o → SD E true ops ms W i o (F i) (HH i) (V i) (HH (i + 1)) (M i) ∧ (F i).put o.dst (V i) = some (F (i + 1)) := by
  intro i o ho
  obtain ⟨s, h1, h2⟩ := hA i (alt_of_getElem? ho)
  obtain ⟨s', q1, q2, q3⟩ := hst i o s (by simpa using ho) h1
  have e : A.getD (i + 1) d = s' := by simp only [A, List.getD_eq_getElem?_getD, q1, Option.getD_some]
  simp only [F, HH, V, M, h2, e]
  rw [Nat.zero_add] at q2
  exact ⟨q2, q3⟩
 have hF0 : F 0 = f ∧ HH 0 = H := by
  have e : A.getD 0 d = s0 := by simp only [A, List.getD_eq_getElem?_getD, hs0, Option.getD_some]
  simp only [F, HH, e]
  exact ⟨hs0f, hs0H⟩
 have still : ∀ i, i < ops.size → M i = false → HH (i + 1) = HH i := by
  intro i hi hM
  have ho : ops[i]? = some ops[i] := Array.getElem?_eq_getElem hi
  rcases (hstep i _ ho).1 with ⟨_, _, _, h4⟩ | ⟨_, _, h4, _⟩ | ⟨_, h4, _⟩ | ⟨_, h4, _⟩
  ·exact h4
  ·exact h4
  ·rw [hM] at h4; cases h4
  ·rw [hM] at h4; cases h4
 have w0s : ∀ i, i < ops.size → (HH (i + 1)).w0 = (HH i).w0 := by
  intro i hi
  have ho : ops[i]? = some ops[i] := Array.getElem?_eq_getElem hi
  rcases (hstep i _ ho).1 with ⟨_, _, _, h4⟩ | ⟨_, _, h4, _⟩ | ⟨_, _, _, h4⟩ | ⟨_, _, _, h4, _⟩
  ·rw [h4]
  ·rw [h4]
  ·exact mR E h4
  ·exact h4
 have mainW : ∀ i, i < ops.size → M i = true → i ∈ ms ∧ W (HH (i + 1)) := by
  intro i hi hM
  have ho : ops[i]? = some ops[i] := Array.getElem?_eq_getElem hi
  rcases (hstep i _ ho).1 with ⟨_, _, h4, _⟩ | ⟨_, h4, _⟩ | ⟨_, _, h4, _⟩ | ⟨_, _, h4, _⟩
  ·rw [hM] at h4; cases h4
  ·rw [hM] at h4; cases h4
  ·exact h4 rfl
  ·exact h4 rfl
 have allW : ∀ t, t ≤ ops.size → W (HH t) := by
  intro t
  induction t with
  | zero => intro _; rw [hF0.2]; exact hW
  | succ t ih =>
   intro ht
   cases hMt : M t with
   | true => exact (mainW t (by omega) hMt).2
   | false => rw [still t (by omega) hMt]; exact ih (by omega)
 have between : ∀ n a, a + n ≤ ops.size → (∀ j, a ≤ j → j < a + n → M j = false) → HH (a + n) = HH a := by
  intro n
  induction n with
  | zero => intro a _ _; rfl
  | succ n ih =>
   intro a ha hno
   rw [show a + (n + 1) = a + n + 1 by omega, still (a + n) (by omega) (hno _ (by omega) (by omega))]
   exact ih a (by omega) (fun j h1 h2 => hno j h1 (by omega))
 have T : Trace E ops F HH V M := by
  refine ⟨⟨hord, fun i o ho => (hstep i o ho).2⟩, fun i o ho => ?_, still, fun i j hij hj hMi hMj => ?_⟩
  ·have hi := alt_of_getElem? ho
   rcases (hstep i o ho).1 with ⟨h1, h2, h3, h4⟩ | ⟨h1, h2, h3, ⟨_, h4⟩, h5⟩ | ⟨h1, h2, h3, h4⟩ | ⟨h1, h2, _, _, c, args, h3, h4⟩
   ·exact .inl ⟨h1, h2, h3⟩
   ·refine .inr (.inl ⟨h1, h2, fun t ht hb ha => ?_⟩)
    rcases h5 rfl with hp | hp | hp
    ·exact xD E hp h4 (HH t)
    ·have hcmp : ∀ j, j < ops.size → M j = true → (j < t ↔ j < i) := by
      intro j hj hMj
      have hjm := (mainW j hj hMj).1
      simp only [aJr, List.all_eq_true] at hp
      have := hp j hjm
      simp only [Bool.or_eq_true, Bool.and_eq_true, Nat.blt, Nat.ble_eq] at this
      rcases this with ⟨q1, q2⟩ | ⟨q1, q2⟩
      ·exact ⟨fun _ => q1, fun _ => hb j hj hMj q2⟩
      ·have := ha j hj hMj q2
       constructor <;> intro <;> omega
     have : HH t = HH i := by
      rcases Nat.le_total t i with hle | hle
      ·have e := between (i - t) t (by omega) (fun j h1 h2 => by
        cases hMj : M j with
        | false => rfl
        | true => have := (hcmp j (by omega) hMj).2 (by omega); omega)
       rw [show t + (i - t) = i by omega] at e; exact e.symm
      ·have e := between (t - i) i (by omega) (fun j h1 h2 => by
        cases hMj : M j with
        | false => rfl
        | true => have := (hcmp j (by omega) hMj).1 (by omega); omega)
       rw [show i + (t - i) = t by omega] at e; exact e
     rw [this]; exact h4
    ·exact hp _ (allW t ht)
   ·exact .inr (.inr (.inl ⟨h1, h2, h4⟩))
   ·exact .inr (.inr (.inr ⟨h1, h2, c, args, h3, h4⟩))
  ·exact tK hpairs hsorted i j (mainW i (by omega) hMi).1 (mainW j hj hMj).1 hij
 have := T.region hm w0s (Q := fun e' g' K' => e' = .normal ∧ g' = g ∧ K' = K) (by simp only [F, HH, hAn]; exact ⟨trivial, rfl, rfl⟩) id
 rw [hF0.1, hF0.2] at this
 exact this
end
def XCall (P : Program) (g : FuncId) (args : List Value) (H : AH) (R : Value → AH → Prop) : Prop := ∃ v H', R v H' ∧ H'.w0 = H.w0 ∧ ACalls P g args H fun u K => u = v ∧ K = H'
theorem XCall.mono {P : Program} {g : FuncId} {args : List Value} {H : AH} {R R' : Value → AH → Prop} (h : XCall P g args H R) (hr : ∀ v H', H'.w0 = H.w0 → R v H' → R' v H') : XCall P g args H R' := by
 obtain ⟨v, H', h1, h2, h3⟩ := h
 exact ⟨v, H', hr _ _ h2 h1, h2, h3⟩
theorem XCall.calls {P : Program} {g : FuncId} {args : List Value} {H : AH} {R : Value → AH → Prop} (h : XCall P g args H R) : ACalls P g args H R := by
 obtain ⟨v, H', h1, h2, h3⟩ := h
 refine h3.mono ?_
 rintro u K ⟨rfl, rfl⟩
 exact h1
def aLo {P : Program} (E : Env P) (rs : List ResultVar) (R : Value → AH → Prop) : AQ := fun e f H => (e = .normal ∨ e = .ret) ∧ ∃ vs, cJ E f H rs = some vs ∧ R (dX vs) H
theorem XCall.body {P : Program} (E : Env P) {g : FuncId} {x : AFn} (hg : E.fn g = some x) {args : List Value} {H : AH} {R : Value → AH → Prop} (h : XC P x.body (aLo E x.results R) (mB args x.ntmps) H) : XCall P g args H R := by
 obtain ⟨e, f, K, ⟨h1, vs, h2, h3⟩, h4, h5⟩ := h
 refine ⟨dX vs, K, h3, h4, ACalls.body E hg (h5.mono ?_)⟩
 rintro e' f' K' ⟨rfl, rfl, rfl⟩
 exact ⟨h1, vs, h2, rfl, rfl⟩
theorem XCall.run {P : Program} (E : Env P) (hm : P.follows .mixedOrders = true) {g : FuncId} {args : List Value} {H H' : AH} {v : Value} (n : Nat) (h : xX E n g args H = some (v, H')) {R : Value → AH → Prop} (hR : R v H') : XCall P g args H R :=
 ⟨v, H', hR, (vF E hm n _ _ _ _ _ h).1, (vF E hm n _ _ _ _ _ h).2⟩
end Go.AM
