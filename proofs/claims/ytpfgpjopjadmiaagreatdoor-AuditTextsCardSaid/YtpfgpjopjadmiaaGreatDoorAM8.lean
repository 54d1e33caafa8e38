/-
  The abstract machine, part 8: conversions, small operations; one operation.
-/
import Derived.Laws.Externs
import Derived.Test.YtpfgpjopjadmiaaGreatDoorAM7
import Derived.Laws.BytesString
import Derived.Lib.UnsafeStr
set_option linter.unusedVariables false
set_option linter.unusedSimpArgs false
noncomputable section
namespace Go.AM
open Go.RowKit

section
variable {P : Program} (E : Env P)

def aun (op : UnOp) (x : Value) : Option Value :=
  match op, x with
  | .neg, .int k n => some (.int k (k.wrap (0 - n)))
  | .xor, .int k n => some (.int k (bits .xor k (if k.signed then -1 else k.max) n))
  | .not, .bool b => some (.bool !b)
  | _, _ => none

theorem aun_ok {φ : List Place} {op : UnOp} {x x' v : Value} (hx : VR φ x x') (h : aun op x = some v) (w : World) : ∃ v', VR φ v v' ∧ (Op.unary op x').run P w = .ok v' w := by
  unfold aun at h
  split at h
  · cases h; cases hx; exact ⟨_, .int _ _, by simp [Op.unary, Op.intArith]⟩
  · cases h; cases hx; exact ⟨_, .int _ _, by simp only [Op.unary, intBits_xor]; rfl⟩
  · cases h; cases hx; exact ⟨_, .bool _, by simp [Op.unary]⟩
  · cases h

/-- the bytes of cells -/
def abytes : List Value → Option (List UInt8)
  | [] => some []
  | .int .u8 n :: r => (match abytes r with
    | some l => some (UInt8.ofNat n.toNat :: l)
    | none => none)
  | _ => none

theorem abytes_ok {φ : List Place} : ∀ {l l' : List Value} {bs : List UInt8}, VRs φ l l' → abytes l = some bs → ∃ ns : List Int, l' = ns.map (Value.int .u8) ∧ bs = ns.map fun n => UInt8.ofNat n.toNat
  | [], [], bs, _, h => by simp [abytes] at h; subst h; exact ⟨[], rfl, rfl⟩
  | [], _ :: _, _, h, _ => by have := h.1; simp at this
  | _ :: _, [], _, h, _ => by have := h.1; simp at this
  | v :: l, v' :: l', bs, hr, h => by
    unfold abytes at h
    split at h
    · rename_i e; cases e
    · rename_i n r e
      cases e
      split at h
      · rename_i bs' hb
        cases h
        obtain ⟨ns, h1, h2⟩ := abytes_ok hr.tail hb
        have := hr.head
        cases this
        exact ⟨n :: ns, by simp [h1], by simp [h2]⟩
      · cases h
    · cases h

theorem foldl_push (ns : List Int) : ∀ s : ByteArray, ns.foldl (fun r n => r.push (UInt8.ofNat n.toNat)) s = ⟨⟨s.data.toList ++ ns.map fun n => UInt8.ofNat n.toNat⟩⟩ := by
  induction ns with
  | nil => intro s; simp
  | cons n ns ih =>
    intro s
    rw [List.foldl_cons, ih]
    congr 2
    show ((s.data.push _).toList ++ _) = _
    simp

def aconv (src dst : TypeId) (x : Value) (H : AH) : Option (Value × AH) :=
  match E.und src, E.und dst, x with
  | some _, some (.int k), .int _ n => some (.int k (k.wrap n), H)
  | some _, some .string, .string s => some (.string s, H)
  | some .string, some (.slice e), .string s => (match E.und e with
    | some (.int .u8) => some (newSlice H s.data.toList.length s.data.toList.length, anew H (.cells (s.data.toList.map fun b => .int .u8 b.toNat) 1 false))
    | _ => none)
  | some (.slice e), some .string, .slice base l _ => (match E.und e with
    | some (.int .u8) => (match base with
      | none => some (.string ⟨⟨[]⟩⟩, H)
      | some a => (match aloads H a l with
        | some cs => (match abytes cs with
          | some bs => some (.string ⟨⟨bs⟩⟩, H)
          | none => none)
        | none => none))
    | _ => none)
  | some (.slice _), some (.slice e), .slice (some a) l c => bif Nat.beq src dst && (Nat.ble 1 c && !(Nat.beq (a.block % 2) 0)) then (match E.und e, H.tr.get (a.block / 2) with
    | some (.int .u8), some (.cells _ _ _) => some (.slice (some a) l c, H)
    | _, _ => none) else none
  | some (.pointer t), some .unsafePointer, .pointer (some a) => bif Nat.beq (a.block % 2) 0 then none else (match E.inf t, H.tr.get (a.block / 2) with
    | some i, some (.cells cs _ _) => bif Nat.beq i.size 0 then none else bif Nat.blt a.off cs.length then some (.pointer (some a), H) else none
    | _, _ => none)
  | some .unsafePointer, some (.pointer u), .pointer (some a) => bif Nat.beq (a.block % 2) 0 then none else (match E.inf u, H.tr.get (a.block / 2) with
    | some i, some (.cells cs sz true) => bif Nat.beq i.size 0 then none else bif Nat.beq sz (u + tagB) && (Nat.blt 5 u && (Nat.beq a.off 0 && Nat.beq cs.length i.size)) then some (.pointer (some a), H) else none
    | _, _ => none)
  | _, _, _ => none
/-- a variable of a type lies where a variable of this type lies -/
theorem liesAt_one {P : Program} {e : TypeId} (hc : P.cellsOf e ≠ 0) : liesAt P P.depth e 1 0 e 1 = true := by
  have hd : P.depth = (2 * (P.types.size + Made.depth) + 1) + 1 := rfl
  rw [hd]
  simp only [liesAt, Bool.or_eq_true]
  left
  rw [hd]
  simp [rowAt, hc, sameLayout]
theorem run_viewAt_cells {P : Program} {w : World} {b : Nat} {C : Array Value} {e : TypeId} {f : Nat × Nat} (h : w.heap[b]? = some (.cells C e f)) : (viewAt b).run P w = .ok none w := by
  simp [viewAt, run_shape, World.shape?, h]
theorem run_cellsIn_cells {P : Program} {w : World} {b : Nat} {C : Array Value} {e : TypeId} {f : Nat × Nat} (h : w.heap[b]? = some (.cells C e f)) : (cellsIn b).run P w = .ok (some C.size) w := by
  simp [cellsIn, run_shape, World.shape?, h]

/-- what lies behind a row's cells is marked -/
theorem Rel.marked [Pins] {φ : List Place} {H : AH} {w : World} (R : Rel φ H w) {i : Nat} {cs : List Value} {sz : Nat} {ex : Bool} (hg : H.tr.get i = some (.cells cs sz ex)) {p : Place} (hp : φ[i]? = some p) :
    ∃ e n, w.shape? p.blk = some (e, n) ∧ Rel φ H (w.freeze ⟨p.blk, n, none⟩ 1) := by
  obtain ⟨q, hq, hN, hO⟩ := R.obj _ _ hg
  rw [hp] at hq; cases hq
  obtain ⟨C, e, lo, hi, hx, hf, hrest⟩ := hO
  have hblk := alt_of_getElem? hx
  refine ⟨e, C.size, by simp only [World.shape?, hx], ?_⟩
  have hfr : ∀ k, (w.freeze ⟨p.blk, C.size, none⟩ 1).heap[k]? = if k = p.blk then some (.cells C e (if lo == hi then (C.size, C.size + 1) else (min lo C.size, max hi (C.size + 1)))) else w.heap[k]? := by
    intro k
    unfold World.freeze
    rw [if_neg (by omega)]
    simp only [Array.getElem?_modify]
    by_cases hk : p.blk = k
    · subst hk; rw [if_pos rfl, if_pos rfl, hx]; rfl
    · rw [if_neg hk, if_neg (fun h => hk h.symm)]
  have hsize : (w.freeze ⟨p.blk, C.size, none⟩ 1).heap.size = w.heap.size := by
    unfold World.freeze
    rw [if_neg (by omega)]
    simp
  have hos : (w.freeze ⟨p.blk, C.size, none⟩ 1).os = w.os ∧ (w.freeze ⟨p.blk, C.size, none⟩ 1).tape = w.tape ∧ (w.freeze ⟨p.blk, C.size, none⟩ 1).output = w.output := by
    unfold World.freeze
    rw [if_neg (by omega)]
    exact ⟨rfl, rfl, rfl⟩
  refine ⟨⟨hos.1.trans R.below.os, hos.2.1.trans R.below.tape, hos.2.2.trans R.below.output, by rw [hsize]; exact R.below.size, fun k hk => ?_⟩, R.len, fun j o' hj => ?_, R.inj, fun b x hb => ?_, fun i p hp => by rw [hsize]; exact R.lt i p hp⟩
  · have hk' : k < H.w0.heap.size := hk
    rw [hfr, if_neg (by omega)]; exact R.below.block k hk
  · obtain ⟨q, hq, hNq, hOq⟩ := R.obj _ _ hj
    refine ⟨q, hq, hNq, ?_⟩
    by_cases hji : q.blk = p.blk
    · have : j = i := R.inj j i _ _ q p hj hg hq hp hji
      subst this
      rw [hp] at hq; cases hq
      rw [hg] at hj; cases hj
      refine ⟨C, e, _, _, by rw [hfr, if_pos rfl], fun k hk hlo => ?_, hrest⟩
      exfalso
      by_cases hlh : lo = hi
      · simp only [hlh, beq_self_eq_true, if_true] at hlo; omega
      · have hb : (lo == hi) = false := by simpa using hlh
        rw [hb] at hlo
        simp only [Bool.false_eq_true, if_false] at hlo
        by_cases hlk : lo ≤ k
        · exact hlh (hf k hk hlk)
        · omega
    · rw [hfr, if_neg hji]; exact hOq
  · have hpb := R.pin b x hb
    refine ⟨?_, hpb.2⟩
    rw [hfr, if_neg (fun e => hpb.2 _ _ hp e.symm)]
    exact hpb.1

theorem freeze_alloc (w : World) (C : Array Value) (e : TypeId) (n : Nat) : (w.alloc (.cells C e)).freeze ⟨w.heap.size, n, none⟩ 1 = w.alloc (.cells C e (n, n + 1)) := by
  unfold World.freeze
  rw [if_neg (by omega)]
  unfold World.alloc
  congr 1
  apply Array.ext_getElem?
  intro k
  rw [Array.getElem?_modify, Array.getElem?_push, Array.getElem?_push]
  by_cases hk : k = w.heap.size
  · subst hk; simp
  · rw [if_neg hk, if_neg (fun h => hk h.symm), if_neg hk]

theorem aconv_ok [Pins] {φ : List Place} {H H' : AH} {w : World} (R : Rel φ H w) {src dst : TypeId} {x x' v : Value} (hx : VR φ x x') (h : aconv E src dst x H = some (v, H')) : SOk P (convert src dst x') φ w v H' := by
  unfold aconv at h
  split at h
  · rename_i d k k2 n hs hd
    cases h; cases hx
    refine .here R (.int _ _) ?_
    cases d <;> simp [convert, run_und E hs, run_und E hd, Conv.intToInt]
  · rename_i d s hs hd
    cases h; cases hx
    refine .here R (.string _) ?_
    cases d <;> simp [convert, run_und E hs, run_und E hd]
  · rename_i e s hs hd
    cases hx
    split at h
    · rename_i he
      cases h
      have key : ∀ bs : List UInt8, VRs φ (bs.map fun b => Value.int .u8 (b.toNat : Int)) (bs.map fun b => Value.int .u8 (b.toNat : Int)) := by
        intro bs
        induction bs with
        | nil => exact VRs.nil φ
        | cons b bs ih => exact VRs.cons (.int _ _) ih
      have hc := key s.data.toList
      have hlen : s.data.toList.length = s.size := by rw [Array.length_toList]; rfl
      let cap := (Question.appendCap s.size 0 e).cut (w.tape w.drawn (.appendCap s.size 0 e))
      have hcap : s.size ≤ cap := by simp [cap, Question.cut]
      let more := List.replicate (cap - s.size) (Value.int .u8 0)
      let C := (s.data.toList.map fun b => Value.int .u8 (b.toNat : Int)) ++ more
      have hCl : C.length = cap := by simp [C, more, hlen]; omega
      have hR := R.drew.new (.cells (s.data.toList.map fun b => Value.int .u8 (b.toNat : Int)) 1 false) (.cells C.toArray e (cap, cap + 1)) cap 1
        ⟨C.toArray, e, cap, cap + 1, rfl, fun k hk => by simp [hCl] at hk; omega, by simp [hCl], ⟨rfl, SzE.small (by decide), fun _ => rfl⟩, by simp [hCl, hlen]; omega, fun h => by simp at h, by
          have := hc.mono (φ' := φ ++ [⟨w.drew.heap.size, 0, cap, 1⟩]) ⟨_, rfl⟩
          simpa [C] using this⟩
      refine ⟨_, _, _, ⟨_, rfl⟩, hR, .slc (SRel.new R.len ⟨w.heap.size, 0, cap, 1⟩ rfl (c' := cap) (Nat.le_refl _) (by omega) (by show cap * esz 1 ≤ cap; rw [esz_small (by decide), Nat.mul_one]; exact Nat.le_refl _)), ?_⟩
      have hq : (Question.appendCap s.size 0 e).forced = false := rfl
      have hC : (s.data.map fun b => Value.int .u8 (b.toNat : Int)) ++ Array.replicate (cap - s.size) (.int .u8 0) = C.toArray := by
        rw [← Array.toList_inj]; simp [C, more]
      have hsh : (w.drew.alloc (.cells C.toArray e)).shape? w.heap.size = some (e, cap) := by
        simp only [World.shape?]
        rw [show (w.drew.alloc (.cells C.toArray e)).heap[w.heap.size]? = some (.cells C.toArray e) from heap_alloc_new w.drew _]
        simp [hCl]
      have hfr := freeze_alloc w.drew C.toArray e cap
      have hsz : w.drew.heap.size = w.heap.size := rfl
      simp only [convert, Sem.run_bind, run_und E hs, run_und E hd, run_und E he, Result.andThen_ok, Conv.stringToBytes, run_choose, hq, Bool.false_eq_true, if_false, World.drew_eq, newRow, run_newObj, World.alloc_eq, Sem.run_pure, markStringish, run_shape]
      rw [show (Question.appendCap s.size 0 e).cut (w.tape w.drawn (.appendCap s.size 0 e)) = cap from rfl, hC]
      simp only [hsz, hsh, run_freeze, Result.andThen_ok, hlen]
      rw [hsz] at hfr
      rw [hfr]
    · cases h
  · rename_i e base l c hs hd
    split at h
    · rename_i he
      split at h
      · cases h; cases hx
        refine .here R (.string _) ?_
        rw [run_convert_bytes_string w src dst e _ _ _ (E.und_ok _ _ hs) (E.und_ok _ _ he) (E.und_ok _ _ hd)]
        rfl
      · rename_i a
        split at h
        · rename_i cs hcs
          split at h
          · rename_i bs hbs
            cases h
            cases hx with
            | @slc _ a' _ _ c' hsl =>
              have hA : l = 0 ∨ ARel φ a a' := by
                rcases hsl with ⟨_, _, hA⟩ | ⟨_, h1, h2, h3 | ⟨hA, _⟩⟩
                · exact .inr hA
                · left; omega
                · exact .inr hA
              obtain ⟨l', h1, h2, h3⟩ := aloads_ok R hA hcs
              obtain ⟨ns, rfl, rfl⟩ := abytes_ok h1 hbs
              have hrun := run_loadCells_list (P := P) w a' _ h3
              rw [h2] at hrun
              refine .here R (.string _) ?_
              rw [run_convert_bytes_string w src dst e _ _ _ (E.und_ok _ _ hs) (E.und_ok _ _ he) (E.und_ok _ _ hd), run_bytesToString w a' l c' ns hrun, foldl_push]
              rfl
          · cases h
        · cases h
    · cases h
  · rename_i e0 e a l c hs hd
    cases hb : (Nat.beq src dst && (Nat.ble 1 c && !(Nat.beq (a.block % 2) 0))) with
    | false => rw [hb] at h; cases h
    | true =>
      rw [hb, cond_true] at h
      simp only [Bool.and_eq_true, Bool.not_eq_true'] at hb
      obtain ⟨hsd, hc1, hodd⟩ := hb
      have hsd := Nat.eq_of_beq_eq_true hsd
      have hc1 := Nat.le_of_ble_eq_true hc1
      have hodd := mod2_ne hodd
      subst hsd
      obtain rfl : e0 = e := by rw [hs] at hd; cases hd; rfl
      split at h
      · rename_i cs sz ex he hg
        cases h
        cases hx with
        | @slc _ a' _ _ c' hsl =>
          rcases hsl with ⟨h0, _⟩ | ⟨_, h1, h2, h3⟩
          · omega
          · rcases h3 with h3 | ⟨hA, _⟩
            · omega
            · have hA2 := hA
              rcases hA2 with ⟨h0, _⟩ | ⟨_, _, _, p, hp, hblk, _⟩
              · omega
              · obtain ⟨e2, n, hsh, hR⟩ := R.marked hg hp
                refine ⟨φ, .slice (some a') l c', _, List.prefix_refl _, hR, .slc ?_, ?_⟩
                · exact .inr ⟨hodd, h1, h2, .inr ⟨hA, by assumption⟩⟩
                · simp only [convert, Sem.run_bind, run_und E hs, run_und E hd, run_und E he, Result.andThen_ok, beq_self_eq_true, markStringish, run_shape, hblk, hsh, run_freeze, Sem.run_pure]
      · cases h
  · rename_i t a hs hd
    cases hev : Nat.beq (a.block % 2) 0 with
    | true => rw [hev] at h; cases h
    | false =>
      rw [hev, cond_false] at h
      have hodd := mod2_ne hev
      split at h
      · rename_i i cs sz ex hi hg
        cases hz : Nat.beq i.size 0 with
        | true => rw [hz] at h; cases h
        | false =>
          rw [hz, cond_false] at h
          cases hb : Nat.blt a.off cs.length with
          | false => rw [hb] at h; cases h
          | true =>
            rw [hb, cond_true] at h
            cases h
            have hlt : a.off + 1 ≤ cs.length := Nat.le_of_ble_eq_true hb
            have hz' : ¬ i.size = 0 := fun q => by rw [q] at hz; cases hz
            cases hx with
            | @ptr _ a' hA =>
              have hA2 := hA
              rcases hA2 with ⟨h0, _⟩ | ⟨_, _, _, p, hp, hblk, hoff⟩
              · omega
              · obtain ⟨q, hq, _, C, e, lo, hi2, hxx, _, _, _, hle, _, _⟩ := R.obj _ _ hg
                rw [hp] at hq; cases hq
                rw [← hblk] at hxx
                refine .here R (.ptr hA) ?_
                have hge : ¬ (C.size ≤ a'.off) := by omega
                simp [convert, run_und E hs, run_und E hd, Conv.unsafePointer, Conv.seenAt, run_viewAt_cells hxx, run_cellsIn_cells hxx, run_sizeOf' E hi, hz', hge]
      · cases h
  · rename_i u a hs hd
    cases hev : Nat.beq (a.block % 2) 0 with
    | true => rw [hev] at h; cases h
    | false =>
      rw [hev, cond_false] at h
      have hodd := mod2_ne hev
      split at h
      · rename_i i cs sz hi hg
        cases hz : Nat.beq i.size 0 with
        | true => rw [hz] at h; cases h
        | false =>
          rw [hz, cond_false] at h
          cases hb : (Nat.beq sz (u + tagB) && (Nat.blt 5 u && (Nat.beq a.off 0 && Nat.beq cs.length i.size))) with
          | false => rw [hb] at h; cases h
          | true =>
            rw [hb, cond_true] at h
            cases h
            simp only [Bool.and_eq_true] at hb
            obtain ⟨b1, b2, b3, b4⟩ := hb
            have b1 := Nat.eq_of_beq_eq_true b1
            have b2 : 5 + 1 ≤ u := Nat.le_of_ble_eq_true b2
            have b3 := Nat.eq_of_beq_eq_true b3
            have b4 := Nat.eq_of_beq_eq_true b4
            have hz' : ¬ i.size = 0 := fun q => by rw [q] at hz; cases hz
            cases hx with
            | @ptr _ a' hA =>
              have hA2 := hA
              rcases hA2 with ⟨h0, _⟩ | ⟨_, _, _, p, hp, hblk, hoff⟩
              · omega
              · obtain ⟨q, hq, _, C, e, lo, hi2, hxx, _, _, ⟨_, hse, hba⟩, _, hex, _⟩ := R.obj _ _ hg
                rw [hp] at hq; cases hq
                rw [← hblk] at hxx
                have hbase := hba (by rw [b1]; exact Nat.lt_of_lt_of_le (Nat.add_lt_add_left b2 tagB) (Nat.le_of_eq (Nat.add_comm tagB u)))
                have he : e = u := Nat.add_right_cancel ((hse (by rw [b1]; exact Nat.le_add_left _ _)).trans b1)
                subst he
                have hex := hex rfl
                obtain ⟨ii, hii, e1, _⟩ := E.inf_ok _ _ hi
                have hcell : P.cellsOf e = i.size := by simp [Program.cellsOf, hii, e1]
                have hC : C.size / P.cellsOf e = 1 := by rw [hcell, show C.size = i.size by omega]; exact Nat.div_self (by omega)
                have hoff0 : a'.off = 0 := by omega
                have hva : (variablesAt a' e 1).run P w = .ok true w := by
                  simp [variablesAt, run_shape, World.shape?, hxx, hC, hoff0, liesAt_one (P := P) (e := e) (by rw [hcell]; exact hz')]
                refine .here R (.ptr hA) ?_
                simp [convert, run_und E hs, run_und E hd, Conv.unsafePointer, Conv.seenAt, run_viewAt_cells hxx, run_sizeOf' E hi, hz', hva]
      · cases h
  · cases h

/-! ### bytes as text, and back -/
theorem liesAt_row {P : Program} {e : TypeId} (hc : P.cellsOf e = 1) (count off n : Nat) (hn : off + n ≤ count) : liesAt P P.depth e count off e n = true := by
  have hd : P.depth = (2 * (P.types.size + Made.depth) + 1) + 1 := rfl
  rw [hd]
  simp only [liesAt, Bool.or_eq_true]
  left
  rw [hd]
  simp [rowAt, hc, hn, sameLayout, Nat.mod_one]
theorem run_loadBytes_ns {P : Program} {w : World} : ∀ (ns : List Int) (a : Addr) (acc : ByteArray), (∀ j v, (ns.map (Value.int .u8))[j]? = some v → w.cell? (a.add j) = some v) →
    (loadBytes a acc ns.length).run P w = .ok ⟨⟨acc.data.toList ++ ns.map fun n => UInt8.ofNat n.toNat⟩⟩ w
  | [], a, acc, _ => by simp [loadBytes]
  | x :: l, a, acc, h => by
    have h0 : w.cell? a = some (.int .u8 x) := by
      have := h 0 _ rfl
      simpa [Addr.add] using this
    have ih := run_loadBytes_ns (P := P) l (a.add 1) (acc.push x.toNat.toUInt8) (fun j y hy => by
      have := h (j + 1) y (by simpa using hy)
      have e : (a.add 1).add j = a.add (j + 1) := by
        unfold Addr.add
        by_cases hj : j = 0
        · subst hj; simp
        · simp [hj]; omega
      rw [e]; exact this)
    simp only [List.length_cons, loadBytes, Sem.run_bind, run_load, h0, Result.andThen_ok]
    rw [ih]
    congr 3
    simp [ByteArray.push]

/-- a block that is given up: what becomes of it is not known any more -/
theorem Rel.dead [Pins] {φ : List Place} {H : AH} {w : World} (R : Rel φ H w) {i : Nat} {o : AObj} (hg : H.tr.get i = some o) {p : Place} (hp : φ[i]? = some p) (off n : Nat) :
    Rel φ { H with tr := H.tr.set i none } (w.freeze ⟨p.blk, off, none⟩ n) := by
  obtain ⟨q, hq, hN, _⟩ := R.obj _ _ hg
  rw [hp] at hq; cases hq
  have hfr : ∀ k, k ≠ p.blk → (w.freeze ⟨p.blk, off, none⟩ n).heap[k]? = w.heap[k]? := by
    intro k hk
    unfold World.freeze
    split
    · rfl
    · simp only [Array.getElem?_modify]
      rw [if_neg (fun h => hk h.symm)]
  have hsize : (w.freeze ⟨p.blk, off, none⟩ n).heap.size = w.heap.size := by
    unfold World.freeze
    split
    · rfl
    · simp
  have hos : (w.freeze ⟨p.blk, off, none⟩ n).os = w.os ∧ (w.freeze ⟨p.blk, off, none⟩ n).tape = w.tape ∧ (w.freeze ⟨p.blk, off, none⟩ n).output = w.output := by
    unfold World.freeze
    split
    · exact ⟨rfl, rfl, rfl⟩
    · exact ⟨rfl, rfl, rfl⟩
  have hget : ∀ j o', ({ H with tr := H.tr.set i none } : AH).tr.get j = some o' → j ≠ i ∧ H.tr.get j = some o' := by
    intro j o' hj
    simp only [Tr.get_set] at hj
    by_cases e : j = i
    · rw [if_pos e] at hj; cases hj
    · rw [if_neg e] at hj; exact ⟨e, hj⟩
  refine ⟨⟨hos.1.trans R.below.os, hos.2.1.trans R.below.tape, hos.2.2.trans R.below.output, by rw [hsize]; exact R.below.size, fun k hk => ?_⟩, R.len, fun j o' hj => ?_, fun a b o1 o2 p1 p2 h1 h2 => R.inj a b o1 o2 p1 p2 (hget _ _ h1).2 (hget _ _ h2).2, fun b x hb => ?_, fun i p hp => by rw [hsize]; exact R.lt i p hp⟩
  · have hk' : k < H.w0.heap.size := hk
    rw [hfr _ (by omega)]; exact R.below.block k hk
  · obtain ⟨hne, hj⟩ := hget _ _ hj
    obtain ⟨q, hq, hNq, hOq⟩ := R.obj _ _ hj
    refine ⟨q, hq, hNq, ?_⟩
    rw [hfr _ (fun e => hne (R.inj j i _ _ q p hj hg hq hp e))]
    exact hOq
  · have hpb := R.pin b x hb
    refine ⟨?_, hpb.2⟩
    rw [hfr _ (fun e => hpb.2 _ _ hp e.symm)]
    exact hpb.1

def asliceData : Value → Option Value
  | .slice none _ _ => some (.pointer none)
  | .slice (some a) l c => bif Nat.beq c 0 then none else some (.pointer (some a))
  | _ => none
theorem asliceData_ok {P : Program} {φ : List Place} {x x' v : Value} (hx : VR φ x x') (h : asliceData x = some v) (ts : Array TypeId) (ty : TypeId) (w : World) : ∃ v', VR φ v v' ∧ (Builtin.unsafeSliceData_ ts ty #[x']).run P w = .ok v' w := by
  unfold asliceData at h
  split at h
  · cases h; cases hx; exact ⟨_, .pnil, Lib.run_unsafeSliceData_nil w ts ty _ _⟩
  · rename_i a l c
    cases hz : Nat.beq c 0 with
    | true => rw [hz] at h; cases h
    | false =>
      rw [hz, cond_false] at h
      cases h
      have hc : c ≠ 0 := fun e => by subst e; simp at hz
      cases hx with
      | @slc _ a' _ _ c' hsl =>
        have hA : ARel φ a a' ∧ c' ≠ 0 := by
          rcases hsl with ⟨_, h1, hA⟩ | ⟨_, h1, h2, h3 | ⟨hA, _⟩⟩
          · exact ⟨hA, by omega⟩
          · omega
          · exact ⟨hA, by omega⟩
        exact ⟨_, .ptr hA.1, Lib.run_unsafeSliceData_row w ts ty a' l c' hA.2⟩
  · cases h

def austring (pt : TypeId) (x y : Value) (H : AH) : Option (Value × AH) :=
  match x, y with
  | .pointer p, .int .i64 n => bif n == 0 then some (.string ⟨⟨[]⟩⟩, H) else (match p with
    | some a => bif Nat.beq (a.block % 2) 0 then none else (match E.und pt, E.inf 5, H.tr.get (a.block / 2) with
      | some (.pointer t), some i, some (.cells _ sz _) => bif (Nat.beq t 5 && Nat.beq i.size 1) && (Nat.beq sz (5 + tagB) && (decide (0 ≤ n) && Nat.ble n.toNat 1099511627776)) then (match aloads H a n.toNat with
        | some cs => (match abytes cs with
          | some bs => some (.string ⟨⟨bs⟩⟩, { H with tr := H.tr.set (a.block / 2) none })
          | none => none)
        | none => none) else none
      | _, _, _ => none)
    | none => none)
  | _, _ => none

theorem austring_ok [Pins] {φ : List Place} {H H' : AH} {w : World} (R : Rel φ H w) {pt it ty : TypeId} {x x' y y' v : Value} (hx : VR φ x x') (hy : VR φ y y') (h : austring E pt x y H = some (v, H')) : SOk P (Builtin.unsafeString_ #[pt, it] ty #[x', y']) φ w v H' := by
  unfold austring at h
  split at h
  · rename_i p n
    cases hn : (n == 0) with
    | true =>
      rw [hn, cond_true] at h
      have hn : n = 0 := by simpa using hn
      subst hn
      cases h
      cases hy
      cases hx with
      | pnil => exact .here R (.string _) (Lib.run_unsafeString_none w pt it ty none)
      | ptr hA => exact .here R (.string _) (Lib.run_unsafeString_none w pt it ty _)
    | false =>
      rw [hn, cond_false] at h
      have hn : n ≠ 0 := by simpa using hn
      split at h
      · rename_i a
        cases hev : Nat.beq (a.block % 2) 0 with
        | true => rw [hev] at h; cases h
        | false =>
          rw [hev, cond_false] at h
          have hodd := mod2_ne hev
          split at h
          · rename_i t i cs0 sz ex hu hi hg
            cases hb : ((Nat.beq t 5 && Nat.beq i.size 1) && (Nat.beq sz (5 + tagB) && (decide (0 ≤ n) && Nat.ble n.toNat 1099511627776))) with
            | false => rw [hb] at h; cases h
            | true =>
              rw [hb, cond_true] at h
              simp only [Bool.and_eq_true, decide_eq_true_eq] at hb
              obtain ⟨⟨b1, b2⟩, b3, b4, b5⟩ := hb
              have b1 := Nat.eq_of_beq_eq_true b1
              have b2 := Nat.eq_of_beq_eq_true b2
              have b3 := Nat.eq_of_beq_eq_true b3
              have b5 := Nat.le_of_ble_eq_true b5
              subst b1
              split at h
              · rename_i cs hcs
                split at h
                · rename_i bs hbs
                  cases h
                  cases hy
                  cases hx with
                  | @ptr _ a' hA =>
                    have hA2 := hA
                    rcases hA2 with ⟨h0, _⟩ | ⟨_, _, hsp, p, hp, hblk, hoff⟩
                    · omega
                    · obtain ⟨l', h1, h2, h3⟩ := aloads_ok R (.inr hA) hcs
                      obtain ⟨ns, rfl, rfl⟩ := abytes_ok h1 hbs
                      have hlen : ns.length = n.toNat := by simpa using h2
                      have hrun := run_loadBytes_ns (P := P) (w := w) ns a' .empty h3
                      rw [hlen] at hrun
                      obtain ⟨q, hq, _, C, e, lo, hi2, hxx, _, htot, ⟨_, hse, _⟩, hle, _, _⟩ := R.obj _ _ hg
                      rw [hp] at hq; cases hq
                      rw [← hblk] at hxx
                      have he : e = 5 := Nat.add_right_cancel ((hse (by rw [b3]; exact Nat.le_add_left _ _)).trans b3)
                      subst he
                      have hle2 : a'.off + n.toNat ≤ C.size := by
                        unfold aloads at hcs
                        have hnn : Nat.beq n.toNat 0 = false := by
                          cases hz : Nat.beq n.toNat 0 with
                          | false => rfl
                          | true => have := Nat.eq_of_beq_eq_true hz; omega
                        rw [hnn, cond_false, hev, cond_false, hg] at hcs
                        simp only at hcs
                        cases hbl : Nat.ble (a.off + n.toNat) cs0.length with
                        | false => rw [hbl] at hcs; cases hcs
                        | true => have := Nat.le_of_ble_eq_true hbl; omega
                      obtain ⟨ii, hii, e1, _⟩ := E.inf_ok _ _ hi
                      have hcell : P.cellsOf 5 = 1 := by simp [Program.cellsOf, hii, e1, b2]
                      have hva : (variablesAt a' 5 n.toNat).run P w = .ok true w := by
                        simp [variablesAt, run_shape, World.shape?, hxx, hcell, liesAt_row (P := P) hcell _ _ _ hle2]
                      have hR := R.dead hg hp a'.off n.toNat
                      have ha' : a' = ⟨p.blk, a'.off, none⟩ := by
                        cases a'; simp only at hblk hsp ⊢; subst hblk; subst hsp; rfl
                      rw [← ha'] at hR
                      refine ⟨φ, _, _, List.prefix_refl _, hR, .string _, ?_⟩
                      have hmax : IntKind.i64.max = 9223372036854775807 := rfl
                      have g1 : ¬ (n < 0) := by omega
                      have g2 : ¬ (9223372036854775807 < n) := by omega
                      have hdef : Builtin.unsafeString_ #[pt, it] ty #[.pointer (some a'), .int .i64 n] =
                          (do
                            let n ← asInt (.int .i64 n)
                            if n < 0 then runtimePanic (.error "unsafe.String: len out of range")
                            if n > IntKind.i64.max then unsupported (.unsafePointer "String: a length above the largest int")
                            if n = 0 then pure (.string .empty)
                            else if ← variablesAt a' (← elemOf pt) n.toNat then do
                              let s ← loadBytes a' .empty n.toNat
                              freeze a' n.toNat
                              pure (.string s)
                            else unsupported (.unsafePointer "String: not so many bytes at ptr")) := rfl
                      rw [hdef]
                      simp [asInt, asIntOf, hmax, g1, g2, hn, hva, hrun, elemOf, run_und E hu]
                · cases h
              · cases h
          · cases h
      · cases h
  · cases h

/-! ### min and max -/
def amin (mx : Bool) : Value → List Value → Option Value
  | x, [] => some x
  | .int k a, .int k' b :: r => bif decide (k = k') then amin mx (.int k (if (if mx then b > a else b < a) then b else a)) r else none
  | _, _ => none

theorem amin_ok {φ : List Place} (mx : Bool) : ∀ (l l' : List Value) (x x' v : Value), VR φ x x' → VRs φ l l' → amin mx x l = some v → ∀ w, ∃ v', VR φ v v' ∧ (l'.foldlM (if mx then Builtin.max2 else Builtin.min2) x' : Sem Value).run P w = .ok v' w := by
  intro l
  induction l with
  | nil =>
    intro l' x x' v hx hl h w
    have : l' = [] := List.eq_nil_of_length_eq_zero hl.1.symm
    subst this
    cases x <;> (simp only [amin] at h; cases h; exact ⟨x', hx, by simp⟩)
  | cons y l ih =>
    intro l' x x' v hx hl h w
    cases l' with
    | nil => have := hl.1; simp at this
    | cons y' l' =>
      cases x <;> (try (simp only [amin] at h; cases h; done))
      cases y <;> (try (simp only [amin] at h; cases h; done))
      rename_i k a k' b
      simp only [amin] at h
      cases hk : decide (k = k') with
      | false => rw [hk] at h; cases h
      | true =>
        rw [hk, cond_true] at h
        simp only [decide_eq_true_eq] at hk
        subst hk
        cases hx
        have := hl.head
        cases this
        obtain ⟨v', h1, h2⟩ := ih l' _ _ v (.int k _) hl.tail h w
        refine ⟨v', h1, ?_⟩
        cases mx
        · simpa [Builtin.min2] using h2
        · simpa [Builtin.max2] using h2
end

/-! ### operands, frames -/
structure Fr where
  n : Nat
  tr : Tr Value

def aval (f : Fr) : Operand → Value
  | .tmp t => (match f.tr.get t with
    | some v => v
    | none => undef)
  | .const v => ext v
  | .global g => .pointer (some ⟨2 * g, 0, none⟩)
  | .func g => .func (.func g) ⟨[]⟩ ⟨[]⟩

def FRel (φ : List Place) (f : Fr) (a : Act) : Prop := a.defers = [] ∧ a.tmps.size = f.n ∧ ∀ t, VR φ (aval f (.tmp t)) (a.tmps.getD t undef)

theorem FRel.mono {φ φ' : List Place} (h : φ <+: φ') {f : Fr} {a : Act} (r : FRel φ f a) : FRel φ' f a := ⟨r.1, r.2.1, fun t => (r.2.2 t).mono h⟩

theorem FRel.eval {φ : List Place} {f : Fr} {a : Act} (r : FRel φ f a) (x : Operand) : VR φ (aval f x) (a.eval x) := by
  cases x with
  | tmp t => exact r.2.2 t
  | const v => exact VR.ext φ v
  | global g => exact .ptr (.inl ⟨by simp, by simp, rfl, rfl⟩)
  | func g => exact .func _ rfl rfl (fun i v v' h => by simp at h) (fun i v v' h => by simp at h)

def Fr.put (f : Fr) (d : Option Tmp) (v : Value) : Option Fr :=
  match d with
  | none => some f
  | some d => bif Nat.ble (d + 1) f.n then some { f with tr := f.tr.set d (some v) } else none

theorem FRel.put {φ : List Place} {f g : Fr} {a : Act} (r : FRel φ f a) {d : Option Tmp} {v v' : Value} (hv : VR φ v v') (h : f.put d v = some g) : FRel φ g (a.put d v') := by
  unfold Fr.put at h
  cases d with
  | none => cases h; exact r
  | some d =>
    simp only at h
    cases hle : Nat.ble (d + 1) f.n with
    | false => rw [hle] at h; cases h
    | true =>
      rw [hle, cond_true] at h
      cases h
      have hle' := Nat.le_of_ble_eq_true hle
      refine ⟨r.1, by simp [Act.put, r.2.1], fun t => ?_⟩
      have hsz := r.2.1
      have hr := r.2.2 t
      simp only [aval, Act.put, Tr.get_set] at hr ⊢
      by_cases e : t = d
      · subst e
        rw [if_pos rfl]
        simp only [Array.getD_eq_getD_getElem?, Array.getElem?_setIfInBounds, if_true]
        rw [if_pos (by omega)]
        exact hv
      · rw [if_neg e]
        simp only [Array.getD_eq_getD_getElem?, Array.getElem?_setIfInBounds] at hr ⊢
        rw [if_neg (fun h => e h.symm)]
        exact hr

def pairUp (x : Option Value) (H : AH) : Option (Value × AH) :=
  match x with
  | some v => some (v, H)
  | none => none

/-! ### functions that the model stands in for -/
def aAdd64 : List Value → Option Value
  | [.int .u64 x, .int .u64 y, .int .u64 c] => if 0 ≤ x ∧ 0 ≤ y ∧ 0 ≤ c ∧ c ≤ 1 then some (.tuple ⟨[.int .u64 ((x + y + c) % 18446744073709551616), .int .u64 ((x + y + c) / 18446744073709551616)]⟩) else none
  | _ => none
def aIdxB : List Value → Option Value
  | [.string s, .int .u8 c] => some (.int .i64 (firstIdx s c.toNat.toUInt8))
  | _ => none
def aNoEsc : List Value → Option Value
  | [.pointer (some a)] => some (.pointer (some a))
  | _ => none
def aext (P : Program) (g : FuncId) (args : List Value) : Option Value :=
  match P.funcs[g]? with
  | some F => (match F.body with
    | some _ => none
    | none => bif F.origin == "" then (bif F.name == "math/bits.Add64" then aAdd64 args else bif F.name == "internal/bytealg.IndexByteString" then aIdxB args else bif F.name == "internal/abi.NoEscape" then aNoEsc args else none) else none)
  | none => none
theorem noNext (n : String) (h1 : Extern.allNextRows.lookup n = none) (h2 : Extern.allNextRows.lookup "" = none) {F : Func} (hn : F.name = n) (ho : F.origin = "") : Extern.findNext F = none := by
  simp only [Extern.findNext, hn, ho, h1, h2]; rfl
theorem findOf (n : String) {e : Array Value → Sem Value} (h1 : Extern.allGenericRows.lookup n = none) (h2 : Extern.allTypedRows.lookup n = none) (h3 : Extern.allRows.lookup n = some e) {F : Func} (hn : F.name = n) : Extern.find F = some e := by
  simp only [Extern.find, hn, h1, h2, h3]; rfl
theorem noNext0 : Extern.allNextRows.lookup "" = none := by kernel_rfl
theorem aext_ok {P : Program} {φ : List Place} {g : FuncId} {args args' : List Value} {v : Value} (hv : VRs φ args args') (h : aext P g args = some v) (w : World) : ∃ v', VR φ v v' ∧ (callFunc g ⟨args'⟩).run P w = .ok (.value v') w := by
  unfold aext at h
  split at h
  · rename_i F hF
    split at h
    · cases h
    · rename_i hb
      cases ho : (F.origin == "") with
      | false => rw [ho] at h; cases h
      | true =>
        rw [ho, cond_true] at h
        have ho : F.origin = "" := by simpa using ho
        have hb' : F.body.isNone = true := by rw [hb]; rfl
        cases hn : (F.name == "math/bits.Add64") with
        | true =>
          rw [hn, cond_true] at h
          have hn : F.name = "math/bits.Add64" := by simpa using hn
          unfold aAdd64 at h
          split at h
          · rename_i x y c
            split at h
            · rename_i hc
              cases h
              obtain rfl := flatL_eq hv rfl
              refine ⟨_, VR.tuple' (VRs.cons (.int _ _) (VRs.cons (.int _ _) (VRs.nil φ))), ?_⟩
              have hr := run_callFunc_extern (P := P) (e := add64Entry) hF (by rw [hn]; rfl) hb' (noNext "math/bits.Add64" (by kernel_rfl) noNext0 hn ho) (findOf "math/bits.Add64" (by kernel_rfl) (by kernel_rfl) (by kernel_rfl) hn) #[.int .u64 x, .int .u64 y, .int .u64 c] w
              rw [run_add64 x y c hc.1 hc.2.1 hc.2.2.1 hc.2.2.2] at hr
              exact hr
            · cases h
          · cases h
        | false =>
          rw [hn, cond_false] at h
          cases hn : (F.name == "internal/bytealg.IndexByteString") with
          | true =>
            rw [hn, cond_true] at h
            have hn : F.name = "internal/bytealg.IndexByteString" := by simpa using hn
            unfold aIdxB at h
            split at h
            · rename_i s c
              cases h
              obtain rfl := flatL_eq hv rfl
              refine ⟨_, .int _ _, ?_⟩
              have hr := run_callFunc_extern (P := P) (e := Extern.BytealgIndexByte.indexByte) hF (by rw [hn]; rfl) hb' (noNext "internal/bytealg.IndexByteString" (by kernel_rfl) noNext0 hn ho) (findOf "internal/bytealg.IndexByteString" (by kernel_rfl) (by kernel_rfl) (by kernel_rfl) hn) #[.string s, .int .u8 c] w
              rw [run_indexByte_string s c] at hr
              exact hr
            · cases h
          | false =>
            rw [hn, cond_false] at h
            cases hn : (F.name == "internal/abi.NoEscape") with
            | true =>
              rw [hn, cond_true] at h
              have hn : F.name = "internal/abi.NoEscape" := by simpa using hn
              unfold aNoEsc at h
              split at h
              · rename_i a
                cases h
                match args', hv with
                | [x'], hv =>
                  have hx := hv.2 0 _ _ rfl rfl
                  refine ⟨x', hx, ?_⟩
                  exact run_callFunc_extern (P := P) (e := Extern.AbiNoEscape.same) hF (by rw [hn]; rfl) hb' (noNext "internal/abi.NoEscape" (by kernel_rfl) noNext0 hn ho) (findOf "internal/abi.NoEscape" (by kernel_rfl) (by kernel_rfl) (by kernel_rfl) hn) #[x'] w
                | [], hv => exact absurd hv.1 (by simp)
                | _ :: _ :: _, hv => exact absurd hv.1 (by simp)
              · cases h
            | false => rw [hn] at h; cases h
  · cases h

def aop {P : Program} (E : Env P) (ρ : Operand → Value) (op : Op) (H : AH) : Option (Value × AH) :=
  match op with
  | .move x => some (ρ x, H)
  | .assign x => some (ρ x, H)
  | .pick c a b => (match ρ c with
    | .bool true => some (ρ a, H)
    | .bool false => some (ρ b, H)
    | _ => none)
  | .alloc t => aalloc E t H
  | .box t x => some (abox E t (ρ x) H)
  | .build t ps => pairUp (abuild E t (ps.toList.map fun x => (x.1, ρ x.2))) H
  | .buildSlice t n ps => abuildSlice E t n (ps.toList.map fun x => (x.1, ρ x.2)) H
  | .load t x => (match ρ x with
    | .pointer (some a) => pairUp (aloadVar E t a H) H
    | _ => none)
  | .store t x y => (match ρ x with
    | .pointer (some a) => (match astoreVar E t a (ρ y) H with
      | some H' => some (undef, H')
      | none => none)
    | _ => none)
  | .nilCheck x => (match ρ x with
    | .pointer (some a) => some (.pointer (some a), H)
    | .func (.func g) a b => some (.func (.func g) a b, H)
    | _ => none)
  | .binOp op t x y _ => pairUp (abin E op t (ρ x) (ρ y)) H
  | .unOp op _ x => pairUp (aun op (ρ x)) H
  | .convert s d x => aconv E s d (ρ x) H
  | .makeFunc fn a b => some (.func fn ⟨a.toList.map ρ⟩ ⟨b.toList.map ρ⟩, H)
  | .makeMap _ none => some (amakeMap H)
  | .makeSlice t l c => amakeSlice E t (ρ l) (ρ c) H
  | .slice t x lo hi mx => pairUp (aslice E t (ρ x) (lo.map ρ) (hi.map ρ) (mx.map ρ) H) H
  | .fieldAddr s x f => pairUp (afieldAddr E s (ρ x) f) H
  | .field t x f => pairUp (afield E t (ρ x) f) H
  | .indexAddr t x ix => pairUp (aindexAddr E t (ρ x) (ρ ix)) H
  | .index t x ix => pairUp (aindex E t (ρ x) (ρ ix)) H
  | .lookup t x ix ok => pairUp (alookup2 E t (ρ x) (ρ ix) ok H) H
  | .mapUpdate t m k x => (match amapUpdate2 E t (ρ m) (ρ k) (ρ x) H with
    | some H' => some (undef, H')
    | none => none)
  | .insert t m k x => (match amapUpdate2 E t (ρ m) (ρ k) (ρ x) H with
    | some H' => some (undef, H')
    | none => none)
  | .extract x i => pairUp (aextract (ρ x) i) H
  | .call c => (match c.callee with
    | .builtin .len => (match c.args.toList, c.argTypes.toList with
      | [x], [t] => pairUp (alen E t (ρ x) H) H
      | _, _ => none)
    | .builtin .cap => (match c.args.toList, c.argTypes.toList with
      | [x], [t] => pairUp (acap E t (ρ x) H) H
      | _, _ => none)
    | .builtin .append => (match c.args.toList, c.argTypes.toList with
      | [s, x], [sT, xT] => aappend E sT xT (ρ s) (ρ x) H
      | _, _ => none)
    | .builtin .copy => (match c.args.toList, c.argTypes.toList with
      | [d, x], [dT, _] => acopy E dT (ρ d) (ρ x) H
      | _, _ => none)
    | .builtin .min => (match c.args.toList with
      | x :: r => pairUp (amin false (ρ x) (r.map ρ)) H
      | _ => none)
    | .builtin .max => (match c.args.toList with
      | x :: r => pairUp (amin true (ρ x) (r.map ρ)) H
      | _ => none)
    | .builtin .unsafeSliceData => (match c.args.toList with
      | [x] => pairUp (asliceData (ρ x)) H
      | _ => none)
    | .builtin .unsafeString => (match c.args.toList, c.argTypes.toList with
      | [x, y], [pt, _] => austring E pt (ρ x) (ρ y) H
      | _, _ => none)
    | .value x => (match ρ x with
      | .func (.func g) ⟨[]⟩ ⟨[]⟩ => pairUp (aext P g (c.args.toList.map ρ)) H
      | _ => none)
    | _ => none)
  | _ => none

/-- an operation runs, abstractly -/
def OOk [Pins] (P : Program) (o : Oper) (ρ : Operand → Value) (φ : List Place) (w : World) (v : Value) (H' : AH) : Prop :=
  ∃ φ' v' w', φ <+: φ' ∧ Rel φ' H' w' ∧ VR φ' v v' ∧ ((execOp ρ o).run P w = .ok (.value v') w' ∨ ((execOp ρ o).run P w = .ok .skip w' ∧ v' = undef))

theorem pairUp_some {x : Option Value} {H H' : AH} {v : Value} (h : pairUp x H = some (v, H')) : x = some v ∧ H' = H := by
  unfold pairUp at h
  split at h
  · cases h; exact ⟨rfl, rfl⟩
  · cases h

theorem VRs_map {φ : List Place} {ρ ρ' : Operand → Value} (h : ∀ x, VR φ (ρ x) (ρ' x)) : ∀ l : List Operand, VRs φ (l.map ρ) (l.map ρ')
  | [] => VRs.nil φ
  | x :: l => VRs.cons (h x) (VRs_map h l)

theorem parts_ok {φ : List Place} {ρ ρ' : Operand → Value} (h : ∀ x, VR φ (ρ x) (ρ' x)) (l : List (Nat × Operand)) (i n : Nat) (v : Value) (n' : Nat) (v' : Value)
    (h1 : (l.map fun x => (x.1, ρ x.2))[i]? = some (n, v)) (h2 : (l.map fun x => (x.1, ρ' x.2))[i]? = some (n', v')) : n = n' ∧ VR φ v v' := by
  rw [List.getElem?_map] at h1 h2
  cases hl : l[i]? with
  | none => rw [hl] at h1; simp at h1
  | some x =>
    rw [hl] at h1 h2
    simp at h1 h2
    obtain ⟨rfl, rfl⟩ := h1
    obtain ⟨rfl, rfl⟩ := h2
    exact ⟨rfl, h _⟩

theorem opt_ok {φ : List Place} {ρ ρ' : Operand → Value} (h : ∀ x, VR φ (ρ x) (ρ' x)) (x : Option Operand) : ORelV φ (x.map ρ) (x.map ρ') := by
  cases x with
  | none => exact .inl ⟨rfl, rfl⟩
  | some x => exact .inr ⟨_, _, rfl, rfl, h x⟩

theorem aop_ok [Pins] {P : Program} (E : Env P) {φ : List Place} {H H' : AH} {w : World} (R : Rel φ H w) {ρ ρ' : Operand → Value} (hρ : ∀ x, VR φ (ρ x) (ρ' x)) {o : Oper} {v : Value} (h : aop E ρ o.op H = some (v, H')) : OOk P o ρ' φ w v H' := by
  have here : ∀ {v v' : Value}, VR φ v v' → (execOp ρ' o).run P w = .ok (.value v') w → OOk P o ρ' φ w v H := fun hv hr => ⟨φ, _, w, List.prefix_refl _, R, hv, .inl hr⟩
  have sok : ∀ {s : Sem Value} {v : Value} {H' : AH}, SOk P s φ w v H' → execOp ρ' o = (do pure (.value (← s))) → OOk P o ρ' φ w v H' := by
    intro s v H' ⟨φ', v', w', h1, h2, h3, h4⟩ he
    exact ⟨φ', v', w', h1, h2, h3, .inl (by rw [he]; simp [h4])⟩
  unfold aop at h
  split at h <;> rename_i hop
  · cases h; exact here (hρ _) (by simp [execOp, hop])
  · cases h; exact here (hρ _) (by simp [execOp, hop])
  · rename_i c a b
    split at h
    · rename_i hc
      cases h
      have := hρ c; rw [hc] at this
      generalize hcc : ρ' c = cc at this
      cases this
      exact here (hρ _) (by simp [execOp, hop, hcc, asBool])
    · rename_i hc
      cases h
      have := hρ c; rw [hc] at this
      generalize hcc : ρ' c = cc at this
      cases this
      exact here (hρ _) (by simp [execOp, hop, hcc, asBool])
    · cases h
  · rename_i t
    unfold aalloc at h
    split at h
    · rename_i i hi
      split at h
      · rename_i z hz
        cases h
        obtain ⟨φ', w', b, h1, h2, h3, h4⟩ := abox_ok E R t (VR.ext φ z)
        refine ⟨φ', _, w', h1, h2, h3, .inl ?_⟩
        simp [execOp, hop, Instr.alloc, run_zeroValue' E hi hz, h4]
      · cases h
    · cases h
  · rename_i t x
    cases h
    obtain ⟨φ', w', b, h1, h2, h3, h4⟩ := abox_ok E R t (hρ x)
    refine ⟨φ', _, w', h1, h2, h3, .inl ?_⟩
    simp [execOp, hop, Instr.box, h4]
  · rename_i t ps
    obtain ⟨hh, rfl⟩ := pairUp_some h
    replace h := hh
    obtain ⟨v', h1, h2⟩ := abuild_ok E (parts' := ps.toList.map fun x => (x.1, ρ' x.2)) (by simp) (parts_ok hρ ps.toList) h w
    refine here h1 ?_
    have : (ps.map fun (x : Nat × Operand) => (x.1, ρ' x.2)) = ⟨ps.toList.map fun x => (x.1, ρ' x.2)⟩ := by rw [← Array.toList_inj]; simp
    simp only [execOp, hop, Sem.run_bind, this, h2, Result.andThen_ok, Sem.run_pure]
  · rename_i t n ps
    have hs := abuildSlice_ok E R (parts' := ps.toList.map fun x => (x.1, ρ' x.2)) (by simp) (parts_ok hρ ps.toList) h
    have : (ps.map fun (x : Nat × Operand) => (x.1, ρ' x.2)) = ⟨ps.toList.map fun x => (x.1, ρ' x.2)⟩ := by rw [← Array.toList_inj]; simp
    exact sok hs (by simp only [execOp, hop, this])
  · rename_i t x
    split at h
    · rename_i a ha
      obtain ⟨hh, rfl⟩ := pairUp_some h
      replace h := hh
      have := hρ x; rw [ha] at this
      generalize hcc : ρ' x = cc at this
      cases this with
      | ptr hA =>
        obtain ⟨v', h1, h2⟩ := aloadVar_ok E R hA h
        exact here h2 (by simp [execOp, hop, hcc, Instr.loadAt, Instr.sureAddr, h1])
    · cases h
  · rename_i t x y
    split at h
    · rename_i a ha
      split at h
      · rename_i H2 hst
        cases h
        have := hρ x; rw [ha] at this
        generalize hcc : ρ' x = cc at this
        cases this with
        | ptr hA =>
          obtain ⟨w', h1, h2⟩ := astoreVar_ok E R hA (hρ y) hst
          exact ⟨φ, undef, w', List.prefix_refl _, h2, VR.undef φ, .inr ⟨by simp [execOp, hop, hcc, Instr.storeAt, Instr.sureAddr, h1], rfl⟩⟩
      · cases h
    · cases h
  · rename_i x
    split at h
    · rename_i a ha
      cases h
      have := hρ x; rw [ha] at this
      generalize hcc : ρ' x = cc at this
      cases this with
      | ptr hA => exact here (.ptr hA) (by simp [execOp, hop, hcc])
    · rename_i g a b ha
      cases h
      have := hρ x; rw [ha] at this
      generalize hcc : ρ' x = cc at this
      cases this with
      | func fn q1 q2 q3 q4 => exact here (.func _ q1 q2 q3 q4) (by simp [execOp, hop, hcc])
    · cases h
  · rename_i op t x y yt
    obtain ⟨hh, rfl⟩ := pairUp_some h
    replace h := hh
    obtain ⟨v', h1, h2⟩ := abin_ok E (hρ x) (hρ y) h x y w
    refine here h1 ?_
    simp only [execOp, hop]
    rw [Sem.run_bind, h2]; rfl
  · rename_i op t x
    obtain ⟨hh, rfl⟩ := pairUp_some h
    replace h := hh
    obtain ⟨v', h1, h2⟩ := aun_ok (P := P) (hρ x) h w
    exact here h1 (by simp [execOp, hop, h2])
  · rename_i s d x
    exact sok (aconv_ok E R (hρ x) h) (by simp only [execOp, hop])
  · rename_i fn a b
    cases h
    have va := VRs_map hρ a.toList
    have vb := VRs_map hρ b.toList
    refine here (.func fn va.1 vb.1 va.2 vb.2) ?_
    have e1 : a.map ρ' = ⟨a.toList.map ρ'⟩ := by rw [← Array.toList_inj]; simp
    have e2 : b.map ρ' = ⟨b.toList.map ρ'⟩ := by rw [← Array.toList_inj]; simp
    simp only [execOp, hop, Instr.makeFunc, e1, e2, Sem.run_bind, Sem.run_pure, Result.andThen_ok]
  · rename_i t
    cases h
    exact sok (amakeMap_ok R t) (by simp only [execOp, hop, Option.map_none])
  · rename_i t l c
    exact sok (amakeSlice_ok E R (hρ l) (hρ c) h) (by simp only [execOp, hop])
  · rename_i t x lo hi mx
    obtain ⟨hh, rfl⟩ := pairUp_some h
    replace h := hh
    obtain ⟨v', h1, h2⟩ := aslice_ok E R (hρ x) (opt_ok hρ lo) (opt_ok hρ hi) (opt_ok hρ mx) h
    exact here h1 (by simp [execOp, hop, h2])
  · rename_i s x f
    obtain ⟨hh, rfl⟩ := pairUp_some h
    replace h := hh
    obtain ⟨v', h1, h2⟩ := afieldAddr_ok E (hρ x) h w
    exact here h1 (by simp [execOp, hop, h2])
  · rename_i s x f
    obtain ⟨hh, rfl⟩ := pairUp_some h
    replace h := hh
    obtain ⟨v', h1, h2⟩ := afield_ok E (hρ x) h w
    exact here h1 (by simp [execOp, hop, h2])
  · rename_i t x ix
    obtain ⟨hh, rfl⟩ := pairUp_some h
    replace h := hh
    obtain ⟨v', h1, h2⟩ := aindexAddr_ok E (hρ x) (hρ ix) h w
    exact here h1 (by simp [execOp, hop, h2])
  · rename_i t x ix
    obtain ⟨hh, rfl⟩ := pairUp_some h
    replace h := hh
    obtain ⟨v', h1, h2⟩ := aindex_ok E (hρ x) (hρ ix) h w
    exact here h1 (by simp [execOp, hop, h2])
  · rename_i t x ix ok
    obtain ⟨hh, rfl⟩ := pairUp_some h
    replace h := hh
    obtain ⟨v', h1, h2⟩ := alookup2_ok E R (hρ x) (hρ ix) h
    exact here h1 (by simp [execOp, hop, h2])
  · rename_i t m k x
    split at h
    · rename_i H2 hst
      cases h
      obtain ⟨w', h1, h2⟩ := amapUpdate2_ok E R (hρ m) (hρ k) (hρ x) hst
      exact ⟨φ, undef, w', List.prefix_refl _, h1, VR.undef φ, .inr ⟨by simp [execOp, hop, h2], rfl⟩⟩
    · cases h
  · rename_i t m k x
    split at h
    · rename_i H2 hst
      cases h
      obtain ⟨w', h1, h2⟩ := amapUpdate2_ok E R (hρ m) (hρ k) (hρ x) hst
      exact ⟨φ, undef, w', List.prefix_refl _, h1, VR.undef φ, .inr ⟨by simp [execOp, hop, h2], rfl⟩⟩
    · cases h
  · rename_i x i
    obtain ⟨hh, rfl⟩ := pairUp_some h
    replace h := hh
    obtain ⟨v', h1, h2⟩ := aextract_ok (P := P) (hρ x) h w
    exact here h1 (by simp [execOp, hop, h2])
  · rename_i c
    split at h <;> rename_i hcal
    · split at h
      · rename_i x t hargs htys
        obtain ⟨hh, rfl⟩ := pairUp_some h
        replace h := hh
        obtain ⟨v', h1, h2⟩ := alen_ok E R (ty := o.type) (hρ x) h
        have e1 : c.args = #[x] := by rw [← Array.toList_inj, hargs]
        have e2 : c.argTypes = #[t] := by rw [← Array.toList_inj, htys]
        refine here h1 ?_
        simp [execOp, hop, resolve, hcal, invoke, builtin, e1, e2, h2]
      · cases h
    · split at h
      · rename_i x t hargs htys
        obtain ⟨hh, rfl⟩ := pairUp_some h
        replace h := hh
        obtain ⟨v', h1, h2⟩ := acap_ok E R (ty := o.type) (hρ x) h
        have e1 : c.args = #[x] := by rw [← Array.toList_inj, hargs]
        have e2 : c.argTypes = #[t] := by rw [← Array.toList_inj, htys]
        refine here h1 ?_
        simp [execOp, hop, resolve, hcal, invoke, builtin, e1, e2, h2]
      · cases h
    · split at h
      · rename_i s x sT xT hargs htys
        have e1 : c.args = #[s, x] := by rw [← Array.toList_inj, hargs]
        have e2 : c.argTypes = #[sT, xT] := by rw [← Array.toList_inj, htys]
        refine sok (aappend_ok E R o.type (hρ s) (hρ x) h) ?_
        simp [execOp, hop, resolve, hcal, invoke, builtin, e1, e2]
      · cases h
    · split at h
      · rename_i d x dT xT hargs htys
        have e1 : c.args = #[d, x] := by rw [← Array.toList_inj, hargs]
        have e2 : c.argTypes = #[dT, xT] := by rw [← Array.toList_inj, htys]
        refine sok (acopy_ok E R (xT := xT) o.type (hρ d) (hρ x) h) ?_
        simp [execOp, hop, resolve, hcal, invoke, builtin, e1, e2]
      · cases h
    · split at h
      · rename_i x r hargs
        obtain ⟨hh, rfl⟩ := pairUp_some h
        replace h := hh
        obtain ⟨v', h1, h2⟩ := amin_ok (P := P) false (r.map ρ) (r.map ρ') _ _ v (hρ x) (VRs_map hρ r) h w
        refine here h1 ?_
        have e1 : (c.args.map ρ').toList = ρ' x :: r.map ρ' := by simp [hargs]
        simp only [Bool.false_eq_true, if_false] at h2
        simp [execOp, hop, resolve, hcal, invoke, builtin, Builtin.min_, hargs, h2]
      · cases h
    · split at h
      · rename_i x r hargs
        obtain ⟨hh, rfl⟩ := pairUp_some h
        replace h := hh
        obtain ⟨v', h1, h2⟩ := amin_ok (P := P) true (r.map ρ) (r.map ρ') _ _ v (hρ x) (VRs_map hρ r) h w
        refine here h1 ?_
        simp only [if_true] at h2
        simp [execOp, hop, resolve, hcal, invoke, builtin, Builtin.max_, hargs, h2]
      · cases h
    · split at h
      · rename_i x hargs
        obtain ⟨hh, rfl⟩ := pairUp_some h
        replace h := hh
        obtain ⟨v', h1, h2⟩ := asliceData_ok (P := P) (hρ x) h c.argTypes o.type w
        have e1 : c.args = #[x] := by rw [← Array.toList_inj, hargs]
        refine here h1 ?_
        simp [execOp, hop, resolve, hcal, invoke, builtin, e1, h2]
      · cases h
    · split at h
      · rename_i x y pt it hargs htys
        have e1 : c.args = #[x, y] := by rw [← Array.toList_inj, hargs]
        have e2 : c.argTypes = #[pt, it] := by rw [← Array.toList_inj, htys]
        refine sok (austring_ok E R (it := it) (ty := o.type) (hρ x) (hρ y) h) ?_
        simp [execOp, hop, resolve, hcal, invoke, builtin, e1, e2]
      · cases h
    · rename_i x
      split at h
      · rename_i g hx
        obtain ⟨hh, rfl⟩ := pairUp_some h
        have hvx := hρ x
        rw [hx] at hvx
        generalize hcc : ρ' x = cc at hvx
        cases hvx with
        | func fn' q1 q2 q3 q4 =>
          rename_i a' b'
          obtain ⟨_, r1, r2⟩ := aext_ok (VRs_map hρ c.args.toList) hh w
          refine here r1 ?_
          have e1 : c.args.map ρ' = ⟨c.args.toList.map ρ'⟩ := by rw [← Array.toList_inj]; simp
          have ea : a' = [] := List.eq_nil_of_length_eq_zero q1.symm
          have eb : b' = [] := List.eq_nil_of_length_eq_zero q2.symm
          subst ea; subst eb
          simp [execOp, hop, resolve, hcal, hcc, Deferred.ofValue, invoke, e1, r2]
      · cases h
    · cases h
  · cases h
end Go.AM
