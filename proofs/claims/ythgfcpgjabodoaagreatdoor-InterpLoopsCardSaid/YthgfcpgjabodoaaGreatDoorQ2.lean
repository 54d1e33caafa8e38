/-
  print, as an outcome of a run.
-/
import Derived.Test.YthgfcpgjabodoaaGreatDoorM4
import Derived.Test.YthgfcpgjabodoaaGreatDoorAb9
import Derived.Test.YthgfcpgjabodoaaGreatDoorAb8
import Derived.Test.YthgfcpgjabodoaaGreatDoorL5
import Derived.Test.YthgfcpgjabodoaaGreatDoorW5
set_option linter.unusedVariables false
set_option linter.unusedSimpArgs false
set_option linter.unusedSectionVars false
set_option maxRecDepth 100000
namespace Go.Proofs.YthgfcpgjabodoaaGreatDoor
open Go Go.AM
/-- what is to be shown of a printing: of which values the row R is -/
def PrOb (lv rs : List Value) (m n : Nat) (X : List Value) (z : Nat) : Prop := ∃ its : List It, rnL (aR lv) id rs = its.flatMap It.cs ∧ (∀ y ∈ its, y.ok) ∧ its.length = m ∧ m ≤ 16384 ∧ m ≠ 0 ∧ (ot its).length < 16384 ∧ X = (ot its ++ [10]).map aN ∧ n = (ot its ++ [10]).length ∧ z = zH its
theorem dF (ρ : Nat → Value) (ι : Nat → Nat) : ∀ l : List UInt8, rnL ρ ι (l.map aN) = l.map aN
 | [] => by rw [List.map_nil, rnL]
 | b :: l => by rw [List.map_cons, rnL, dF ρ ι l, aN, rn]
/-- print, as an outcome: the first that is printed -/
noncomputable def xQ (lv : List Value) (n : Nat) (X : List Value) (z : Nat) : cE := fun g args H => bif Nat.beq g 212 then (match args with
 | [.pointer (some ⟨a, 0, none⟩), .slice (some ⟨b, 0, none⟩) m cap] => (match H.tr.get (a / 2), H.tr.get (b / 2) with
  | some (.cells [x0, x1, x2, x3, x4, x5, x6, x7, x8, x9, x10, .slice none 0 0, x12, x13, x14, x15, x16, x17, x18, x19, x20] ts true), some (.cells rs sz ex) =>
   bif Nat.beq ts 1099511627854 && (Nat.beq (a % 2) 1 && (Nat.beq (b % 2) 1 && (Nat.blt (a / 2) H.nx && (Nat.blt (b / 2) H.nx && (!(Nat.beq (a / 2) (b / 2)) && kB H))))) then
    some (.int .i64 0, ⟨H.w0, H.nx + 1, pV [(H.nx, .cells X z false), (a / 2, .cells [x0, x1, x2, x3, x4, x5, x6, x7, x8, x9, x10, .slice (some ⟨2 * H.nx + 1, 0, none⟩) n n, x12, x13, x14, x15, x16, x17, x18, x19, x20] 1099511627854 true)] H.tr⟩, [Tab ⟨H.w0, 0, .nil⟩, PrOb lv rs m n X z]) else none
  | _, _ => none)
 | _ => none) else none
set_option maxHeartbeats 4000000 in
theorem uM {lv : List Value} {hv : lv.all lV = true} {n : Nat} {X : List Value} {z : Nat} : bY (σ := sgL lv hv) Tryz.prog (xQ lv n X z) := by
 intro g args H v H' L h hL
 unfold xQ at h
 cases hg : Nat.beq g 212 with
 | false => rw [hg] at h; cases h
 | true =>
  rw [hg, cond_true] at h
  obtain rfl := Nat.eq_of_beq_eq_true hg
  split at h
  ·rename_i a b m cap
   split at h
   ·rename_i x0 x1 x2 x3 x4 x5 x6 x7 x8 x9 x10 x12 x13 x14 x15 x16 x17 x18 x19 x20 ts rs sz ex hK hR
    cases hc : (Nat.beq ts 1099511627854 && (Nat.beq (a % 2) 1 && (Nat.beq (b % 2) 1 && (Nat.blt (a / 2) H.nx && (Nat.blt (b / 2) H.nx && (!(Nat.beq (a / 2) (b / 2)) && kB H)))))) with
    | false => rw [hc] at h; cases h
    | true =>
     rw [hc, cond_true] at h
     cases h
     simp only [Bool.and_eq_true, Bool.not_eq_true'] at hc
     obtain ⟨c0, c1, c2, c3, c4, c5, c6⟩ := hc
     obtain rfl := Nat.eq_of_beq_eq_true c0
     have c1 := Nat.eq_of_beq_eq_true c1
     have c2 := Nat.eq_of_beq_eq_true c2
     have c3 : a / 2 < H.nx := Nat.le_of_ble_eq_true c3
     have c4 : b / 2 < H.nx := Nat.le_of_ble_eq_true c4
     have c5 : a / 2 ≠ b / 2 := fun e => by rw [e, Nat.beq_refl] at c5; cases c5
     obtain ⟨i, rfl⟩ : ∃ i, a = 2 * i + 1 := ⟨a / 2, by omega⟩
     obtain ⟨j, rfl⟩ : ∃ j, b = 2 * j + 1 := ⟨b / 2, by omega⟩
     rw [cR] at hK hR c3 c4 c5
     have hT : Tab H := hL _ (List.Mem.head _)
     obtain ⟨its, p1, p2, p3, p4, p5, p6, rfl, rfl, rfl⟩ : PrOb lv rs m n X z := hL _ (List.Mem.tail _ (List.Mem.head _))
     refine ⟨rfl, ?_⟩
     have hone : ot its ++ [10] ≠ [] := by simp
     have hKi := iK (ρ := aR lv) hK
     have hRi := iK (ρ := aR lv) hR
     simp only [rnO] at hKi hRi
     rw [p1] at hRi
     have hKi2 : (kU (aR lv) H).tr.get i = some (.cells [rn (aR lv) id x0, rn (aR lv) id x1, rn (aR lv) id x2, rn (aR lv) id x3, rn (aR lv) id x4, rn (aR lv) id x5, rn (aR lv) id x6, rn (aR lv) id x7, rn (aR lv) id x8, rn (aR lv) id x9, rn (aR lv) id x10, .slice none 0 0, rn (aR lv) id x12, rn (aR lv) id x13, rn (aR lv) id x14, rn (aR lv) id x15, rn (aR lv) id x16, rn (aR lv) id x17, rn (aR lv) id x18, rn (aR lv) id x19, rn (aR lv) id x20] 1099511627854 true) := hKi.trans (by simp only [rnL, rn])
     rw [cR, cR] at *
     refine ACalls.turn (σ0 := sgL lv hv) (σ := noSg) (Li := [(i, .cells [x0, x1, x2, x3, x4, x5, x6, x7, x8, x9, x10, .slice none 0 0, x12, x13, x14, x15, x16, x17, x18, x19, x20] 1099511627854 true)]) (Lo := [(H.nx, .cells ((ot its ++ [10]).map aN) (zH its) false), (i, .cells [x0, x1, x2, x3, x4, x5, x6, x7, x8, x9, x10, .slice (some ⟨2 * H.nx + 1, 0, none⟩) (ot its ++ [10]).length (ot its ++ [10]).length, x12, x13, x14, x15, x16, x17, x18, x19, x20] 1099511627854 true)]) (m := 1) (aR lv) (Fits.plain (fA hv)) (fun p hp => by rcases List.mem_singleton.1 hp with rfl; exact c3) (fun p hp => ?_) (fun p hp => ?_) c6 ?_
     ·rcases List.mem_cons.1 hp with rfl | hp
      ·exact Nat.lt_succ_self _
      ·rcases List.mem_singleton.1 hp with rfl; exact Nat.lt_succ_of_lt c3
     ·rcases List.mem_singleton.1 hp with rfl; exact ⟨_, List.Mem.tail _ (List.Mem.head _), rfl⟩
     ·have hp := aKo (S := kU (aR lv) H) (K := i) (M := 0) (z := 1) (R := j) (m := its.length) (cap := cap) (sz := sz) (ex := ex) (bs := []) (its := its) (x := fun k => ([rn (aR lv) id x0, rn (aR lv) id x1, rn (aR lv) id x2, rn (aR lv) id x3, rn (aR lv) id x4, rn (aR lv) id x5, rn (aR lv) id x6, rn (aR lv) id x7, rn (aR lv) id x8, rn (aR lv) id x9, rn (aR lv) id x10, .slice none 0 0, rn (aR lv) id x12, rn (aR lv) id x13, rn (aR lv) id x14, rn (aR lv) id x15, rn (aR lv) id x16, rn (aR lv) id x17, rn (aR lv) id x18, rn (aR lv) id x19, rn (aR lv) id x20][k]?).getD (.slice none 0 0)) hT p2 rfl (by omega) (by omega) (.inl rfl) (by rw [List.nil_append]; exact p6) (fun p hp => by rcases List.mem_singleton.1 hp with rfl; exact ⟨hKi2, c3⟩) (List.pairwise_singleton _ _) hRi c4 (fun ⟨p, hp, e⟩ => by rcases List.mem_singleton.1 hp with rfl; exact c5 e)
      subst p3
      have ea : rnL (aR lv) id [.pointer (some ⟨2 * i + 1, 0, none⟩), .slice (some ⟨2 * j + 1, 0, none⟩) its.length cap] = [.pointer (some ⟨2 * i + 1, 0, none⟩), .slice (some ⟨2 * j + 1, 0, none⟩) its.length cap] := by rw [rnL, rn, pW, rnL, rn, pW, rnL]
      rw [ea]
      refine hp.mono ?_
      rintro u K kw ⟨Lo, hTu, rfl, M2, hLo⟩
      rw [List.nil_append, cN hone, eU hone] at hLo
      subst hLo
      obtain ⟨o1, o2, o3⟩ := hTu.out _ (List.Mem.head _)
      obtain ⟨o4, o5, _⟩ := hTu.out _ (List.Mem.tail _ (List.Mem.head _))
      have hne : M2 ≠ i := (List.pairwise_cons.1 hTu.dist).1 _ (List.Mem.head _)
      have hM : H.nx ≤ M2 := by
       rcases o3 with ⟨p, hp, e⟩ | o3
       ·rcases List.mem_singleton.1 hp with rfl; exact absurd e.symm hne
       ·exact o3
      have e1 : fI H.nx [M2] K.nx H.nx = M2 := by rw [eN (Nat.le_refl _), Nat.sub_self]; rfl
      refine ⟨[M2], rfl, (fun k hk => by rcases List.mem_singleton.1 hk with rfl; exact ⟨hM, o2⟩), List.nodup_cons.2 ⟨(fun h => by cases h), List.nodup_nil⟩, Nat.le_trans hM (Nat.le_of_lt o2), fun k hk hn => hTu.get k hk (fun ⟨p, hp, e⟩ => hn ⟨_, List.Mem.head _, by rcases List.mem_singleton.1 hp with rfl; exact e⟩), fun p hp => ?_, by rw [rn]⟩
      obtain ⟨p0, hp0, rfl⟩ := List.mem_map.1 hp
      rcases List.mem_cons.1 hp0 with rfl | hp0
      ·show K.tr.get (fI H.nx [M2] K.nx H.nx) = some (rnO _ _ (.cells _ _ _))
       rw [e1, rnO, dF]; exact o1
      ·rcases List.mem_singleton.1 hp0 with rfl
       show K.tr.get (fI H.nx [M2] K.nx i) = some (rnO _ _ (.cells _ _ _))
       have hsc := wG (ρ := aR lv) (fun k hk => cY (κ := [M2]) (B := K.nx) hk) _ (yL c6 c3 hK)
       simp only [rnO, rnL, AObj.cells.injEq, List.cons.injEq, and_true] at hsc
       have e2 : rn (aR lv) (fI H.nx [M2] K.nx) (.slice (some ⟨2 * H.nx + 1, 0, none⟩) (ot its ++ [10]).length (ot its ++ [10]).length) = .slice (some ⟨2 * M2 + 1, 0, none⟩) (ot its ++ [10]).length (ot its ++ [10]).length := by
        rw [rn, nW (by show (2 * H.nx + 1) % 2 = 1; omega)]
        show Value.slice (some ⟨2 * fI H.nx [M2] K.nx ((2 * H.nx + 1) / 2) + 1, 0, none⟩) _ _ = _
        rw [cR, e1]
       rw [cY c3]
       simp only [rnO, rnL, e2, hsc]
       exact o4
   ·cases h
  ·cases h
end Go.Proofs.YthgfcpgjabodoaaGreatDoor
namespace Go.Proofs.YthgfcpgjabodoaaGreatDoor
open Go Go.AM
/-- a run that needs no heap, as a call that keeps all -/
theorem XCall.run0 {lv : List Value} {hv : lv.all lV = true} {cc : cE} (hcc : bY (σ := sgL lv hv) Tryz.prog cc) {g : FuncId} {args0 args : List Value} {n1 : Nat} {v0 v : Value} {S : AH}
 (run : ∀ w0 : World, kJ [] (cc g args0 ⟨w0, 0, .nil⟩) = some (v0, n1, [], [])) (ha : args = rnL (aR lv) (fJ [] S.nx) args0) (hv0 : rn (aR lv) (fJ [] S.nx) v0 = v) :
 XCall (σ := noSg) Tryz.prog g args S fun u H' => u = v ∧ Kept S.nx S H' :=
 (XCall.frame (σ0 := sgL lv hv) (σ := noSg) (Li := []) (ids := []) (os0 := []) (os1 := []) (js := []) (L := []) (aR lv) (Fits.plain (fA hv)) hcc (run S.w0) (fun p hp => by cases hp) (fun p hp => by cases hp) List.Pairwise.nil rfl rfl ha (Nat.zero_le _) List.nodup_nil).mono fun u H' _ h => ⟨h.1.trans hv0, h.2.2.1 rfl⟩
def rxE (b : Bool) : List OE := [⟨.neq, .chan (some 1), .int .i64 0, .bool b⟩, ⟨.lss, .chan (some 1), .int .i64 0, .bool false⟩, ⟨.gtr, .chan (some 1), .int .i64 4611686018427387904, .bool false⟩]
theorem rx_b {S : AH} {n p : Int} (b : Bool) (hb : b = decide (n ≠ 0)) (h0 : 0 ≤ n) (h1 : n ≤ 4611686018427387904) : XCall Tryz.prog 139 [.agg ⟨[.int .i64 1, .string ⟨#[]⟩, .int .i64 n, .slice none 0 0, .slice none 0 0, .int .i64 p]⟩] S fun u K => u = .bool true ∧ Kept S.nx S K := by
 have hl : ∀ e ∈ rxE b, @OE.Ok (sgL [.int .i64 n, .int .i64 p] rfl) Tryz.prog E e := by
  intro e he
  simp only [rxE, List.mem_cons, List.not_mem_nil, or_false] at he
  rcases he with rfl | rfl | rfl
  ·refine ⟨rfl, rfl, rfl, fun t => ?_⟩
   subst hb
   by_cases h : n = 0
   ·subst h; exact eV rfl
   ·rw [decide_eq_true h]; exact gJ h
  ·exact ⟨rfl, rfl, rfl, fun t => aS (by omega)⟩
  ·exact ⟨rfl, rfl, rfl, fun t => aY (by omega)⟩
 have hu : ∀ e ∈ ([] : List OU), @OU.Ok (sgL [.int .i64 n, .int .i64 p] rfl) e := fun e he => by cases he
 cases b with
 | false => exact XCall.run0 (lv := [.int .i64 n, .int .i64 p]) (hv := rfl) (cB (σ := sgL [.int .i64 n, .int .i64 p] rfl) (fS E [.int .i64 n, .int .i64 p] rfl (rxE false) [] hl hu) (@gA (sgL [.int .i64 n, .int .i64 p] rfl)) (@dV (sgL [.int .i64 n, .int .i64 p] rfl) jX (@eJ (sgL [.int .i64 n, .int .i64 p] rfl))) (dS (σ := sgL [.int .i64 n, .int .i64 p] rfl) _) mixed 200) (args0 := [.agg ⟨[.int .i64 1, .string ⟨#[]⟩, .chan (some 1), .slice none 0 0, .slice none 0 0, .chan (some 3)]⟩]) (n1 := 2) (v0 := .bool true) (fun w0 => by kernel_rfl) (by kernel_rfl) rfl
 | true => exact XCall.run0 (lv := [.int .i64 n, .int .i64 p]) (hv := rfl) (cB (σ := sgL [.int .i64 n, .int .i64 p] rfl) (fS E [.int .i64 n, .int .i64 p] rfl (rxE true) [] hl hu) (@gA (sgL [.int .i64 n, .int .i64 p] rfl)) (@dV (sgL [.int .i64 n, .int .i64 p] rfl) jX (@eJ (sgL [.int .i64 n, .int .i64 p] rfl))) (dS (σ := sgL [.int .i64 n, .int .i64 p] rfl) _) mixed 200) (args0 := [.agg ⟨[.int .i64 1, .string ⟨#[]⟩, .chan (some 1), .slice none 0 0, .slice none 0 0, .chan (some 3)]⟩]) (n1 := 2) (v0 := .bool true) (fun w0 => by kernel_rfl) (by kernel_rfl) rfl
theorem jA {S : AH} {n p : Int} (h0 : 0 ≤ n) (h1 : n ≤ 4611686018427387904) : XCall Tryz.prog 139 [.agg ⟨[.int .i64 1, .string ⟨#[]⟩, .int .i64 n, .slice none 0 0, .slice none 0 0, .int .i64 p]⟩] S fun u K => u = .bool true ∧ Kept S.nx S K := rx_b _ rfl h0 h1
end Go.Proofs.YthgfcpgjabodoaaGreatDoor
namespace Go.Proofs.YthgfcpgjabodoaaGreatDoor
open Go Go.AM
theorem fW {P : Program} {σ : Sg} {a b : cE} (ha : bY (σ := σ) P a) (hb : bY (σ := σ) P b) : bY (σ := σ) P (dO a b) := by
 intro g args H v H' L h hL
 unfold dO at h
 split at h
 ·rename_i r hr; cases h; exact ha _ _ _ _ _ _ hr hL
 ·exact hb _ _ _ _ _ _ h hL
theorem CE.mk_ok {lv : List Value} {e : CE} {args : List Value} {v : Value} (ha : rnL (aR lv) id e.as = args) (hv : rn (aR lv) id e.v = v) (hi : ∀ ι, rn (aR lv) ι e.v = rn (aR lv) id e.v) (h : ∀ S : AH, XCall (σ := noSg) Tryz.prog e.g args S fun u K => u = v ∧ Kept S.nx S K) : e.Ok Tryz.prog (aR lv) :=
 ⟨fun S => by rw [ha, hv]; exact h S, hi⟩
/-- the tokens of a script, as an outcome -/
theorem NE.tok_ok {lv : List Value} {p0 : Value} {s : ByteArray} {ts : List Tk} {cells : List Value} {k : Nat} (hp : rnL (aR lv) id [p0] = [.string s]) (hk : ts.length + 1 = k) (hc : rnL (aR lv) id cells = ts.flatMap aFc ++ [.int .i64 0, .string ⟨#[]⟩, .int .i64 ((s.data.toList.length : Nat) : Int)]) (hi : ∀ ι, rnL (aR lv) ι cells = rnL (aR lv) id cells)
 (hs : s.data.toList.length ≤ 16384) (hn : ts.length ≤ 4000) (h : TokL s 0 ts) : NE.Ok Tryz.prog (aR lv) ⟨46, [p0], k, [.int .i64 0, .int .i64 0], .cells cells 3 false⟩ := by
 subst hk
 refine ⟨fun S => ?_, fun ι => ?_, fun ι => ?_⟩
 ·show XCall (σ := noSg) Tryz.prog 46 (rnL (aR lv) id [p0]) S _
  rw [hp]
  refine (aCq hs hn h).mono ?_
  rintro u K _ ⟨N, q1, q2, q3, q4, rfl⟩
  refine ⟨N, q1, q2, q3, ?_, ?_⟩
  ·rw [q4]
   show _ = some (rnO (aR lv) id (.cells cells 3 false))
   rw [rnO, hc]
  ·show _ = Value.tuple ⟨_ :: rnL (aR lv) id [.int .i64 0, .int .i64 0]⟩
   rw [rnL, rn, rnL, rn, rnL]
 ·show rnO (aR lv) ι (.cells cells 3 false) = rnO (aR lv) id (.cells cells 3 false)
  rw [rnO, rnO, hi]
 ·show rnL (aR lv) ι [.int .i64 0, .int .i64 0] = rnL (aR lv) id [.int .i64 0, .int .i64 0]
  rw [rnL, rn, rnL, rn, rnL, rnL, rn, rnL, rn, rnL]
theorem It.txt_le {y : It} (h : y.ok) : y.txt.length ≤ 21 := by
 cases y with
 | num i =>
  show (Lib.itoa i).length ≤ 21
  obtain ⟨h0, h1⟩ := h
  unfold Lib.itoa
  split
  ·rw [List.length_cons, Lib.decDigits_length]
   have := aPl (u := i.natAbs) (by omega)
   omega
  ·rw [Lib.decDigits_length]
   have := aPl (u := i.toNat) (by omega)
   omega
 | tru b => cases b <;> simp [It.txt, shB]
theorem ot_le {l : List It} (h : ∀ y ∈ l, y.ok) : (ot l).length ≤ 22 * l.length := by
 cases l with
 | nil => simp [ot]
 | cons x r =>
  have key : ∀ r : List It, (∀ y ∈ r, y.ok) → (r.flatMap fun y => 32 :: y.txt).length ≤ 22 * r.length := by
   intro r
   induction r with
   | nil => intro _; simp
   | cons y r ih =>
    intro h
    rw [List.flatMap_cons, List.length_append, List.length_cons, List.length_cons]
    have := ih fun z hz => h z (List.mem_cons_of_mem _ hz)
    have := It.txt_le (h y (List.mem_cons_self ..))
    omega
  rw [ot, List.length_append, List.length_cons]
  have := key r fun z hz => h z (List.mem_cons_of_mem _ hz)
  have := It.txt_le (h x (List.mem_cons_self ..))
  omega
theorem PrOb.mk_ok {lv rs : List Value} {m : Nat} (its : List It) (h1 : rnL (aR lv) id rs = its.flatMap It.cs) (h2 : ∀ y ∈ its, y.ok) (h3 : its.length = m) (h4 : m ≤ 700) (h5 : m ≠ 0) : PrOb lv rs m (ot its ++ [10]).length ((ot its ++ [10]).map aN) (zH its) :=
 ⟨its, h1, h2, h3, by omega, h5, by have := ot_le h2; omega, rfl, rfl, rfl⟩
theorem yJ {lv : List Value} {hv : lv.all lV = true} {a b c d : Nat} {s t : ByteArray} {m n : Int} (h1 : aR lv a = .string s) (h2 : aR lv b = .int .i64 m) (h3 : s.size ≤ 100) (h4 : Lib.atoiAll s.data.toList = .ok m) (k1 : aR lv c = .string t) (k2 : aR lv d = .int .i64 n) (k3 : t.size ≤ 100) (k4 : Lib.atoiAll t.data.toList = .ok n) :
 ∀ k j, (fun k => bif Nat.beq k a then some b else bif Nat.beq k c then some d else none) k = some j → ∃ s n, Sg.at (sgL lv hv) k = .string s ∧ Sg.at (sgL lv hv) j = .int .i64 n ∧ s.size ≤ 100 ∧ Lib.atoiAll s.data.toList = .ok n := by
 intro k j h
 cases e1 : Nat.beq k a with
 | true =>
  simp only [e1, cond_true, Option.some.injEq] at h
  obtain rfl := Nat.eq_of_beq_eq_true e1
  subst h
  exact ⟨s, m, h1, h2, h3, h4⟩
 | false =>
  simp only [e1, cond_false] at h
  cases e2 : Nat.beq k c with
  | true =>
   simp only [e2, cond_true, Option.some.injEq] at h
   obtain rfl := Nat.eq_of_beq_eq_true e2
   subst h
   exact ⟨t, n, k1, k2, k3, k4⟩
  | false => simp only [e2, cond_false] at h; cases h
end Go.Proofs.YthgfcpgjabodoaaGreatDoor
