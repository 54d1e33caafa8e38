/-
  print, as an outcome of a run: behind what was printed before.
-/
import Derived.Test.YthgfcpgjabodoaaGreatDoorM4
import Derived.Test.YthgfcpgjabodoaaGreatDoorQ2
import Derived.Test.YthgfcpgjabodoaaGreatDoorAb9
set_option linter.unusedVariables false
set_option linter.unusedSimpArgs false
set_option linter.unusedSectionVars false
set_option maxRecDepth 100000
namespace Go.Proofs.YthgfcpgjabodoaaGreatDoor
open Go Go.AM
/-- what is to be shown of a printing behind others: what the machine's row is, of which values the row R is -/
def kF (lv : List Value) (row : AObj) (lo co : Nat) (rs : List Value) (m n : Nat) (X : List Value) (z : Nat) : Prop := ∃ (bs : List UInt8) (its : List It) (z0 : Nat), bs ≠ [] ∧ row = .cells (bs.map aN) z0 false ∧ lo = bs.length ∧ co = bs.length ∧ Bz z0 ∧ rnL (aR lv) id rs = its.flatMap It.cs ∧ (∀ y ∈ its, y.ok) ∧ its.length = m ∧ m ≤ 16384 ∧ m ≠ 0 ∧ (bs ++ ot its).length < 16384 ∧ X = (bs ++ ot its ++ [10]).map aN ∧ n = (bs ++ ot its ++ [10]).length ∧ z = 1
/-- print, as an outcome: behind what was printed before -/
noncomputable def oM (lv : List Value) (n : Nat) (X : List Value) (z : Nat) : cE := fun g args H => bif Nat.beq g 212 then (match args with
 | [.pointer (some ⟨a, 0, none⟩), .slice (some ⟨b, 0, none⟩) m cap] => (match H.tr.get (a / 2), H.tr.get (b / 2) with
  | some (.cells [x0, x1, x2, x3, x4, x5, x6, x7, x8, x9, x10, .slice (some ⟨c, 0, none⟩) lo co, x12, x13, x14, x15, x16, x17, x18, x19, x20] ts true), some (.cells rs sz ex) => (match H.tr.get (c / 2) with
   | some row => bif Nat.beq ts 1099511627854 && (Nat.beq (a % 2) 1 && (Nat.beq (b % 2) 1 && (Nat.beq (c % 2) 1 && (Nat.blt (a / 2) H.nx && (Nat.blt (b / 2) H.nx && (Nat.blt (c / 2) H.nx && (!(Nat.beq (a / 2) (b / 2)) && (!(Nat.beq (a / 2) (c / 2)) && (!(Nat.beq (b / 2) (c / 2)) && aFh (c / 2) H))))))))) then
    some (.int .i64 0, ⟨H.w0, H.nx + 1, pV [(H.nx, .cells X z false), (a / 2, .cells [x0, x1, x2, x3, x4, x5, x6, x7, x8, x9, x10, .slice (some ⟨2 * H.nx + 1, 0, none⟩) n n, x12, x13, x14, x15, x16, x17, x18, x19, x20] 1099511627854 true)] (aDj [c / 2] H.tr)⟩, [Tab ⟨H.w0, 0, .nil⟩, kF lv row lo co rs m n X z]) else none
   | none => none)
  | _, _ => none)
 | _ => none) else none
set_option maxHeartbeats 4000000 in
theorem qQ {lv : List Value} {hv : lv.all lV = true} {n : Nat} {X : List Value} {z : Nat} : bY (σ := sgL lv hv) Tryz.prog (oM lv n X z) := by
 intro g args H v H' L h hL
 unfold oM at h
 cases hg : Nat.beq g 212 with
 | false => rw [hg] at h; cases h
 | true =>
  rw [hg, cond_true] at h
  obtain rfl := Nat.eq_of_beq_eq_true hg
  split at h
  ·rename_i a b m cap
   split at h
   ·rename_i x0 x1 x2 x3 x4 x5 x6 x7 x8 x9 x10 c lo co x12 x13 x14 x15 x16 x17 x18 x19 x20 ts rs sz ex hK hR
    split at h
    ·rename_i row hC
     cases hc : (Nat.beq ts 1099511627854 && (Nat.beq (a % 2) 1 && (Nat.beq (b % 2) 1 && (Nat.beq (c % 2) 1 && (Nat.blt (a / 2) H.nx && (Nat.blt (b / 2) H.nx && (Nat.blt (c / 2) H.nx && (!(Nat.beq (a / 2) (b / 2)) && (!(Nat.beq (a / 2) (c / 2)) && (!(Nat.beq (b / 2) (c / 2)) && aFh (c / 2) H)))))))))) with
     | false => rw [hc] at h; cases h
     | true =>
      rw [hc, cond_true] at h
      cases h
      simp only [Bool.and_eq_true, Bool.not_eq_true'] at hc
      obtain ⟨c0, c1, c2, d2, c3, c4, d4, c5, d5, e5, c6⟩ := hc
      obtain rfl := Nat.eq_of_beq_eq_true c0
      have c1 := Nat.eq_of_beq_eq_true c1
      have c2 := Nat.eq_of_beq_eq_true c2
      have d2 := Nat.eq_of_beq_eq_true d2
      have c3 : a / 2 < H.nx := Nat.le_of_ble_eq_true c3
      have c4 : b / 2 < H.nx := Nat.le_of_ble_eq_true c4
      have d4 : c / 2 < H.nx := Nat.le_of_ble_eq_true d4
      have c5 : a / 2 ≠ b / 2 := fun e => by rw [e, Nat.beq_refl] at c5; cases c5
      have d5 : a / 2 ≠ c / 2 := fun e => by rw [e, Nat.beq_refl] at d5; cases d5
      have e5 : b / 2 ≠ c / 2 := fun e => by rw [e, Nat.beq_refl] at e5; cases e5
      obtain ⟨i, rfl⟩ : ∃ i, a = 2 * i + 1 := ⟨a / 2, by omega⟩
      obtain ⟨j, rfl⟩ : ∃ j, b = 2 * j + 1 := ⟨b / 2, by omega⟩
      obtain ⟨r, rfl⟩ : ∃ r, c = 2 * r + 1 := ⟨c / 2, by omega⟩
      rw [cR] at hK hR hC c3 c4 d4
      rw [cR, cR] at c5 d5 e5
      rw [cR] at c6
      have hT : Tab H := hL _ (List.Mem.head _)
      obtain ⟨bs, its, z0, hne0, rfl, rfl, rfl, hz0, p1, p2, p3, p4, p5, p6, rfl, rfl, rfl⟩ : kF lv row lo co rs m n X z := hL _ (List.Mem.tail _ (List.Mem.head _))
      refine ⟨rfl, ?_⟩
      have hone : bs ++ ot its ++ [10] ≠ [] := by simp
      have hKi := iK (ρ := aR lv) hK
      have hRi := iK (ρ := aR lv) hR
      have hCi := iK (ρ := aR lv) hC
      simp only [rnO] at hKi hRi hCi
      rw [p1] at hRi
      rw [dF] at hCi
      have hKi2 : (kU (aR lv) H).tr.get i = some (.cells [rn (aR lv) id x0, rn (aR lv) id x1, rn (aR lv) id x2, rn (aR lv) id x3, rn (aR lv) id x4, rn (aR lv) id x5, rn (aR lv) id x6, rn (aR lv) id x7, rn (aR lv) id x8, rn (aR lv) id x9, rn (aR lv) id x10, .slice (some ⟨2 * r + 1, 0, none⟩) bs.length bs.length, rn (aR lv) id x12, rn (aR lv) id x13, rn (aR lv) id x14, rn (aR lv) id x15, rn (aR lv) id x16, rn (aR lv) id x17, rn (aR lv) id x18, rn (aR lv) id x19, rn (aR lv) id x20] 1099511627854 true) := hKi.trans (by simp only [rnL, rn, pW])
      simp only [cR]
      refine ACalls.turnD (σ0 := sgL lv hv) (σ := noSg) (D := [r]) (Li := [(i, .cells [x0, x1, x2, x3, x4, x5, x6, x7, x8, x9, x10, .slice (some ⟨2 * r + 1, 0, none⟩) bs.length bs.length, x12, x13, x14, x15, x16, x17, x18, x19, x20] 1099511627854 true), (r, .cells (bs.map aN) z0 false)]) (Lo := [(H.nx, .cells ((bs ++ ot its ++ [10]).map aN) 1 false), (i, .cells [x0, x1, x2, x3, x4, x5, x6, x7, x8, x9, x10, .slice (some ⟨2 * H.nx + 1, 0, none⟩) (bs ++ ot its ++ [10]).length (bs ++ ot its ++ [10]).length, x12, x13, x14, x15, x16, x17, x18, x19, x20] 1099511627854 true)]) (m := 1) (aR lv) (Fits.plain (fA hv)) (fun p hp => ?_) (fun p hp => ?_) (fun k o hk hkn ho => yM c6 (fun e => hk (by rw [e]; exact List.Mem.head _)) hkn ho) ?_
      ·rcases List.mem_cons.1 hp with rfl | hp
       ·exact Nat.lt_succ_self _
       ·rcases List.mem_singleton.1 hp with rfl; exact Nat.lt_succ_of_lt c3
      ·rcases List.mem_cons.1 hp with rfl | hp
       ·exact .inr ⟨_, List.Mem.tail _ (List.Mem.head _), rfl⟩
       ·rcases List.mem_singleton.1 hp with rfl; exact .inl (List.Mem.head _)
      ·have hbro : bro r z0 bs = [(r, .cells (bs.map aN) z0 false)] := cN hne0
       have hbsv : bsv r bs = .slice (some ⟨2 * r + 1, 0, none⟩) bs.length bs.length := eU hne0
       have hp := aHv (S := kU (aR lv) H) (K := i) (M := r) (z := z0) (R := j) (m := its.length) (cap := cap) (sz := sz) (ex := ex) (bs := bs) (its := its) (x := fun k => ([rn (aR lv) id x0, rn (aR lv) id x1, rn (aR lv) id x2, rn (aR lv) id x3, rn (aR lv) id x4, rn (aR lv) id x5, rn (aR lv) id x6, rn (aR lv) id x7, rn (aR lv) id x8, rn (aR lv) id x9, rn (aR lv) id x10, .slice none 0 0, rn (aR lv) id x12, rn (aR lv) id x13, rn (aR lv) id x14, rn (aR lv) id x15, rn (aR lv) id x16, rn (aR lv) id x17, rn (aR lv) id x18, rn (aR lv) id x19, rn (aR lv) id x20][k]?).getD (.slice none 0 0)) hT p2 rfl (by omega) (by omega) hz0 p6
        (fun p hp => by
         rw [hbro, hbsv] at hp
         rcases List.mem_cons.1 hp with rfl | hp
         ·exact ⟨hKi2, c3⟩
         ·rcases List.mem_singleton.1 hp with rfl; exact ⟨hCi, d4⟩)
        (by rw [hbro]; exact List.pairwise_cons.2 ⟨fun p hp => by rcases List.mem_singleton.1 hp with rfl; exact d5, List.pairwise_singleton _ _⟩) hRi c4
        (fun ⟨p, hp, e⟩ => by
         rw [hbro] at hp
         rcases List.mem_cons.1 hp with rfl | hp
         ·exact c5 e
         ·rcases List.mem_singleton.1 hp with rfl; exact e5 e.symm)
       subst p3
       have ea : rnL (aR lv) id [.pointer (some ⟨2 * i + 1, 0, none⟩), .slice (some ⟨2 * j + 1, 0, none⟩) its.length cap] = [.pointer (some ⟨2 * i + 1, 0, none⟩), .slice (some ⟨2 * j + 1, 0, none⟩) its.length cap] := by rw [rnL, rn, pW, rnL, rn, pW, rnL]
       rw [ea]
       refine hp.mono ?_
       rintro u K kw ⟨Lo, hTu, rfl, M2, hLo, hM⟩
       have hM : H.nx ≤ M2 := hM
       rw [cN hone, eU hone, tJ hne0] at hLo
       rw [hbro, hbsv] at hTu
       subst hLo
       obtain ⟨o1, o2, o3⟩ := hTu.out _ (List.Mem.head _)
       obtain ⟨o4, o5, _⟩ := hTu.out _ (List.Mem.tail _ (List.Mem.head _))
       have e1 : fI H.nx [M2] K.nx H.nx = M2 := by rw [eN (Nat.le_refl _), Nat.sub_self]; rfl
       refine ⟨[M2], rfl, (fun k hk => by rcases List.mem_singleton.1 hk with rfl; exact ⟨hM, o2⟩), List.nodup_cons.2 ⟨(fun h => by cases h), List.nodup_nil⟩, Nat.le_trans hM (Nat.le_of_lt o2), fun k hk hn => hTu.get k hk (fun ⟨p, hp, e⟩ => hn (by
        rcases List.mem_cons.1 hp with rfl | hp
        ·exact ⟨_, List.Mem.head _, e⟩
        ·rcases List.mem_singleton.1 hp with rfl; exact ⟨_, List.Mem.tail _ (List.Mem.head _), e⟩)), fun p hp => ?_, by rw [rn]⟩
       obtain ⟨p0, hp0, rfl⟩ := List.mem_map.1 hp
       rcases List.mem_cons.1 hp0 with rfl | hp0
       ·show K.tr.get (fI H.nx [M2] K.nx H.nx) = some (rnO _ _ (.cells _ _ _))
        rw [e1, rnO, dF]; exact o1
       ·rcases List.mem_singleton.1 hp0 with rfl
        show K.tr.get (fI H.nx [M2] K.nx i) = some (rnO _ _ (.cells _ _ _))
        have hsc := wG (ρ := aR lv) (fun k hk => cY (κ := [M2]) (B := K.nx) hk) _ (yM c6 d5 c3 hK)
        simp only [rnO, rnL, AObj.cells.injEq, List.cons.injEq, and_true] at hsc
        have e2 : rn (aR lv) (fI H.nx [M2] K.nx) (.slice (some ⟨2 * H.nx + 1, 0, none⟩) (bs ++ ot its ++ [10]).length (bs ++ ot its ++ [10]).length) = .slice (some ⟨2 * M2 + 1, 0, none⟩) (bs ++ ot its ++ [10]).length (bs ++ ot its ++ [10]).length := by
         rw [rn, nW (by show (2 * H.nx + 1) % 2 = 1; omega)]
         show Value.slice (some ⟨2 * fI H.nx [M2] K.nx ((2 * H.nx + 1) / 2) + 1, 0, none⟩) _ _ = _
         rw [cR, e1]
        rw [cY c3]
        simp only [rnO, rnL, e2, hsc]
        exact o4
    ·cases h
   ·cases h
  ·cases h
end Go.Proofs.YthgfcpgjabodoaaGreatDoor
namespace Go.Proofs.YthgfcpgjabodoaaGreatDoor
open Go Go.AM
def aRr (o o' : AObj) : Bool := match o, o' with
 | .map [(k, v, i)] c, .map [(k', v', i')] c' => veq k k' && (veq v v' && (Nat.beq i i' && Nat.beq c c'))
 | _, _ => oeq o o'
theorem aPn {o o' : AObj} (h : aRr o o' = true) : o = o' := by
 unfold aRr at h
 split at h
 ·simp only [Bool.and_eq_true] at h
  obtain ⟨h1, h2, h3, h4⟩ := h
  rw [rS h1, rS h2, Nat.eq_of_beq_eq_true h3, Nat.eq_of_beq_eq_true h4]
 ·exact aNg h
/-- the objects are there, maps with one entry among them -/
noncomputable def aMt (S : AH) : OL → Bool
 | [] => true
 | p :: r => Nat.blt p.1 S.nx && ((match S.tr.get p.1 with
  | some o => aRr o p.2
  | none => false) && (r.all (fun q => !(Nat.beq p.1 q.1)) && aMt S r))
theorem aGm {S : AH} : ∀ {l : OL}, aMt S l = true → (∀ p ∈ l, S.tr.get p.1 = some p.2 ∧ p.1 < S.nx) ∧ l.Pairwise fun p q => p.1 ≠ q.1
 | [], _ => ⟨fun p hp => (by cases hp), List.Pairwise.nil⟩
 | p :: r, h => by
  simp only [aMt, Bool.and_eq_true] at h
  obtain ⟨h1, h2, h3, h4⟩ := h
  obtain ⟨q1, q2⟩ := aGm h4
  have hp : S.tr.get p.1 = some p.2 := by
   split at h2
   ·rename_i o ho
    rw [ho, aPn h2]
   ·cases h2
  refine ⟨fun x hx => ?_, List.Pairwise.cons (fun q hq e => ?_) q2⟩
  ·rcases List.mem_cons.1 hx with rfl | hx
   ·exact ⟨hp, Nat.le_of_ble_eq_true h1⟩
   ·exact q1 x hx
  ·have := List.all_eq_true.1 h3 q hq
   rw [e] at this
   simp at this
/-- a call that turns own objects and makes one row of bytes, as an outcome in a run -/
structure TE where
 g : Nat
 ar : List Value
 n : Nat
 Li : OL
 Lo : OL
 l : List UInt8
 z : Nat
 v : Value
def TE.Ok (P : Program) (ρ : Nat → Value) (e : TE) : Prop :=
 (∀ p ∈ e.Lo, p.1 < e.n) ∧ (∀ p ∈ e.Li, ∃ q ∈ e.Lo, q.1 = p.1) ∧ (∀ ι, rn ρ ι e.v = rn ρ id e.v) ∧
 ∀ S : AH, Tab S → (∀ p ∈ uE ρ id e.Li, S.tr.get p.1 = some p.2 ∧ p.1 < S.nx) → (uE ρ id e.Li).Pairwise (fun p q => p.1 ≠ q.1) → XCall (σ := noSg) P e.g (rnL ρ id e.ar) S fun u K => u = rn ρ id e.v ∧ ∃ Lo' M2, Turned (uE ρ id e.Li) S K Lo' ∧ S.nx ≤ M2 ∧ (M2, .cells (e.l.map aN) e.z false) ∈ Lo' ∧ ∀ B, ∀ p ∈ uE ρ (fI e.n [M2] B) e.Lo, p ∈ Lo'
noncomputable def tcT (e : TE) : cE := fun g args H => bif Nat.beq e.g g && (oI e.ar args && (Nat.beq H.nx e.n && (aMt H e.Li && kB H))) then some (e.v, ⟨H.w0, H.nx + 1, pV ((H.nx, .cells (e.l.map aN) e.z false) :: e.Lo) H.tr⟩, [Tab ⟨H.w0, 0, .nil⟩]) else none
theorem aCm {lv : List Value} {hv : lv.all lV = true} {e : TE} (he : e.Ok Tryz.prog (aR lv)) : bY (σ := sgL lv hv) Tryz.prog (tcT e) := by
 intro g args H v H' L h hL
 unfold tcT at h
 cases hc : (Nat.beq e.g g && (oI e.ar args && (Nat.beq H.nx e.n && (aMt H e.Li && kB H)))) with
 | false => rw [hc] at h; cases h
 | true =>
  rw [hc, cond_true] at h
  cases h
  simp only [Bool.and_eq_true] at hc
  obtain ⟨h1, h2, h3, h4, h5⟩ := hc
  obtain rfl := Nat.eq_of_beq_eq_true h1
  obtain rfl := lN h2
  have h3 := Nat.eq_of_beq_eq_true h3
  obtain ⟨q1, q2⟩ := aGm h4
  obtain ⟨e1, e2, e3, e4⟩ := he
  have hT : Tab H := hL _ (List.Mem.head _)
  refine ⟨rfl, ?_⟩
  refine ACalls.turn (σ0 := sgL lv hv) (σ := noSg) (Li := e.Li) (Lo := (H.nx, .cells (e.l.map aN) e.z false) :: e.Lo) (m := 1) (aR lv) (Fits.plain (fA hv)) (fun p hp => (q1 p hp).2) (fun p hp => ?_) (fun p hp => ?_) h5 ?_
  ·rcases List.mem_cons.1 hp with rfl | hp
   ·exact Nat.lt_succ_self _
   ·have := e1 p hp; omega
  ·obtain ⟨q, hq, hqe⟩ := e2 p hp; exact ⟨q, List.Mem.tail _ hq, hqe⟩
  ·refine (e4 (kU (aR lv) H) hT (fun p hp => ?_) ?_).mono ?_
   ·obtain ⟨p0, hp0, rfl⟩ := List.mem_map.1 hp
    exact ⟨iK (q1 p0 hp0).1, (q1 p0 hp0).2⟩
   ·exact List.pairwise_map.2 q2
   ·rintro u K kw ⟨rfl, Lo', M2, hTu, hM, hm, hl⟩
    have hM : H.nx ≤ M2 := hM
    obtain ⟨o1, o2, _⟩ := hTu.out _ hm
    refine ⟨[M2], rfl, (fun k hk => by rcases List.mem_singleton.1 hk with rfl; exact ⟨hM, o2⟩), List.nodup_cons.2 ⟨(fun h => by cases h), List.nodup_nil⟩, Nat.le_trans hM (Nat.le_of_lt o2), fun k hk hn => hTu.get k hk (fun ⟨p, hp, ee⟩ => hn ?_), fun p hp => ?_, (e3 _).symm⟩
    ·obtain ⟨p0, hp0, rfl⟩ := List.mem_map.1 hp; exact ⟨p0, hp0, ee⟩
    ·obtain ⟨p0, hp0, rfl⟩ := List.mem_map.1 hp
     rcases List.mem_cons.1 hp0 with rfl | hp0
     ·show K.tr.get (fI H.nx [M2] K.nx H.nx) = some (rnO _ _ (.cells _ _ _))
      have e1 : fI H.nx [M2] K.nx H.nx = M2 := by rw [eN (Nat.le_refl _), Nat.sub_self]; rfl
      rw [e1, rnO, dF]; exact o1
     ·have := hl K.nx _ (List.mem_map.2 ⟨p0, hp0, rfl⟩)
      rw [← h3] at this
      exact (hTu.out _ this).1
end Go.Proofs.YthgfcpgjabodoaaGreatDoor
