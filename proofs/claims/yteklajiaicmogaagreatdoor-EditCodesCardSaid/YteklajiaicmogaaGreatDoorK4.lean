/-
  The walks through the codec, part 4.
-/
import Derived.Test.YteklajiaicmogaaGreatDoorK3
set_option linter.unusedVariables false
set_option linter.unusedSimpArgs false
set_option maxRecDepth 100000
namespace Go.Proofs.YteklajiaicmogaaGreatDoor
open Go Go.AM
theorem aIk {t : TypeId} {b : Bool} : dM E .neq t (.int .i64 (if b = true then 1 else 0)) (.int .i64 0) = some (.bool b) := by
 cases b
 ·exact bP rfl
 ·exact dZ (by decide)
theorem Got.bl {B : Nat → Prop} {H : AH} {ks : List Kd} {zf : Nat → Value} {c : Nat → CT} {m : Nat} {y : Nat → Value} (h : Got B H ks zf c m y) (w : Wel ks c) {n : Nat} (hk : ks[m]? = some .bool) (hn : Nat.blt m n = true) : ∃ y', (cellsOf n y).take m ++ ([.bool (bv (c m))] ++ (cellsOf n y).drop (m + 1)) = cellsOf n y' ∧ Got B H ks zf c (m + 1) y' := by
 refine h.put hk ?_ hn
 rw [w.bc hk]
 simp only [CellA, bv]
 exact ⟨trivial, _, rfl⟩
theorem aWr (b : Bool) : I64 (if b = true then 1 else 0) := by unfold I64; split <;> omega
/-- a dynamic of a brush -/
def w3 (d : List CT) (v : Value) : List Value := [.int .i64 (iv (cfn d 0)), .int .i64 (iv (cfn d 1)), v]
theorem w3_ok {A : Nat → Prop} {H : AH} {b : Nat} {ks : List Kd} {d : List CT} {v : Value} (w : Wel [.int .i64, .int .i64, .row b ks] (cfn d)) (hd : d.length = 3) (h : CellA A H (.row b ks) v (.row (rv (cfn d 2)))) : CellsA A H [.int .i64, .int .i64, .row b ks] (w3 d v) d := by
 have key : CellsA A H [.int .i64, .int .i64, .row b ks] [.int .i64 (iv (cfn d 0)), .int .i64 (iv (cfn d 1)), v] [cfn d 0, cfn d 1, cfn d 2] := ?_
 ·have e : [cfn d 0, cfn d 1, cfn d 2] = d := aCr hd
  rw [e] at key
  exact key
 simp only [CellsA]
 refine ⟨?_, ?_, ?_, trivial⟩
 ·rw [w.ic (i := 0) rfl]; simp only [CellA, iv]; exact ⟨trivial, _, rfl, yY (w.iw (i := 0) rfl)⟩
 ·rw [w.ic (i := 1) rfl]; simp only [CellA, iv]; exact ⟨trivial, _, rfl, yY (w.iw (i := 1) rfl)⟩
 ·rw [w.rc (i := 2) (ks' := ks) rfl]; exact h
theorem Wel.len {ks : List Kd} {c : Nat → CT} (w : Wel ks c) {i b : Nat} {ks' : List Kd} (hk : ks[i]? = some (.row b ks')) : ∀ d ∈ rv (c i), d.length = ks'.length := by
 obtain ⟨A, H, x, p⟩ := w
 have h := kY p hk
 obtain ⟨l, a, cap, e, _, r⟩ := h.rowD
 cases e
 intro d hd
 obtain ⟨j, hj, rfl⟩ := List.getElem_of_mem hd
 obtain ⟨_, xs, d', _, _, h1, _, h2⟩ := r.at' j hj
 have e2 : (rv (c i))[j] = d' := by rw [List.getElem?_eq_getElem hj] at h1; exact Option.some.inj h1
 rw [e2]
 exact h2.len.2
def uE : Nat → Value := fun i => (((.int .i64 0 :: .int .i64 0 :: .int .i64 0 :: .int .i64 0 :: .int .i64 0 :: .int .i64 0 :: .int .i64 0 :: .int .i64 0 :: .int .i64 0 :: .int .i64 0 :: .int .i64 0 :: .int .i64 0 :: .int .i64 0 :: .int .i64 0 :: .slice none 0 0 :: .bool false :: []) : List Value)[i]?).getD (.int .i64 0)
set_option maxHeartbeats 4000000 in
theorem aLk {S : AH} {N a : Nat} {q : ByteArray} (hin : ∀ p ∈ rd N q a, S.tr.get p.1 = some p.2 ∧ p.1 < S.nx) {c : Nat → CT} {z : List UInt8} (w : Wel kBrush c) (h14 : (rv (c 14)).length ≤ 8) (h142 : ∀ r ∈ rv (c 14), (rv (cfn r 2)).length ≤ 16) (hq : q.data.toList.length ≤ 1099511627776) (hz : q.data.toList.drop a = aA brushIts c ++ z) : XCall Tryz.prog 61 [.pointer (some ⟨2 * N + 1, 0, none⟩)] S fun u H' => ∃ Lo, Turned (rd N q a) S H' Lo ∧ ((∃ f, u = .agg ⟨cellsOf 16 f⟩ ∧ Pts (nu S H' Lo) H' kBrush f c) ∧ Lo = rd N q (a + (aA brushIts c).length)) := by
 obtain ⟨p14, e14⟩ := oB hz 14 (.rows 14 dynIts) rfl
 rw [bB, List.append_assoc] at p14
 rw [bB, List.length_append, ← Nat.add_assoc] at e14
 have p14b : q.data.toList.drop (a + (aA (brushIts.take 14) c).length + (aF (rv (c 14)).length).length) = aL dynIts (rv (c 14)) ++ (aA (brushIts.drop 15) c ++ z) := by rw [← List.drop_drop, p14, List.drop_left]; rfl
 have w14 := w.sub (i := 14) (ks' := [.int .i64, .int .i64, .row 16 [.int .i64, .int .i64]]) rfl
 have n14 := w.len (i := 14) (ks' := [.int .i64, .int .i64, .row 16 [.int .i64, .int .i64]]) rfl
 obtain ⟨p15, e15⟩ := oB hz 15 (.bi 15) rfl
 rw [bB] at p15 e15
 refine cX (E := E) (Li := rd N q a) (n := 67) (rs := [.cell 2 41]) (l := [(0, _)]) (aQ Tryz.func61 rfl rfl rfl) (fun p hp => hin p hp) (List.pairwise_singleton _ _) rfl ?_
 refine rB <| bR (cs := (.int .i64 0 :: .int .i64 0 :: .int .i64 0 :: .int .i64 0 :: .int .i64 0 :: .int .i64 0 :: .int .i64 0 :: .int .i64 0 :: .int .i64 0 :: .int .i64 0 :: .int .i64 0 :: .int .i64 0 :: .int .i64 0 :: .int .i64 0 :: .slice none 0 0 :: .bool false :: [])) rfl rfl nM jT rfl rfl ?_
 intro N2
 refine rC <| bR (cs := (.int .i64 0 :: .int .i64 0 :: .int .i64 0 :: .int .i64 0 :: .int .i64 0 :: .int .i64 0 :: .int .i64 0 :: .int .i64 0 :: .int .i64 0 :: .int .i64 0 :: .int .i64 0 :: .int .i64 0 :: .int .i64 0 :: .int .i64 0 :: .slice none 0 0 :: .bool false :: [])) rfl rfl nM jT rfl rfl ?_
 intro N3
 refine tq ?_
 rw [show ((.int .i64 0 :: .int .i64 0 :: .int .i64 0 :: .int .i64 0 :: .int .i64 0 :: .int .i64 0 :: .int .i64 0 :: .int .i64 0 :: .int .i64 0 :: .int .i64 0 :: .int .i64 0 :: .int .i64 0 :: .int .i64 0 :: .int .i64 0 :: .slice none 0 0 :: .bool false :: []) : List Value) = cellsOf 16 uE from by kernel_rfl]
 refine fZ (L' := rd N q a ++ [_, _]) (List.perm_append_comm (l₁ := rd N q a) (l₂ := [_, _])) ?_
 have gA : Gr (fY S (rd N q a)) S (fY S (rd N q a)) S := Gr.refl _ _
 have G0 : Got (nw S (fY S (rd N q a))) S kBrush uE c 0 uE := Got.zero fun _ => rfl
 rw [show rd N q a = rd N q (a + (aA (brushIts.take 0) c).length) by rw [List.take_zero, aA]; rfl]
 refine rA <| om rfl <| fo 0 V41 aI rfl <| fo 1 V41 aI rfl <| fo 2 V41 aI rfl <| fo 3 V41 aI rfl <| fo 4 V41 aI rfl <| fo 5 V41 aI rfl <| fo 6 V41 aI rfl <| fo 7 V41 aI rfl <| fo 8 V41 aI rfl <| aM (out := pts N3 [0, 1, 2, 3, 4, 5, 6, 7, 8]) rfl rfl nM oP lI fO rfl rfl (by kernel_rfl) rfl rfl ?_
 intro N16
 refine pX (js := [0, 1, 2, 3, 4, 5, 6, 7, 8]) (ns := [0, 1, 2, 3, 4, 5, 6, 7, 8].map fun j => iv (c j)) rfl rfl nM rfl oV nM rfl (by simp) (by rw [aU]; decide) (w.n64 rfl) (by decide) hq (lU hz 0 [0, 1, 2, 3, 4, 5, 6, 7, 8] rfl) ?_
 obtain ⟨y9, hy9, G9⟩ := G0.nums (n := 16) w [0, 1, 2, 3, 4, 5, 6, 7, 8] rfl rfl rfl
 rw [hy9]
 change Got _ _ _ _ _ 9 _ at G9
 refine rC <| om rfl <| fo 9 V41 bL rfl <| fo 9 V31 aI rfl <| fo 9 V41 bL rfl <| fo 10 V31 aI rfl <| fo 9 V41 bL rfl <| fo 11 V31 aI rfl <| fo 9 V41 bL rfl <| fo 12 V31 aI rfl <| fo 13 V41 aI rfl <| aM (out := pts N3 [9, 10, 11, 12, 13]) rfl rfl nM oP lI fO rfl rfl (by kernel_rfl) rfl rfl ?_
 intro N28
 refine pX (js := [9, 10, 11, 12, 13]) (ns := [9, 10, 11, 12, 13].map fun j => iv (c j)) rfl rfl nM rfl oV nM rfl (by simp) (by rw [aU]; decide) (w.n64 rfl) (by decide) hq (lU hz 9 [9, 10, 11, 12, 13] rfl) ?_
 obtain ⟨y14, hy14, G14⟩ := G9.nums (n := 16) w [9, 10, 11, 12, 13] rfl rfl rfl
 rw [hy14]
 change Got _ _ _ _ _ 14 _ at G14
 refine tq <| rB <| om rfl <| ot (rd N q (a + (aA (brushIts.take 14) c).length)) (fun u Lo => u = .int .i64 (((rv (c 14)).length : Nat) : Int) ∧ Lo = rd N q (a + (aA (brushIts.take 14) c).length + (aF (rv (c 14)).length).length)) mO oV (fun H hH => fE (hH.have fun p hp => by repeat (first | exact hp | exact List.mem_append_left _ hp | exact List.mem_append_left _ (List.mem_append_left _ hp) | apply List.mem_append_right | apply List.mem_cons_of_mem)) (by omega) (by omega) hq p14) ?_
 rintro _ _ ⟨rfl, rfl⟩
 refine om rfl <| aB <| aK ?_
 refine bK (σ := Nat × Nat × List Value × AH × (Nat → Prop)) (fun x => (rv (c 14)).length - x.2.1) (fun x => [(0, .pointer (some ⟨2 * N + 1, 0, none⟩)), (2, .pointer (some ⟨2 * N2 + 1, 0, none⟩)), (3, .pointer (some ⟨2 * N3 + 1, 0, none⟩)), (31, .int .i64 (((rv (c 14)).length : Nat) : Int)), (32, .int .i64 ((x.2.1 : Nat) : Int))]) (fun x => x.2.2.2.1) (fun x => x.2.2.2.2) (fun x => rd N q (a + (aA (brushIts.take 14) c).length + (aF (rv (c 14)).length).length + (aL dynIts ((rv (c 14)).take x.2.1)).length) ++ ((N3, AObj.cells (cellsOf 16 (gX y14 14 (gsl x.1 x.2.1))) (cI E 41) true) :: (N2, AObj.cells (cellsOf 16 uE) (cI E 41) true) :: fK x.1 3 x.2.2.1 x.2.1)) (fun x => x.2.1 ≤ (rv (c 14)).length ∧ Gr (fY S (rd N q a)) S x.2.2.2.2 x.2.2.2.1 ∧ x.2.2.1.length = x.2.1 * 3 ∧ (∀ (j : Nat) d, ((rv (c 14)).take x.2.1)[j]? = some d → CellsA (nw S x.2.2.2.2) x.2.2.2.1 [.int .i64, .int .i64, .row 16 [.int .i64, .int .i64]] ((x.2.2.1.drop (j * 3)).take 3) d) ∧ Got (nw S x.2.2.2.2) x.2.2.2.1 kBrush uE c 14 y14) ((0, 0, [], _, _)) (⟨Nat.zero_le _, gA, rfl, (fun j d hd => by simp at hd), G14⟩) pK rfl rfl (by rw [show gX y14 14 (gsl 0 0) = y14 from pG (G14.2 14 (Nat.le_refl _))]; exact List.Sublist.refl _) ?_
 intro st hJ2 t1
 obtain ⟨M1, k, XS, H1, A1⟩ := st
 dsimp only at hJ2 ⊢
 clear gA G14
 obtain ⟨hk0, gA, hXl, hXc, G14⟩ := hJ2
 refine aH ?_
 rcases Nat.lt_or_ge k (rv (c 14)).length with hk | hk
 ·obtain ⟨d, hd⟩ : ∃ d, (rv (c 14))[k]? = some d := ⟨_, List.getElem?_eq_getElem hk⟩
  have hdm := List.mem_of_getElem? hd
  have wd := w14 d hdm
  have hd3 : d.length = 3 := n14 d hdm
  have hl2 := h142 d hdm
  obtain ⟨hp1, hp2⟩ := sI p14b hd
  obtain ⟨p2, e2⟩ := oB hp1 2 (.rows 2 ptIts) rfl
  rw [bB, List.append_assoc] at p2
  rw [bB, List.length_append, ← Nat.add_assoc] at e2
  have p2b : q.data.toList.drop (a + (aA (brushIts.take 14) c).length + (aF (rv (c 14)).length).length + (aL dynIts ((rv (c 14)).take k)).length + (aA (dynIts.take 2) (cfn d)).length + (aF (rv (cfn d 2)).length).length) = aL ptIts (rv (cfn d 2)) ++ (aA (dynIts.drop 3) (cfn d) ++ (aL dynIts ((rv (c 14)).drop (k + 1)) ++ (aA (brushIts.drop 15) c ++ z))) := by rw [← List.drop_drop, p2, List.drop_left]; rfl
  have ok2 := wd.ok (i := 2) (ks' := [.int .i64, .int .i64]) rfl (by rfl)
  have w2 := wd.sub (i := 2) (ks' := [.int .i64, .int .i64]) rfl
  refine rA <| ob rfl (by exact aX (by omega)) ?_
  refine tq <| aO rfl <| aJ <| aD <| aH <| aK <| rB <| bR (cs := (.int .i64 0 :: .int .i64 0 :: .slice none 0 0 :: [])) rfl rfl nM kS rfl rfl ?_
  intro N4
  refine tq <| fZ (pC (T := rd N q _)) ?_
  refine rA <| om rfl <| fo 0 V68 aI rfl <| fo 1 V68 aI rfl <| aM (out := pts N4 [0, 1]) rfl rfl nM oP lI fO rfl rfl (by kernel_rfl) rfl rfl ?_
  intro N37
  refine pX (js := [0, 1]) (ns := [0, 1].map fun j => iv (cfn d j)) rfl rfl nM rfl oV nM rfl (by simp) (by decide) (wd.n64 rfl) (by decide) hq (lU (its := dynIts) (c := cfn d) hp1 0 [0, 1] rfl) ?_
  refine eU (L1 := rd N q (a + (aA (brushIts.take 14) c).length + (aF (rv (c 14)).length).length + (aL dynIts ((rv (c 14)).take k)).length + (aA (dynIts.take 2) (cfn d)).length) ++ ((N4, AObj.cells (w3 d (gsl 0 0)) (cI E 68) true) :: (N3, AObj.cells (cellsOf 16 (gX y14 14 (gsl M1 k))) (cI E 41) true) :: (N2, AObj.cells (cellsOf 16 uE) (cI E 41) true) :: (fK M1 3 XS k ++ fK 0 2 [] 0))) (by rw [show fK 0 2 [] 0 = [] from rfl, List.append_nil]; exact List.Sublist.refl _) nM ?_
  refine tq <| rB <| om rfl <| ot (rd N q (a + (aA (brushIts.take 14) c).length + (aF (rv (c 14)).length).length + (aL dynIts ((rv (c 14)).take k)).length + (aA (dynIts.take 2) (cfn d)).length)) (fun u Lo => u = .int .i64 (((rv (cfn d 2)).length : Nat) : Int) ∧ Lo = rd N q (a + (aA (brushIts.take 14) c).length + (aF (rv (c 14)).length).length + (aL dynIts ((rv (c 14)).take k)).length + (aA (dynIts.take 2) (cfn d)).length + (aF (rv (cfn d 2)).length).length)) mO oV (fun H hH => fE (hH.have fun p hp => by repeat (first | exact hp | exact List.mem_append_left _ hp | exact List.mem_append_left _ (List.mem_append_left _ hp) | apply List.mem_append_right | apply List.mem_cons_of_mem)) (by omega) (by omega) hq p2) ?_
  rintro _ _ ⟨rfl, rfl⟩
  refine om rfl <| aB <| aK ?_
  refine bK (σ := Nat × Nat) (fun x => (rv (cfn d 2)).length - x.2) (fun x => [(0, .pointer (some ⟨2 * N + 1, 0, none⟩)), (2, .pointer (some ⟨2 * N2 + 1, 0, none⟩)), (3, .pointer (some ⟨2 * N3 + 1, 0, none⟩)), (31, .int .i64 (((rv (c 14)).length : Nat) : Int)), (32, .int .i64 ((k : Nat) : Int)), (4, .pointer (some ⟨2 * N4 + 1, 0, none⟩)), (40, .int .i64 (((rv (cfn d 2)).length : Nat) : Int)), (41, .int .i64 ((x.2 : Nat) : Int))]) (fun _ => H1) (fun _ => A1) (fun x => rd N q (a + (aA (brushIts.take 14) c).length + (aF (rv (c 14)).length).length + (aL dynIts ((rv (c 14)).take k)).length + (aA (dynIts.take 2) (cfn d)).length + (aF (rv (cfn d 2)).length).length + (aL ptIts ((rv (cfn d 2)).take x.2)).length) ++ ((N4, AObj.cells (w3 d (gsl x.1 x.2)) (cI E 68) true) :: (N3, AObj.cells (cellsOf 16 (gX y14 14 (gsl M1 k))) (cI E 41) true) :: (N2, AObj.cells (cellsOf 16 uE) (cI E 41) true) :: (fK M1 3 XS k ++ fK x.1 2 (jH ((rv (cfn d 2)).take x.2)) x.2))) (fun x => x.2 ≤ (rv (cfn d 2)).length) ((0, 0)) ((Nat.zero_le _)) pK rfl rfl (List.Sublist.refl _) ?_
  intro st2 hJ2 t2
  obtain ⟨M3, j⟩ := st2
  dsimp only at hJ2 ⊢
  refine aH ?_
  rcases Nat.lt_or_ge j (rv (cfn d 2)).length with hj | hj
  ·obtain ⟨e, he⟩ : ∃ e, (rv (cfn d 2))[j]? = some e := ⟨_, List.getElem?_eq_getElem hj⟩
   have hem := List.mem_of_getElem? he
   have we := w2 e hem
   have oke := ok2 e hem
   have he5 : e.length = 2 := oke.1
   have hX : (e.map CT.val).length = 2 := by rw [List.length_map, he5]
   obtain ⟨hq1, hq2⟩ := sI p2b he
   refine rA <| ob rfl (by exact aX (by omega)) ?_
   refine tq <| aO rfl <| aJ <| aD <| aH <| aK <| rB <| bR (cs := (.int .i64 0 :: .int .i64 0 :: [])) rfl rfl nM qP rfl rfl ?_
   intro N5
   refine tq <| fZ (pC (T := rd N q _)) ?_
   refine rA <| om rfl <| fo 0 V69 aI rfl <| fo 1 V69 aI rfl <| aM (out := pts N5 [0, 1]) rfl rfl nM oP lI fO rfl rfl (by kernel_rfl) rfl rfl ?_
   intro N46
   refine pX (js := [0, 1]) (ns := [0, 1].map fun j => iv (cfn e j)) rfl rfl nM rfl oV nM rfl (by simp) (by decide) (we.n64 rfl) (by decide) hq ⟨(rF hq1 [0, 1] rfl).1, (rF hq1 [0, 1] rfl).2.trans hq2⟩ ?_
   rw [show wr [.int .i64 0, .int .i64 0] [0, 1] ([0, 1].map fun j => iv (cfn e j)) = e.map CT.val from uT (ks := [.int .i64, .int .i64]) rfl we he5 (by rfl)]
   refine rD <| fo 2 V68 rE rfl <| aV rfl rfl rfl (by exact gC V66 rfl mA rfl) ?_
   refine aV rfl rfl rfl (by exact bV (s := 2) V69 rfl qP rfl mA (by have h9 := hX; omega) (by rw [List.drop_zero, List.take_of_length_le (Nat.le_of_eq hX)])) ?_
   refine aM (out := e.map CT.val) rfl rfl nM oP V66 qP rfl rfl (pM hX (by kernel_rfl)) (by rw [hX]; rfl) rfl ?_
   intro N51
   refine eU (L1 := (_ :: (rd N q _ ++ (_ :: _ :: _ :: _ :: fK M1 3 XS k))) ++ fK _ 2 _ _) (List.Sublist.refl _) (by intro h; cases h) ?_
   refine iW (bt := 16) (sz := 2) (L1 := _ :: (rd N q _ ++ (_ :: _ :: _ :: _ :: fK M1 3 XS k))) (cs' := jH ((rv (cfn d 2)).take (j + 1))) rfl rfl nM rfl rfl rfl rfl rfl V66 V66 (by rfl) qP rfl rfl (by decide) rfl (eL (List.mem_append_left _ mA) (by rw [hX])) ((iC rfl fun x hx => ok2 x (List.mem_of_mem_take hx)).trans (by rw [List.length_take, Nat.min_eq_left (by omega)]; rfl)) (oke.one S) (by omega) (by omega) (nR he) nM ?_
   intro M4
   refine fo 2 V68 rE rfl <| dC rfl nM rfl rfl rE rfl (qF _ _) uP rfl (by exact Nat.le_of_ble_eq_true rfl) nM ?_
   refine aZ <| bA <| aD <| rA <| ob rfl (by exact aY (by omega)) ?_
   refine om rfl <| aZ ?_
   refine cN (M4, j + 1) (show (rv (cfn d 2)).length - (j + 1) < (rv (cfn d 2)).length - j by omega) (show j + 1 ≤ (rv (cfn d 2)).length by omega) pK rfl rfl ?_
   exact List.Sublist.cons _ (List.Sublist.cons_cons _ (List.Sublist.cons _ (by show List.Sublist _ ((_ :: _ :: _ :: fK M1 3 XS k) ++ _); exact List.Sublist.refl _)))
  ·obtain rfl : j = (rv (cfn d 2)).length := by omega
   rw [List.take_length]
   rw [show aL ptIts (rv (cfn d 2)) = (rv (cfn d 2)).flatMap fun r => aA ptIts (cfn r) from rfl, e2, show a + (aA (brushIts.take 14) c).length + (aF (rv (c 14)).length).length + (aL dynIts ((rv (c 14)).take k)).length + (aA (dynIts.take 3) (cfn d)).length = a + (aA (brushIts.take 14) c).length + (aF (rv (c 14)).length).length + (aL dynIts ((rv (c 14)).take (k + 1))).length from hp2]
   refine rA <| ob rfl (by exact aW (by omega)) ?_
   refine tq <| aG rfl <| bJ <| aR <| aS <| aN <| aD <| sF (L' := rd N q _ ++ (_ :: _ :: _ :: fK M1 3 XS k)) (b := 16) (ks := [.int .i64, .int .i64]) (rows := (rv (cfn d 2))) (sz := 2) (Takes.end' (T := fK _ _ _ _) (L1 := rd N q _ ++ (_ :: _ :: _ :: fK M1 3 XS k))) gA (fun j h => nW h) rfl rfl (iC rfl ok2) (fun j e he => oN rfl ok2 _ _ j e he) (by omega) (by omega) ?_
   intro H5 A5 g5 q5
   replace gA := gA.trans g5
   replace G14 := G14.gr g5.nw
   refine rA <| fo 14 V41 rL rfl <| lB rfl V39 (iR _ _ _) ?_
   refine aV rfl rfl rfl (by exact bV (s := 3) V68 rfl kS rfl mA (by have h9 := (show (w3 d (gsl M3 (rv (cfn d 2)).length)).length = 3 from rfl); omega) (by rw [List.drop_zero, List.take_of_length_le (Nat.le_of_eq (show (w3 d (gsl M3 (rv (cfn d 2)).length)).length = 3 from rfl))])) ?_
   refine aM (out := w3 d (gsl M3 (rv (cfn d 2)).length)) rfl rfl nM oP V39 kS rfl rfl (pM (show (w3 d (gsl M3 (rv (cfn d 2)).length)).length = 3 from rfl) (by kernel_rfl)) (by rw [(show (w3 d (gsl M3 (rv (cfn d 2)).length)).length = 3 from rfl)]; rfl) rfl ?_
   intro N58
   refine eU (L1 := (_ :: (rd N q _ ++ [_, _, _])) ++ fK _ 3 _ _) (List.Sublist.refl _) (by intro h; cases h) ?_
   refine iW (bt := 40) (sz := 3) (L1 := _ :: (rd N q _ ++ [_, _, _])) (cs' := XS ++ w3 d (gsl M3 (rv (cfn d 2)).length)) rfl rfl nM rfl rfl rfl rfl rfl V39 V39 (by rfl) kS rfl rfl (by decide) rfl (eL (List.mem_append_left _ mA) (by rw [(show (w3 d (gsl M3 (rv (cfn d 2)).length)).length = 3 from rfl)])) hXl (by simp only [w3, eF, qF]; rfl) (by omega) (by omega) rfl nM ?_
   intro M5
   refine fo 14 V41 rL rfl <| dC rfl nM rfl rfl rL rfl (qF _ _) uP ((jF rfl).trans (congrArg (cellsOf _) (oK _ _ _ _))) (by exact bQ rfl) nM ?_
   refine aZ <| bA <| aD <| rA <| ob rfl (by exact aY (by omega)) ?_
   refine om rfl <| aZ ?_
   refine cN (M5, k + 1, XS ++ w3 d (gsl M3 (rv (cfn d 2)).length), H5, A5) (show (rv (c 14)).length - (k + 1) < (rv (c 14)).length - k by omega) ⟨(show k + 1 ≤ (rv (c 14)).length by omega), gA, (by show (XS ++ w3 d _).length = (k + 1) * 3; rw [List.length_append, hXl]; show k * 3 + 3 = _; omega), ?_, G14⟩ pK rfl rfl ?_
   ·show ∀ (j : Nat) e, ((rv (c 14)).take (k + 1))[j]? = some e → _
    rw [hG hd]
    exact aMn (by rw [hXl, List.length_take, Nat.min_eq_left (by omega)]) rfl (fun j e he => (hXc j e he).gr g5.nw) (w3_ok wd hd3 q5)
   ·exact List.Sublist.cons _ (List.Sublist.cons_cons _ (List.Sublist.cons _ (List.Sublist.refl _)))
 ·obtain rfl : k = (rv (c 14)).length := by omega
  rw [List.take_length] at hXc ⊢
  rw [show aL dynIts (rv (c 14)) = (rv (c 14)).flatMap fun r => aA dynIts (cfn r) from rfl, e14]
  refine rA <| ob rfl (by exact aW (by omega)) ?_
  refine tq <| aG rfl <| bJ <| aR <| aS <| aN <| aD <| aH <| sF (L' := rd N q _ ++ [_, _]) (b := 40) (ks := [.int .i64, .int .i64, .row 16 [.int .i64, .int .i64]]) (rows := (rv (c 14))) (sz := 3) (Takes.end' (T := fK _ _ _ _) (L1 := rd N q _ ++ [_, _])) gA (fun j h => nW h) rfl rfl hXl hXc (by omega) (by omega) ?_
  intro H14 A14 g14 q14
  replace gA := gA.trans g14
  rw [← w.rc (i := 14) (ks' := [.int .i64, .int .i64, .row 16 [.int .i64, .int .i64]]) rfl] at q14
  have G15 := (G14.gr g14.nw).upd rfl q14
  change Got _ _ _ _ _ 15 _ at G15
  generalize gX y14 14 (gsl M1 (rv (c 14)).length) = y15 at G15 ⊢
  refine rA <| om rfl <| ot (rd N q (a + (aA (brushIts.take 15) c).length)) (fun u Lo => u = .int .i64 (if bv (c 15) = true then 1 else 0) ∧ Lo = rd N q (a + (aA (brushIts.take 16) c).length)) aKg oV (fun H hH => by rw [← e15]; exact yO (hH.have fun p hp => by repeat (first | exact hp | exact List.mem_append_left _ hp | exact List.mem_append_left _ (List.mem_append_left _ hp) | apply List.mem_append_right | apply List.mem_cons_of_mem)) (aWr _) hq p15) ?_
  rintro _ _ ⟨rfl, rfl⟩
  refine ob rfl (by exact aIk) ?_
  refine fo 15 V41 lR rfl ?_
  obtain ⟨y16, hy16, G16⟩ := G15.bl (n := 16) w rfl rfl
  change Got _ _ _ _ _ 16 _ at G16
  refine dC rfl nM rfl rfl lR rfl rfl uP hy16 (by exact bQ rfl) nM ?_
  refine rC <| aV rfl rfl rfl (by exact bV V41 rfl jT rfl mA (by exact bQ rfl) (by exact bZ)) ?_
  refine bX rfl nM rfl rfl jT (by exact aU _ _) ((G16.pts (by rfl)).cells (n := 16) rfl).one uP (cF (aU _ _)) (by exact cH rfl rfl) nM ?_
  refine aB <| aT <| aE (.cell rfl (by exact bV V41 rfl jT rfl mA (by exact bQ rfl) (by exact bZ)) .nil) ?_
  intro H hH
  have hh := hH.subl (L' := rd N q (a + (aA (brushIts.take 16) c).length)) (List.sublist_append_left _ _)
  refine ⟨_, hh.turned gA ⟨_, List.Mem.head _⟩, ⟨_, rfl, (G16.pts (by rfl)).gr hh.give⟩, by rw [show brushIts.take 16 = brushIts from rfl]⟩
end Go.Proofs.YteklajiaicmogaaGreatDoor
namespace Go.Proofs.YteklajiaicmogaaGreatDoor
open Go Go.AM
theorem has58 : ∃ fn, E.fn 58 = some fn := ⟨_, aQ Tryz.func58 rfl rfl rfl⟩
theorem has61 : ∃ fn, E.fn 61 = some fn := ⟨_, aQ Tryz.func61 rfl rfl rfl⟩
def aLf : Nat → Value := fun i => (((.int .i64 0 :: .int .i64 0 :: .int .i64 0 :: .int .i64 0 :: .int .i64 0 :: .int .i64 0 :: .string ⟨#[]⟩ :: .string ⟨#[]⟩ :: .int .i64 0 :: .int .i64 0 :: .int .i64 0 :: .string ⟨#[]⟩ :: .bool false :: .bool false :: .bool false :: .int .i64 0 :: .int .i64 0 :: .int .i64 0 :: .int .i64 0 :: .slice none 0 0 :: .int .i64 0 :: .int .i64 0 :: .int .i64 0 :: .int .i64 0 :: .int .i64 0 :: .int .i64 0 :: .int .i64 0 :: .int .i64 0 :: .int .i64 0 :: .slice none 0 0 :: .int .i64 0 :: .int .i64 0 :: .int .i64 0 :: .int .i64 0 :: .int .i64 0 :: .slice none 0 0 :: .int .i64 0 :: .slice none 0 0 :: .slice none 0 0 :: .int .i64 0 :: .int .i64 0 :: .int .i64 0 :: .int .i64 0 :: .string ⟨#[]⟩ :: .int .i64 0 :: .int .i64 0 :: .int .i64 0 :: .int .i64 0 :: .int .i64 0 :: .int .i64 0 :: .slice none 0 0 :: .int .i64 0 :: .int .i64 0 :: .slice none 0 0 :: .int .i64 0 :: .int .i64 0 :: .slice none 0 0 :: .int .i64 0 :: .int .i64 0 :: .int .i64 0 :: .int .i64 0 :: .int .i64 0 :: .int .i64 0 :: .int .i64 0 :: .int .i64 0 :: .int .i64 0 :: .int .i64 0 :: .int .i64 0 :: .int .i64 0 :: .int .i64 0 :: .int .i64 0 :: .slice none 0 0 :: .bool false :: .slice none 0 0 :: .int .i64 0 :: .int .i64 0 :: .int .i64 0 :: .int .i64 0 :: .int .i64 0 :: .int .i64 0 :: .int .i64 0 :: .int .i64 0 :: .int .i64 0 :: .int .i64 0 :: []) : List Value)[i]?).getD (.int .i64 0)
set_option maxHeartbeats 4000000 in
theorem aTo {S : AH} {N a : Nat} {q : ByteArray} (hin : ∀ p ∈ rd N q a, S.tr.get p.1 = some p.2 ∧ p.1 < S.nx) {c : Nat → CT} {z : List UInt8} (w : Wel jQ c) (hP : cY c) (hq : q.data.toList.length ≤ 1099511627776) (hz : q.data.toList.drop a = aA editIts c ++ z) : XCall Tryz.prog 22 [.pointer (some ⟨2 * N + 1, 0, none⟩)] S fun u H' => ∃ Lo, Turned (rd N q a) S H' Lo ∧ ((∃ f, u = .agg ⟨cellsOf 84 f⟩ ∧ Pts (nu S H' Lo) H' jQ f c) ∧ Lo = rd N q (a + (aA editIts c).length)) := by
 obtain ⟨hm54, hm27, hm51, hm17, h6, h7, h11, h43, h73, h71, h712, h35, h37, h38, h50⟩ := hP
 obtain ⟨p6, e6⟩ := oB hz 6 (.t 6) rfl
 rw [bB] at p6 e6
 obtain ⟨p7, e7⟩ := oB hz 7 (.t 7) rfl
 rw [bB] at p7 e7
 obtain ⟨p8, e8⟩ := aCa hz 8 (nodeIts.map (jR 8)) rfl
 rw [← mY] at p8 e8
 change _ = a + (aA (editIts.take 47) c).length at e8
 obtain ⟨p51, e51⟩ := oB hz 47 (.msk 51) rfl
 rw [bB] at p51 e51
 obtain ⟨p54, e54⟩ := oB hz 48 (.img 54) rfl
 rw [bB] at p54 e54
 obtain ⟨p57, e57⟩ := aCa hz 49 (brushIts.map (jR 57)) rfl
 rw [← mY] at p57 e57
 change _ = a + (aA (editIts.take 65) c).length at e57
 obtain ⟨p73, e73⟩ := oB hz 65 (.rows 73 dV) rfl
 rw [bB, List.append_assoc] at p73
 rw [bB, List.length_append, ← Nat.add_assoc] at e73
 have p73b : q.data.toList.drop (a + (aA (editIts.take 65) c).length + (aF (rv (c 73)).length).length) = aL dV (rv (c 73)) ++ (aA (editIts.drop 66) c ++ z) := by rw [← List.drop_drop, p73, List.drop_left]; rfl
 have ok73 := w.ok (i := 73) (ks' := [.int .i64, .int .i64, .int .i64, .int .i64, .int .i64]) rfl (by rfl)
 have w73 := w.sub (i := 73) (ks' := [.int .i64, .int .i64, .int .i64, .int .i64, .int .i64]) rfl
 refine cX (E := E) (Li := rd N q a) (n := 81) (rs := [.cell 2 48]) (l := [(0, _)]) (aQ Tryz.func22 rfl rfl rfl) (fun p hp => hin p hp) (List.pairwise_singleton _ _) rfl ?_
 refine rB <| bR (cs := (.int .i64 0 :: .int .i64 0 :: .int .i64 0 :: .int .i64 0 :: .int .i64 0 :: .int .i64 0 :: .string ⟨#[]⟩ :: .string ⟨#[]⟩ :: .int .i64 0 :: .int .i64 0 :: .int .i64 0 :: .string ⟨#[]⟩ :: .bool false :: .bool false :: .bool false :: .int .i64 0 :: .int .i64 0 :: .int .i64 0 :: .int .i64 0 :: .slice none 0 0 :: .int .i64 0 :: .int .i64 0 :: .int .i64 0 :: .int .i64 0 :: .int .i64 0 :: .int .i64 0 :: .int .i64 0 :: .int .i64 0 :: .int .i64 0 :: .slice none 0 0 :: .int .i64 0 :: .int .i64 0 :: .int .i64 0 :: .int .i64 0 :: .int .i64 0 :: .slice none 0 0 :: .int .i64 0 :: .slice none 0 0 :: .slice none 0 0 :: .int .i64 0 :: .int .i64 0 :: .int .i64 0 :: .int .i64 0 :: .string ⟨#[]⟩ :: .int .i64 0 :: .int .i64 0 :: .int .i64 0 :: .int .i64 0 :: .int .i64 0 :: .int .i64 0 :: .slice none 0 0 :: .int .i64 0 :: .int .i64 0 :: .slice none 0 0 :: .int .i64 0 :: .int .i64 0 :: .slice none 0 0 :: .int .i64 0 :: .int .i64 0 :: .int .i64 0 :: .int .i64 0 :: .int .i64 0 :: .int .i64 0 :: .int .i64 0 :: .int .i64 0 :: .int .i64 0 :: .int .i64 0 :: .int .i64 0 :: .int .i64 0 :: .int .i64 0 :: .int .i64 0 :: .slice none 0 0 :: .bool false :: .slice none 0 0 :: .int .i64 0 :: .int .i64 0 :: .int .i64 0 :: .int .i64 0 :: .int .i64 0 :: .int .i64 0 :: .int .i64 0 :: .int .i64 0 :: .int .i64 0 :: .int .i64 0 :: [])) rfl rfl nM gP rfl rfl ?_
 intro N2
 refine rC <| bR (cs := (.int .i64 0 :: .int .i64 0 :: .int .i64 0 :: .int .i64 0 :: .int .i64 0 :: .int .i64 0 :: .string ⟨#[]⟩ :: .string ⟨#[]⟩ :: .int .i64 0 :: .int .i64 0 :: .int .i64 0 :: .string ⟨#[]⟩ :: .bool false :: .bool false :: .bool false :: .int .i64 0 :: .int .i64 0 :: .int .i64 0 :: .int .i64 0 :: .slice none 0 0 :: .int .i64 0 :: .int .i64 0 :: .int .i64 0 :: .int .i64 0 :: .int .i64 0 :: .int .i64 0 :: .int .i64 0 :: .int .i64 0 :: .int .i64 0 :: .slice none 0 0 :: .int .i64 0 :: .int .i64 0 :: .int .i64 0 :: .int .i64 0 :: .int .i64 0 :: .slice none 0 0 :: .int .i64 0 :: .slice none 0 0 :: .slice none 0 0 :: .int .i64 0 :: .int .i64 0 :: .int .i64 0 :: .int .i64 0 :: .string ⟨#[]⟩ :: .int .i64 0 :: .int .i64 0 :: .int .i64 0 :: .int .i64 0 :: .int .i64 0 :: .int .i64 0 :: .slice none 0 0 :: .int .i64 0 :: .int .i64 0 :: .slice none 0 0 :: .int .i64 0 :: .int .i64 0 :: .slice none 0 0 :: .int .i64 0 :: .int .i64 0 :: .int .i64 0 :: .int .i64 0 :: .int .i64 0 :: .int .i64 0 :: .int .i64 0 :: .int .i64 0 :: .int .i64 0 :: .int .i64 0 :: .int .i64 0 :: .int .i64 0 :: .int .i64 0 :: .int .i64 0 :: .slice none 0 0 :: .bool false :: .slice none 0 0 :: .int .i64 0 :: .int .i64 0 :: .int .i64 0 :: .int .i64 0 :: .int .i64 0 :: .int .i64 0 :: .int .i64 0 :: .int .i64 0 :: .int .i64 0 :: .int .i64 0 :: [])) rfl rfl nM gP rfl rfl ?_
 intro N3
 refine tq ?_
 rw [show ((.int .i64 0 :: .int .i64 0 :: .int .i64 0 :: .int .i64 0 :: .int .i64 0 :: .int .i64 0 :: .string ⟨#[]⟩ :: .string ⟨#[]⟩ :: .int .i64 0 :: .int .i64 0 :: .int .i64 0 :: .string ⟨#[]⟩ :: .bool false :: .bool false :: .bool false :: .int .i64 0 :: .int .i64 0 :: .int .i64 0 :: .int .i64 0 :: .slice none 0 0 :: .int .i64 0 :: .int .i64 0 :: .int .i64 0 :: .int .i64 0 :: .int .i64 0 :: .int .i64 0 :: .int .i64 0 :: .int .i64 0 :: .int .i64 0 :: .slice none 0 0 :: .int .i64 0 :: .int .i64 0 :: .int .i64 0 :: .int .i64 0 :: .int .i64 0 :: .slice none 0 0 :: .int .i64 0 :: .slice none 0 0 :: .slice none 0 0 :: .int .i64 0 :: .int .i64 0 :: .int .i64 0 :: .int .i64 0 :: .string ⟨#[]⟩ :: .int .i64 0 :: .int .i64 0 :: .int .i64 0 :: .int .i64 0 :: .int .i64 0 :: .int .i64 0 :: .slice none 0 0 :: .int .i64 0 :: .int .i64 0 :: .slice none 0 0 :: .int .i64 0 :: .int .i64 0 :: .slice none 0 0 :: .int .i64 0 :: .int .i64 0 :: .int .i64 0 :: .int .i64 0 :: .int .i64 0 :: .int .i64 0 :: .int .i64 0 :: .int .i64 0 :: .int .i64 0 :: .int .i64 0 :: .int .i64 0 :: .int .i64 0 :: .int .i64 0 :: .int .i64 0 :: .slice none 0 0 :: .bool false :: .slice none 0 0 :: .int .i64 0 :: .int .i64 0 :: .int .i64 0 :: .int .i64 0 :: .int .i64 0 :: .int .i64 0 :: .int .i64 0 :: .int .i64 0 :: .int .i64 0 :: .int .i64 0 :: []) : List Value) = cellsOf 84 aLf from by kernel_rfl]
 refine fZ (L' := rd N q a ++ [_, _]) (List.perm_append_comm (l₁ := rd N q a) (l₂ := [_, _])) ?_
 have gA : Gr (fY S (rd N q a)) S (fY S (rd N q a)) S := Gr.refl _ _
 have G0 : Got (nw S (fY S (rd N q a))) S jQ aLf c 0 aLf := Got.zero fun _ => rfl
 rw [show rd N q a = rd N q (a + (aA (editIts.take 0) c).length) by rw [List.take_zero, aA]; rfl]
 refine rA <| om rfl <| fo 0 V48 aI rfl <| fo 1 V48 aI rfl <| fo 2 V48 aI rfl <| fo 3 V48 aI rfl <| fo 4 V48 aI rfl <| fo 5 V48 aI rfl <| aM (out := pts N3 [0, 1, 2, 3, 4, 5]) rfl rfl nM oP lI fO rfl rfl (by kernel_rfl) rfl rfl ?_
 intro N12
 refine pX (js := [0, 1, 2, 3, 4, 5]) (ns := [0, 1, 2, 3, 4, 5].map fun j => iv (c j)) rfl rfl nM rfl oV nM rfl (by simp) (by rw [aU]; decide) (w.n64 rfl) (by decide) hq (lU hz 0 [0, 1, 2, 3, 4, 5] rfl) ?_
 obtain ⟨y6, hy6, G6⟩ := G0.nums (n := 84) w [0, 1, 2, 3, 4, 5] rfl rfl rfl
 rw [hy6]
 change Got _ _ _ _ _ 6 _ at G6
 refine rC <| om rfl <| ot (rd N q (a + (aA (editIts.take 6) c).length)) (fun u Lo => u = .string ⟨⟨tv (c 6)⟩⟩ ∧ Lo = rd N q (a + (aA (editIts.take 7) c).length)) aGp oV (fun H hH => by rw [← e6]; exact sB (hH.have fun p hp => by repeat (first | exact hp | exact List.mem_append_left _ hp | exact List.mem_append_left _ (List.mem_append_left _ hp) | apply List.mem_append_right | apply List.mem_cons_of_mem)) (by omega) (by omega) hq p6) ?_
 rintro _ _ ⟨rfl, rfl⟩
 refine fo 6 V48 gJ rfl ?_
 obtain ⟨y7, hy7, G7⟩ := G6.txt (n := 84) w rfl rfl
 change Got _ _ _ _ _ 7 _ at G7
 refine dC rfl nM rfl rfl gJ rfl rfl uP hy7 (by exact bQ rfl) nM ?_
 refine rC <| om rfl <| ot (rd N q (a + (aA (editIts.take 7) c).length)) (fun u Lo => u = .string ⟨⟨tv (c 7)⟩⟩ ∧ Lo = rd N q (a + (aA (editIts.take 8) c).length)) aGp oV (fun H hH => by rw [← e7]; exact sB (hH.have fun p hp => by repeat (first | exact hp | exact List.mem_append_left _ hp | exact List.mem_append_left _ (List.mem_append_left _ hp) | apply List.mem_append_right | apply List.mem_cons_of_mem)) (by omega) (by omega) hq p7) ?_
 rintro _ _ ⟨rfl, rfl⟩
 refine fo 7 V48 gJ rfl ?_
 obtain ⟨y8, hy8, G8⟩ := G7.txt (n := 84) w rfl rfl
 change Got _ _ _ _ _ 8 _ at G8
 refine dC rfl nM rfl rfl gJ rfl rfl uP hy8 (by exact bQ rfl) nM ?_
 refine rC <| om rfl ?_
 refine kZ (Li := rd N q (a + (aA (editIts.take 8) c).length)) (fun u H1 A1 Lo => (∃ f, u = .agg ⟨cellsOf 43 f⟩ ∧ Pts (nw S A1) H1 kNode f (fun i => c (8 + i))) ∧ Lo = rd N q (a + (aA (editIts.take 47) c).length)) rfl rfl nM rfl has58 oV tK nM (fun H hH => ?_) ?_
 ·exact (aPe (hH.have fun p hp => by repeat (first | exact hp | exact List.mem_append_left _ hp | exact List.mem_append_left _ (List.mem_append_left _ hp) | apply List.mem_append_right | apply List.mem_cons_of_mem)) (w.shift (ks2 := kNode) 8 rfl) hm17 hm27 h35 h37 h38 h50 h11 h43 hq p8).mono fun u H' _ ⟨Lo, t, ⟨f, e, p⟩, e2⟩ => ⟨Lo, t, ⟨f, e, p.gr (vX (hH.nxT gA (fun j h => nW h)))⟩, e2.trans (by rw [← e8])⟩
 rintro _ H8 A8 _ g8 ⟨⟨f8, rfl, q8⟩, rfl⟩
 replace gA := gA.trans g8
 replace G8 := G8.gr g8.nw
 refine fo 8 V48 fU rfl ?_
 obtain ⟨y51, hy51, G51⟩ := G8.putr (n := 84) q8 rfl rfl rfl
 change Got _ _ _ _ _ 51 _ at G51
 refine bX rfl nM rfl rfl fU (by exact aU _ _) (q8.cells (n := 43) rfl).one uP hy51 (by exact cH rfl rfl) nM ?_
 refine rC <| om rfl ?_
 refine kZ (Li := rd N q (a + (aA (editIts.take 47) c).length)) (fun u H1 A1 Lo => (∃ f, u = .agg ⟨cellsOf 3 f⟩ ∧ Pts (nw S A1) H1 kM f (fun i => c (51 + i))) ∧ Lo = rd N q (a + (aA (editIts.take 48) c).length)) rfl rfl nM rfl aVp oV tK nM (fun H hH => ?_) ?_
 ·exact (aGx (hH.have fun p hp => by repeat (first | exact hp | exact List.mem_append_left _ hp | exact List.mem_append_left _ (List.mem_append_left _ hp) | apply List.mem_append_right | apply List.mem_cons_of_mem)) (w.shift (ks2 := kM) 51 rfl) hm51 hq p51).mono fun u H' _ ⟨Lo, t, ⟨f, e, p⟩, e2⟩ => ⟨Lo, t, ⟨f, e, p.gr (vX (hH.nxT gA (fun j h => nW h)))⟩, e2.trans (by rw [← e51])⟩
 rintro _ H51 A51 _ g51 ⟨⟨f51, rfl, q51⟩, rfl⟩
 replace gA := gA.trans g51
 replace G51 := G51.gr g51.nw
 refine fo 51 V48 fI rfl ?_
 obtain ⟨y54, hy54, G54⟩ := G51.putr (n := 84) q51 rfl rfl rfl
 change Got _ _ _ _ _ 54 _ at G54
 refine bX rfl nM rfl rfl fI (by exact aU _ _) (q51.cells (n := 3) rfl).one uP hy54 (by exact cH rfl rfl) nM ?_
 refine rC <| om rfl ?_
 refine kZ (Li := rd N q (a + (aA (editIts.take 48) c).length)) (fun u H1 A1 Lo => (∃ f, u = .agg ⟨cellsOf 3 f⟩ ∧ Pts (nw S A1) H1 kI f (fun i => c (54 + i))) ∧ Lo = rd N q (a + (aA (editIts.take 49) c).length)) rfl rfl nM rfl aVe oV tK nM (fun H hH => ?_) ?_
 ·exact (aKx (hH.have fun p hp => by repeat (first | exact hp | exact List.mem_append_left _ hp | exact List.mem_append_left _ (List.mem_append_left _ hp) | apply List.mem_append_right | apply List.mem_cons_of_mem)) (w.shift (ks2 := kI) 54 rfl) hm54 hq p54).mono fun u H' _ ⟨Lo, t, ⟨f, e, p⟩, e2⟩ => ⟨Lo, t, ⟨f, e, p.gr (vX (hH.nxT gA (fun j h => nW h)))⟩, e2.trans (by rw [← e54])⟩
 rintro _ H54 A54 _ g54 ⟨⟨f54, rfl, q54⟩, rfl⟩
 replace gA := gA.trans g54
 replace G54 := G54.gr g54.nw
 refine fo 54 V48 fH rfl ?_
 obtain ⟨y57, hy57, G57⟩ := G54.putr (n := 84) q54 rfl rfl rfl
 change Got _ _ _ _ _ 57 _ at G57
 refine bX rfl nM rfl rfl fH (by exact aU _ _) (q54.cells (n := 3) rfl).one uP hy57 (by exact cH rfl rfl) nM ?_
 refine rC <| om rfl ?_
 refine kZ (Li := rd N q (a + (aA (editIts.take 49) c).length)) (fun u H1 A1 Lo => (∃ f, u = .agg ⟨cellsOf 16 f⟩ ∧ Pts (nw S A1) H1 kBrush f (fun i => c (57 + i))) ∧ Lo = rd N q (a + (aA (editIts.take 65) c).length)) rfl rfl nM rfl has61 oV tK nM (fun H hH => ?_) ?_
 ·exact (aLk (hH.have fun p hp => by repeat (first | exact hp | exact List.mem_append_left _ hp | exact List.mem_append_left _ (List.mem_append_left _ hp) | apply List.mem_append_right | apply List.mem_cons_of_mem)) (w.shift (ks2 := kBrush) 57 rfl) h71 h712 hq p57).mono fun u H' _ ⟨Lo, t, ⟨f, e, p⟩, e2⟩ => ⟨Lo, t, ⟨f, e, p.gr (vX (hH.nxT gA (fun j h => nW h)))⟩, e2.trans (by rw [← e57])⟩
 rintro _ H57 A57 _ g57 ⟨⟨f57, rfl, q57⟩, rfl⟩
 replace gA := gA.trans g57
 replace G57 := G57.gr g57.nw
 refine fo 57 V48 jT rfl ?_
 obtain ⟨y73, hy73, G73⟩ := G57.putr (n := 84) q57 rfl rfl rfl
 change Got _ _ _ _ _ 73 _ at G73
 refine bX rfl nM rfl rfl jT (by exact aU _ _) (q57.cells (n := 16) rfl).one uP hy73 (by exact cH rfl rfl) nM ?_
 refine tq <| rB <| om rfl <| ot (rd N q (a + (aA (editIts.take 65) c).length)) (fun u Lo => u = .int .i64 (((rv (c 73)).length : Nat) : Int) ∧ Lo = rd N q (a + (aA (editIts.take 65) c).length + (aF (rv (c 73)).length).length)) mO oV (fun H hH => fE (hH.have fun p hp => by repeat (first | exact hp | exact List.mem_append_left _ hp | exact List.mem_append_left _ (List.mem_append_left _ hp) | apply List.mem_append_right | apply List.mem_cons_of_mem)) (by omega) (by omega) hq p73) ?_
 rintro _ _ ⟨rfl, rfl⟩
 refine om rfl <| aB <| aK ?_
 refine bK (σ := Nat × Nat) (fun x => (rv (c 73)).length - x.2) (fun x => [(0, .pointer (some ⟨2 * N + 1, 0, none⟩)), (2, .pointer (some ⟨2 * N2 + 1, 0, none⟩)), (3, .pointer (some ⟨2 * N3 + 1, 0, none⟩)), (33, .int .i64 (((rv (c 73)).length : Nat) : Int)), (34, .int .i64 ((x.2 : Nat) : Int))]) (fun _ => H57) (fun _ => A57) (fun x => rd N q (a + (aA (editIts.take 65) c).length + (aF (rv (c 73)).length).length + (aL dV ((rv (c 73)).take x.2)).length) ++ ((N3, AObj.cells (cellsOf 84 (gX y73 73 (gsl x.1 x.2))) (cI E 48) true) :: (N2, AObj.cells (cellsOf 84 aLf) (cI E 48) true) :: fK x.1 5 (jH ((rv (c 73)).take x.2)) x.2)) (fun x => x.2 ≤ (rv (c 73)).length) ((0, 0)) ((Nat.zero_le _)) pK rfl rfl (by rw [show gX y73 73 (gsl 0 0) = y73 from pG (G73.2 73 (Nat.le_refl _))]; exact List.Sublist.refl _) ?_
 intro st hJ2 t1
 obtain ⟨M1, k⟩ := st
 dsimp only at hJ2 ⊢
 refine aH ?_
 rcases Nat.lt_or_ge k (rv (c 73)).length with hk | hk
 ·obtain ⟨d, hd⟩ : ∃ d, (rv (c 73))[k]? = some d := ⟨_, List.getElem?_eq_getElem hk⟩
  have hdm := List.mem_of_getElem? hd
  have wd := w73 d hdm
  have okd := ok73 d hdm
  have hd5 : d.length = 5 := okd.1
  have hX : (d.map CT.val).length = 5 := by rw [List.length_map, hd5]
  obtain ⟨hp1, hp2⟩ := sI p73b hd
  refine rA <| ob rfl (by exact aX (by omega)) ?_
  refine tq <| aO rfl <| aJ <| aD <| aH <| aK <| rB <| bR (cs := (.int .i64 0 :: .int .i64 0 :: .int .i64 0 :: .int .i64 0 :: .int .i64 0 :: [])) rfl rfl nM mP rfl rfl ?_
  intro N4
  refine tq <| fZ (pC (T := rd N q _)) ?_
  refine rA <| om rfl <| fo 0 V71 aI rfl <| fo 1 V71 aI rfl <| fo 2 V71 aI rfl <| fo 3 V71 aI rfl <| fo 4 V71 aI rfl <| aM (out := pts N4 [0, 1, 2, 3, 4]) rfl rfl nM oP lI fO rfl rfl (by kernel_rfl) rfl rfl ?_
  intro N42
  refine pX (js := [0, 1, 2, 3, 4]) (ns := [0, 1, 2, 3, 4].map fun j => iv (cfn d j)) rfl rfl nM rfl oV nM rfl (by simp) (by decide) (wd.n64 rfl) (by decide) hq ⟨(rF hp1 [0, 1, 2, 3, 4] rfl).1, (rF hp1 [0, 1, 2, 3, 4] rfl).2.trans hp2⟩ ?_
  rw [show wr [.int .i64 0, .int .i64 0, .int .i64 0, .int .i64 0, .int .i64 0] [0, 1, 2, 3, 4] ([0, 1, 2, 3, 4].map fun j => iv (cfn d j)) = d.map CT.val from uT (ks := [.int .i64, .int .i64, .int .i64, .int .i64, .int .i64]) rfl wd hd5 (by rfl)]
  refine rD <| fo 73 V48 nI rfl <| lB rfl V42 (iR _ _ _) ?_
  refine aV rfl rfl rfl (by exact bV (s := 5) V71 rfl mP rfl mA (by have h9 := hX; omega) (by rw [List.drop_zero, List.take_of_length_le (Nat.le_of_eq hX)])) ?_
  refine aM (out := d.map CT.val) rfl rfl nM oP V42 mP rfl rfl (pM hX (by kernel_rfl)) (by rw [hX]; rfl) rfl ?_
  intro N47
  refine eU (L1 := (_ :: (rd N q _ ++ [_, _, _])) ++ fK _ 5 _ _) (List.Sublist.refl _) (by intro h; cases h) ?_
  refine iW (bt := 40) (sz := 5) (L1 := _ :: (rd N q _ ++ [_, _, _])) (cs' := jH ((rv (c 73)).take (k + 1))) rfl rfl nM rfl rfl rfl rfl rfl V42 V42 (by rfl) mP rfl rfl (by decide) rfl (eL (List.mem_append_left _ mA) (by rw [hX])) ((iC rfl fun x hx => ok73 x (List.mem_of_mem_take hx)).trans (by rw [List.length_take, Nat.min_eq_left (by omega)]; rfl)) (okd.one S) (by omega) (by omega) (nR hd) nM ?_
  intro M2
  refine fo 73 V48 nI rfl <| dC rfl nM rfl rfl nI rfl (qF _ _) uP ((jF rfl).trans (congrArg (cellsOf _) (oK _ _ _ _))) (by exact bQ rfl) nM ?_
  refine aZ <| bA <| aD <| rA <| ob rfl (by exact aY (by omega)) ?_
  refine om rfl <| aZ ?_
  refine cN (M2, k + 1) (show (rv (c 73)).length - (k + 1) < (rv (c 73)).length - k by omega) (show k + 1 ≤ (rv (c 73)).length by omega) pK rfl rfl ?_
  exact List.Sublist.cons _ (List.Sublist.cons_cons _ (List.Sublist.cons _ (List.Sublist.refl _)))
 ·obtain rfl : k = (rv (c 73)).length := by omega
  rw [List.take_length]
  rw [show aL dV (rv (c 73)) = (rv (c 73)).flatMap fun r => aA dV (cfn r) from rfl, e73]
  refine rA <| ob rfl (by exact aW (by omega)) ?_
  refine tq <| aG rfl <| bJ <| aR <| aS <| aN <| aD <| aH <| sF (L' := rd N q _ ++ [_, _]) (b := 40) (ks := [.int .i64, .int .i64, .int .i64, .int .i64, .int .i64]) (rows := (rv (c 73))) (sz := 5) (Takes.end' (T := fK _ _ _ _) (L1 := rd N q _ ++ [_, _])) gA (fun j h => nW h) rfl rfl (iC rfl ok73) (fun j e he => oN rfl ok73 _ _ j e he) (by omega) (by omega) ?_
  intro H73 A73 g73 q73
  replace gA := gA.trans g73
  rw [← w.rc (i := 73) (ks' := [.int .i64, .int .i64, .int .i64, .int .i64, .int .i64]) rfl] at q73
  have G74 := (G73.gr g73.nw).upd rfl q73
  change Got _ _ _ _ _ 74 _ at G74
  generalize gX y73 73 (gsl M1 (rv (c 73)).length) = y74 at G74 ⊢
  refine rA <| om rfl <| fo 74 V48 eB rfl <| fo 74 V44 aI rfl <| fo 74 V48 eB rfl <| fo 75 V44 aI rfl <| aM (out := pts N3 [74, 75]) rfl rfl nM oP lI fO rfl rfl (by kernel_rfl) rfl rfl ?_
  intro N56
  refine pX (js := [74, 75]) (ns := [74, 75].map fun j => iv (c j)) rfl rfl nM rfl oV nM rfl (by simp) (by rw [aU]; decide) (w.n64 rfl) (by decide) hq (lU hz 66 [74, 75] rfl) ?_
  obtain ⟨y76, hy76, G76⟩ := G74.nums (n := 84) w [74, 75] rfl rfl rfl
  rw [hy76]
  change Got _ _ _ _ _ 76 _ at G76
  refine rC <| om rfl <| fo 76 V48 kJ rfl <| fo 76 V46 aI rfl <| fo 76 V48 kJ rfl <| fo 77 V46 aI rfl <| fo 76 V48 kJ rfl <| fo 78 V46 aI rfl <| fo 76 V48 kJ rfl <| fo 79 V46 aI rfl <| aM (out := pts N3 [76, 77, 78, 79]) rfl rfl nM oP lI fO rfl rfl (by kernel_rfl) rfl rfl ?_
  intro N67
  refine pX (js := [76, 77, 78, 79]) (ns := [76, 77, 78, 79].map fun j => iv (c j)) rfl rfl nM rfl oV nM rfl (by simp) (by rw [aU]; decide) (w.n64 rfl) (by decide) hq (lU hz 68 [76, 77, 78, 79] rfl) ?_
  obtain ⟨y80, hy80, G80⟩ := G76.nums (n := 84) w [76, 77, 78, 79] rfl rfl rfl
  rw [hy80]
  change Got _ _ _ _ _ 80 _ at G80
  refine rC <| om rfl <| fo 80 V48 bL rfl <| fo 80 V31 aI rfl <| fo 80 V48 bL rfl <| fo 81 V31 aI rfl <| fo 80 V48 bL rfl <| fo 82 V31 aI rfl <| fo 80 V48 bL rfl <| fo 83 V31 aI rfl <| aM (out := pts N3 [80, 81, 82, 83]) rfl rfl nM oP lI fO rfl rfl (by kernel_rfl) rfl rfl ?_
  intro N78
  refine pX (js := [80, 81, 82, 83]) (ns := [80, 81, 82, 83].map fun j => iv (c j)) rfl rfl nM rfl oV nM rfl (by simp) (by rw [aU]; decide) (w.n64 rfl) (by decide) hq (lU hz 72 [80, 81, 82, 83] rfl) ?_
  obtain ⟨y84, hy84, G84⟩ := G80.nums (n := 84) w [80, 81, 82, 83] rfl rfl rfl
  rw [hy84]
  change Got _ _ _ _ _ 84 _ at G84
  refine rC <| aV rfl rfl rfl (by exact bV V48 rfl gP rfl mA (by exact bQ rfl) (by exact bZ)) ?_
  refine bX rfl nM rfl rfl gP (by exact aU _ _) ((G84.pts (by rfl)).cells (n := 84) rfl).one uP (cF (aU _ _)) (by exact cH rfl rfl) nM ?_
  refine aB <| aT <| aE (.cell rfl (by exact bV V48 rfl gP rfl mA (by exact bQ rfl) (by exact bZ)) .nil) ?_
  intro H hH
  have hh := hH.subl (L' := rd N q (a + (aA (editIts.take 76) c).length)) (List.sublist_append_left _ _)
  refine ⟨_, hh.turned gA ⟨_, List.Mem.head _⟩, ⟨_, rfl, (G84.pts (by rfl)).gr hh.give⟩, by rw [show editIts.take 76 = editIts from rfl]⟩
end Go.Proofs.YteklajiaicmogaaGreatDoor
namespace Go.Proofs.YteklajiaicmogaaGreatDoor
open Go Go.AM
theorem has20 : ∃ fn, E.fn 20 = some fn := ⟨_, aQ Tryz.func20 rfl rfl rfl⟩
theorem aVc : ∃ fn, E.fn 21 = some fn := ⟨_, aQ Tryz.func21 rfl rfl rfl⟩
theorem has22 : ∃ fn, E.fn 22 = some fn := ⟨_, aQ Tryz.func22 rfl rfl rfl⟩
theorem has23 : ∃ fn, E.fn 23 = some fn := ⟨_, aQ Tryz.func23 rfl rfl rfl⟩
theorem boxRd : cI E 121 = TRd + dQ := by kernel_rfl
theorem aRl {S : AH} {q : ByteArray} : XCall Tryz.prog 21 [.string q] S fun u H' => ∃ Lo, Turned [] S H' Lo ∧ ∃ M, u = .pointer (some ⟨2 * M + 1, 0, none⟩) ∧ Lo = rd M q 0 := by
 refine cX (E := E) (Li := []) (n := 6) (rs := [.tmp 2]) (l := [(0, _)]) (aQ Tryz.func21 rfl rfl rfl) (fun p hp => by cases hp) List.Pairwise.nil rfl ?_
 refine rB <| oa rfl <| rC <| om rfl <| rK rfl rfl oP (show _ = some (Value.agg ⟨[.bool true, .string q, .int .i64 0, .int .i64 0]⟩) from by rfl) ?_
 refine cZ rfl rfl nM rfl ?_
 intro N5
 refine oa rfl <| aB <| aT <| aE (.tmp rfl .nil) ?_
 rw [boxRd]
 exact fun H hH => ⟨_, hH.turned (Gr.refl _ _) ⟨_, List.Mem.head _⟩, _, rfl, rfl⟩
theorem aXt {S : AH} {N a : Nat} {q : ByteArray} (hin : ∀ p ∈ rd N q a, S.tr.get p.1 = some p.2 ∧ p.1 < S.nx) (hq : q.data.toList.length ≤ 1099511627776) (ha : a = q.data.toList.length) : XCall Tryz.prog 23 [.pointer (some ⟨2 * N + 1, 0, none⟩)] S fun u H' => ∃ Lo, Turned (rd N q a) S H' Lo ∧ (u = .int .i64 0 ∧ Lo = rd N q a) := by
 refine cX (E := E) (Li := rd N q a) (n := 12) (rs := [.tmp 2]) (l := [(0, _)]) (aQ Tryz.func23 rfl rfl rfl) (fun p hp => hin p hp) (List.pairwise_singleton _ _) rfl ?_
 refine rB <| oa rfl <| tq <| rB <| om rfl <| ot (rd N q a) (fun u Lo => u = .int .i64 0 ∧ Lo = rd N q a) qX oV (fun H hH => nL (hH.have fun p hp => by repeat (first | exact hp | exact List.mem_append_left _ hp | exact List.mem_append_left _ (List.mem_append_left _ hp) | apply List.mem_append_right | apply List.mem_cons_of_mem))) ?_
 rintro _ _ ⟨rfl, rfl⟩
 refine oa rfl <| rC <| om rfl <| ob rfl (by exact bP (by rfl)) ?_
 refine aB <| aG rfl <| aJ <| aD <| aH <| rB <| om rfl <| ot (rd N q a) (fun u Lo => u = .int .i64 ((q.data.toList.length - a : Nat) : Int) ∧ Lo = rd N q a) aKq oV (fun H hH => yM (hH.have fun p hp => by repeat (first | exact hp | exact List.mem_append_left _ hp | exact List.mem_append_left _ (List.mem_append_left _ hp) | apply List.mem_append_right | apply List.mem_cons_of_mem)) hq (by omega)) ?_
 rintro _ _ ⟨rfl, rfl⟩
 refine ob rfl (by exact bW (by omega)) ?_
 refine aB <| aG rfl <| aJ <| aD <| rB <| oa rfl <| aB <| aT <| aE (.tmp rfl .nil) ?_
 exact fun H hH => ⟨_, hH.turned (Gr.refl _ _) ⟨_, List.Mem.head _⟩, rfl, rfl⟩
set_option maxHeartbeats 1000000 in
theorem aSz {S : AH} {t : List UInt8} (ht : t.length ≤ 1048576) : XCall Tryz.prog 20 [.string ⟨⟨dE t⟩⟩] S fun v H' => v = .tuple ⟨[.string ⟨⟨t⟩⟩, .int .i64 (((dE t).length : Nat) : Int), .int .i64 0]⟩ ∧ Kept S.nx S H' := by
 have hl : (dE t).length = (fJ t).length + 4 := by rw [dE, List.length_append]; rfl
 have hT := rO (s := t) ht (by decide)
 have hq : (dE t).length ≤ 1099511627776 := by omega
 have hz : (dE t).drop 0 = fJ t ++ le4 (tC (fJ t)) := rfl
 have hc1 : ((dE t).take ((fJ t).length + 4)).drop (fJ t).length = le4 (tC (fJ t)) := by rw [← hl, List.take_length, dE, List.drop_left]
 have hc2 : ((dE t).take (fJ t).length).drop 0 = fJ t := by rw [List.drop_zero, dE, List.take_left]
 refine bN (E := E) (n := 39) (rs := [.tmp 2, .tmp 3, .tmp 4]) (l := [(0, _)]) (aQ Tryz.func20 rfl rfl rfl) (A0 := fun _ => False) (fun j h => h.elim) rfl ?_
 refine rB <| oa rfl <| oa rfl <| oa rfl <| rC <| om rfl <| ot [] (fun u Lo => ∃ M, u = .pointer (some ⟨2 * M + 1, 0, none⟩) ∧ Lo = rd M ⟨⟨dE t⟩⟩ 0) aVc oV (fun H hH => aRl) ?_
 rintro _ _ ⟨M, rfl, rfl⟩
 refine oa rfl <| rC <| om rfl <| ot (rd M ⟨⟨dE t⟩⟩ (0)) (fun u Lo => u = .string ⟨⟨t⟩⟩ ∧ Lo = rd M ⟨⟨dE t⟩⟩ (0 + (fJ t).length)) aGp oV (fun H hH => sB (hH.have fun p hp => by repeat (first | exact hp | exact List.mem_append_left _ hp | exact List.mem_append_left _ (List.mem_append_left _ hp) | apply List.mem_append_right | apply List.mem_cons_of_mem)) (by omega) (by omega) hq hz) ?_
 rintro _ _ ⟨rfl, rfl⟩
 refine oa rfl <| tq <| rB <| om rfl <| ot (rd M ⟨⟨dE t⟩⟩ (0 + (fJ t).length)) (fun u Lo => u = .int .i64 0 ∧ Lo = rd M ⟨⟨dE t⟩⟩ (0 + (fJ t).length)) qX oV (fun H hH => nL (hH.have fun p hp => by repeat (first | exact hp | exact List.mem_append_left _ hp | exact List.mem_append_left _ (List.mem_append_left _ hp) | apply List.mem_append_right | apply List.mem_cons_of_mem))) ?_
 rintro _ _ ⟨rfl, rfl⟩
 refine oa rfl <| rC <| om rfl <| ob rfl (by exact bP (by rfl)) ?_
 refine aB <| aG rfl <| aJ <| aD <| aH <| rB <| om rfl <| ot (rd M ⟨⟨dE t⟩⟩ (0 + (fJ t).length)) (fun u Lo => u = .int .i64 (((dE t).length - (0 + (fJ t).length) : Nat) : Int) ∧ Lo = rd M ⟨⟨dE t⟩⟩ (0 + (fJ t).length)) aKq oV (fun H hH => yM (hH.have fun p hp => by repeat (first | exact hp | exact List.mem_append_left _ hp | exact List.mem_append_left _ (List.mem_append_left _ hp) | apply List.mem_append_right | apply List.mem_cons_of_mem)) hq (by show 0 + (fJ t).length ≤ (dE t).length; omega)) ?_
 rintro _ _ ⟨rfl, rfl⟩
 refine ob rfl (by exact aW (by omega)) ?_
 refine aB <| aG rfl <| aJ <| aD <| rB <| om rfl <| dB rfl rfl rfl rfl rfl rfl V9 <| om rfl <| ot (rd M ⟨⟨dE t⟩⟩ (0 + (fJ t).length)) (fun u Lo => u = .int .i64 (((dE t).length - (0 + (fJ t).length) : Nat) : Int) ∧ Lo = rd M ⟨⟨dE t⟩⟩ (0 + (fJ t).length)) aKq oV (fun H hH => yM (hH.have fun p hp => by repeat (first | exact hp | exact List.mem_append_left _ hp | exact List.mem_append_left _ (List.mem_append_left _ hp) | apply List.mem_append_right | apply List.mem_cons_of_mem)) hq (by show 0 + (fJ t).length ≤ (dE t).length; omega)) ?_
 rintro _ _ ⟨rfl, rfl⟩
 refine ob rfl (by exact fR (c := (((fJ t).length : Nat) : Int)) (by show IntKind.i64.wrap (((dE t).length : Int) - _) = _; rw [cO (by omega) (by omega)]; omega)) ?_
 refine oa rfl <| tq <| aH <| cC (E := E) mixed [8] _ (List.Sublist.refl _) (by kernel_rfl) (by kernel_rfl) (by decide) ?_
 refine om rfl <| om rfl <| om rfl <| ob rfl (by exact jW (c := (((fJ t).length + 4 : Nat) : Int)) (by rw [cO (by omega) (by omega)]; omega)) ?_
 refine wZ (p := (fJ t).length) (q := (fJ t).length + 4) rfl rfl rfl V9 rfl (aBb (by omega) (by show _ ≤ (dE t).length; omega)) ?_
 rw [hc1]
 refine om rfl <| om rfl <| wZ (p := 0) (q := (fJ t).length) rfl rfl rfl V9 rfl (aLn (by show _ ≤ (dE t).length; omega)) ?_
 rw [hc2]
 refine bF rfl rfl (fun _ => mA) rfl aVl oV (fun H hH => aRr ⟨⟨fJ t⟩⟩ (by show (fJ t).length ≤ _; omega)) ?_
 refine ob rfl (by exact kC (by rfl)) ?_
 refine aB <| aG rfl <| aJ <| aD <| rB <| om rfl <| om rfl <| ob rfl (by exact jW (c := (((dE t).length : Nat) : Int)) (by rw [cO (by omega) (by omega)]; omega)) ?_
 refine oa rfl <| oa rfl <| oa rfl <| aB <| aT <| oL (.tmp rfl (.tmp rfl (.tmp rfl .nil))) rfl ?_
 exact fun H hH => ⟨rfl, hH.kept⟩
set_option maxHeartbeats 4000000 in
theorem aLz {S : AH} {c : Nat → CT} (w : Wel jQ c) (hP : cY c) (h1 : (aA editIts c).length ≤ 1048576) (h2 : (dE (aA editIts c)).length ≤ 1048576) : XCall Tryz.prog 6 [.string ⟨⟨dE (aA editIts c)⟩⟩] S fun v H' => ∃ f, v = .tuple ⟨[.agg ⟨cellsOf 84 f⟩, .int .i64 0]⟩ ∧ Pts (fun j => S.nx ≤ j ∧ j < H'.nx) H' jQ f c ∧ Kept S.nx S H' := by
 have hE : fV c = .tuple ⟨[.string ⟨⟨dE (aA editIts c)⟩⟩, .int .i64 0]⟩ := by rw [fV, if_pos hP, if_pos ⟨h1, h2⟩]
 have hz : (aA editIts c).drop 0 = aA editIts c ++ [] := by simp
 refine bN (E := E) (n := 51) (rs := [.cell 2 48, .tmp 3]) (l := [(0, _)]) (aQ Tryz.func6 rfl rfl rfl) (A0 := fun _ => False) (fun j h => h.elim) rfl ?_
 refine rB <| bR (cs := (.int .i64 0 :: .int .i64 0 :: .int .i64 0 :: .int .i64 0 :: .int .i64 0 :: .int .i64 0 :: .string ⟨#[]⟩ :: .string ⟨#[]⟩ :: .int .i64 0 :: .int .i64 0 :: .int .i64 0 :: .string ⟨#[]⟩ :: .bool false :: .bool false :: .bool false :: .int .i64 0 :: .int .i64 0 :: .int .i64 0 :: .int .i64 0 :: .slice none 0 0 :: .int .i64 0 :: .int .i64 0 :: .int .i64 0 :: .int .i64 0 :: .int .i64 0 :: .int .i64 0 :: .int .i64 0 :: .int .i64 0 :: .int .i64 0 :: .slice none 0 0 :: .int .i64 0 :: .int .i64 0 :: .int .i64 0 :: .int .i64 0 :: .int .i64 0 :: .slice none 0 0 :: .int .i64 0 :: .slice none 0 0 :: .slice none 0 0 :: .int .i64 0 :: .int .i64 0 :: .int .i64 0 :: .int .i64 0 :: .string ⟨#[]⟩ :: .int .i64 0 :: .int .i64 0 :: .int .i64 0 :: .int .i64 0 :: .int .i64 0 :: .int .i64 0 :: .slice none 0 0 :: .int .i64 0 :: .int .i64 0 :: .slice none 0 0 :: .int .i64 0 :: .int .i64 0 :: .slice none 0 0 :: .int .i64 0 :: .int .i64 0 :: .int .i64 0 :: .int .i64 0 :: .int .i64 0 :: .int .i64 0 :: .int .i64 0 :: .int .i64 0 :: .int .i64 0 :: .int .i64 0 :: .int .i64 0 :: .int .i64 0 :: .int .i64 0 :: .int .i64 0 :: .slice none 0 0 :: .bool false :: .slice none 0 0 :: .int .i64 0 :: .int .i64 0 :: .int .i64 0 :: .int .i64 0 :: .int .i64 0 :: .int .i64 0 :: .int .i64 0 :: .int .i64 0 :: .int .i64 0 :: .int .i64 0 :: [])) rfl rfl nM gP rfl rfl ?_
 intro N2
 refine oa rfl <| rC <| om rfl <| oc has20 oV (fun H hH => aSz h1) ?_
 refine om rfl <| bS rfl rfl rfl rfl <| bS rfl rfl rfl rfl <| bS rfl rfl rfl rfl <| oa rfl <| oa rfl <| oa rfl <| tq <| rB <| om rfl <| ob rfl (by exact bP (by rfl)) ?_
 refine aB <| aG rfl <| aJ <| aD <| aH <| rB <| om rfl <| om rfl <| dB rfl rfl rfl rfl rfl rfl V9 <| ob rfl (by exact aW (Int.le_refl _)) ?_
 refine aB <| aG rfl <| aJ <| aD <| rB <| om rfl <| ot [] (fun u Lo => ∃ M, u = .pointer (some ⟨2 * M + 1, 0, none⟩) ∧ Lo = rd M ⟨⟨aA editIts c⟩⟩ 0) aVc oV (fun H hH => aRl) ?_
 rintro _ _ ⟨M, rfl, rfl⟩
 refine oa rfl <| rC <| om rfl ?_
 refine kZ (Li := rd M ⟨⟨aA editIts c⟩⟩ 0) (fun u H1 A1 Lo => (∃ f, u = .agg ⟨cellsOf 84 f⟩ ∧ Pts A1 H1 jQ f c) ∧ Lo = rd M ⟨⟨aA editIts c⟩⟩ (0 + (aA editIts c).length)) rfl rfl nM rfl has22 oV tK nM (fun H hH => ?_) ?_
 ·exact (aTo (hH.have fun p hp => by repeat (first | exact hp | exact List.mem_append_left _ hp | exact List.mem_append_left _ (List.mem_append_left _ hp) | apply List.mem_append_right | apply List.mem_cons_of_mem)) w hP (by show (aA editIts c).length ≤ _; omega) hz).mono fun u H' _ ⟨Lo, t, ⟨f, e, p⟩, e2⟩ => ⟨Lo, t, ⟨f, e, p.gr aWw⟩, e2⟩
 rintro _ H5 A5 _ g5 ⟨⟨f, rfl, pf⟩, rfl⟩
 refine bR (cs := (.int .i64 0 :: .int .i64 0 :: .int .i64 0 :: .int .i64 0 :: .int .i64 0 :: .int .i64 0 :: .string ⟨#[]⟩ :: .string ⟨#[]⟩ :: .int .i64 0 :: .int .i64 0 :: .int .i64 0 :: .string ⟨#[]⟩ :: .bool false :: .bool false :: .bool false :: .int .i64 0 :: .int .i64 0 :: .int .i64 0 :: .int .i64 0 :: .slice none 0 0 :: .int .i64 0 :: .int .i64 0 :: .int .i64 0 :: .int .i64 0 :: .int .i64 0 :: .int .i64 0 :: .int .i64 0 :: .int .i64 0 :: .int .i64 0 :: .slice none 0 0 :: .int .i64 0 :: .int .i64 0 :: .int .i64 0 :: .int .i64 0 :: .int .i64 0 :: .slice none 0 0 :: .int .i64 0 :: .slice none 0 0 :: .slice none 0 0 :: .int .i64 0 :: .int .i64 0 :: .int .i64 0 :: .int .i64 0 :: .string ⟨#[]⟩ :: .int .i64 0 :: .int .i64 0 :: .int .i64 0 :: .int .i64 0 :: .int .i64 0 :: .int .i64 0 :: .slice none 0 0 :: .int .i64 0 :: .int .i64 0 :: .slice none 0 0 :: .int .i64 0 :: .int .i64 0 :: .slice none 0 0 :: .int .i64 0 :: .int .i64 0 :: .int .i64 0 :: .int .i64 0 :: .int .i64 0 :: .int .i64 0 :: .int .i64 0 :: .int .i64 0 :: .int .i64 0 :: .int .i64 0 :: .int .i64 0 :: .int .i64 0 :: .int .i64 0 :: .int .i64 0 :: .slice none 0 0 :: .bool false :: .slice none 0 0 :: .int .i64 0 :: .int .i64 0 :: .int .i64 0 :: .int .i64 0 :: .int .i64 0 :: .int .i64 0 :: .int .i64 0 :: .int .i64 0 :: .int .i64 0 :: .int .i64 0 :: [])) rfl rfl nM gP rfl rfl ?_
 intro N8
 refine bX rfl nM rfl rfl gP (by exact aU _ _) (pf.cells (n := 84) rfl).one uP (cF rfl) (by exact cH rfl rfl) nM ?_
 refine tq <| rB <| om rfl <| ot (rd M ⟨⟨aA editIts c⟩⟩ (0 + (aA editIts c).length)) (fun u Lo => u = .int .i64 0 ∧ Lo = rd M ⟨⟨aA editIts c⟩⟩ (0 + (aA editIts c).length)) has23 oV (fun H hH => aXt (hH.have fun p hp => by repeat (first | exact hp | exact List.mem_append_left _ hp | exact List.mem_append_left _ (List.mem_append_left _ hp) | apply List.mem_append_right | apply List.mem_cons_of_mem)) (by show (aA editIts c).length ≤ _; omega) (by show 0 + (aA editIts c).length = (aA editIts c).length; omega)) ?_
 rintro _ _ ⟨rfl, rfl⟩
 refine oa rfl <| rC <| om rfl <| ob rfl (by exact bP (by rfl)) ?_
 refine aB <| aG rfl <| aJ <| aD <| aH <| rB <| aV rfl rfl rfl (by exact bV V48 rfl gP rfl mA (by exact bQ rfl) (by exact bZ)) ?_
 refine oc aOl oV (fun H hH => (oT hH.lt (pf.gr hH.gr) (fun _ => by omega)).mono fun u H' _ h => ⟨h.1.trans hE, h.2⟩) ?_
 refine om rfl <| bS rfl rfl rfl rfl <| bS rfl rfl rfl rfl <| oa rfl <| oa rfl <| rC <| om rfl <| ob rfl (by exact bP (by rfl)) ?_
 refine om rfl <| om rfl <| om rfl <| ob rfl (by exact kC rfl) ?_
 refine pQ rfl <| aB <| aG rfl <| aJ <| aD <| rB <| aV rfl rfl rfl (by exact bV V48 rfl gP rfl mA (by exact bQ rfl) (by exact bZ)) ?_
 refine bX rfl nM rfl rfl gP (by exact aU _ _) (pf.cells (n := 84) rfl).one uP (cF rfl) (by exact cH rfl rfl) nM ?_
 refine oa rfl <| aB <| aT <| dX (.cell rfl (by exact bV V48 rfl gP rfl mA (by exact bQ rfl) (by exact bZ)) (.tmp rfl .nil)) ?_
 intro H hH
 exact ⟨f, rfl, pf.gr ⟨fun j hj => ⟨(hH.sub j hj).resolve_left id, hH.lt j hj⟩, hH.base, hH.w0.symm⟩, hH.kept⟩
end Go.Proofs.YteklajiaicmogaaGreatDoor
namespace Go.Proofs.YteklajiaicmogaaGreatDoor
open Go Go.AM
theorem vK : ∃ fn, E.fn 18 = some fn := ⟨_, aQ Tryz.func18 rfl rfl rfl⟩
theorem eV : ∃ fn, E.fn 46 = some fn := ⟨_, aQ Tryz.func46 rfl rfl rfl⟩
theorem jD : ∃ fn, E.fn 50 = some fn := ⟨_, aQ Tryz.func50 rfl rfl rfl⟩
theorem aXx {n : Nat} (h : n < 18446744073709551616) : bits .and .u64 (n : Int) 127 = ((n % 128 : Nat) : Int) := by
 rw [show (127 : Int) = 2 ^ 7 - 1 from rfl, bits_mask .u64 64 (by decide) dH 7 (by decide) _ (by omega) (by omega)]
 omega
theorem aWp (n : Nat) : bits .or .u64 ((n % 128 : Nat) : Int) 128 = ((n % 128 + 128 : Nat) : Int) := by
 have h : ∀ m : Nat, m < 128 → m ||| 128 = m + 128 := by decide
 rw [show (128 : Int) = ((128 : Nat) : Int) from rfl, (bits_nat .u64 64 (by decide) dH (n % 128) 128 (by omega) (by decide)).2, h _ (by omega)]
theorem aXc {n : Int} (hn : I64 n) (h : ¬ 0 ≤ n) : ((zz n : Nat) : Int) = -(n + 1) * 2 + 1 := by unfold I64 at hn; unfold zz; rw [if_pos (by omega)]; omega
theorem aXq {n : Int} (h : 0 ≤ n) : ((zz n : Nat) : Int) = n * 2 := by unfold zz; rw [if_neg (by omega)]; omega
set_option maxHeartbeats 1000000 in
theorem kX {S : AH} {n : Nat} (hn : n < 18446744073709551616) : XCall Tryz.prog 18 [.int .u64 (n : Int)] S fun v H' => v = .string ⟨⟨aF n⟩⟩ ∧ Kept S.nx S H' := by
 have h10 := bU hn
 refine bN (E := E) (n := 22) (rs := [.tmp 2]) (l := [(0, _)]) (aQ Tryz.func18 rfl rfl rfl) (A0 := fun _ => False) (fun j h => h.elim) rfl ?_
 refine rB <| oa rfl <| rC <| oa rfl <| tq <| aK ?_
 refine bK (σ := Nat × List UInt8) (fun x => x.1) (fun x => [(0, .int .u64 (x.1 : Int)), (3, .string ⟨⟨x.2⟩⟩)]) (fun _ => S) (fun _ => fun _ => False) (fun _ => []) (fun x => x.2 ++ aF x.1 = aF n ∧ x.1 < 18446744073709551616) ((n, [])) (⟨rfl, hn⟩) pK rfl rfl (List.Sublist.refl _) ?_
 intro st hJ2 t1
 obtain ⟨k, done⟩ := st
 obtain ⟨hJ1, hJ2⟩ := hJ2
 dsimp only at hJ1 hJ2 ⊢
 have hdl := congrArg List.length hJ1
 rw [List.length_append] at hdl
 refine aH <| aH ?_
 rcases Nat.lt_or_ge k 128 with hk | hk
 ·refine rA <| om rfl <| ob rfl (by exact kF (by omega)) ?_
  refine aB <| aG rfl <| bJ <| aR <| aS <| aN <| aD <| rB <| om rfl <| om rfl <| cE rfl rfl rfl V65 V5 (oS _) ?_
  refine aM (out := [UInt8.ofNat k].map eN) rfl rfl nM oP V98 oZ rfl rfl (by kernel_rfl) rfl rfl ?_
  intro N19
  refine lW (bs := [UInt8.ofNat k]) rfl rfl nM rfl V98 V5 V9 mA rfl (kG _) ?_
  refine ob rfl (by exact bE (v := ⟨⟨done ++ [UInt8.ofNat k]⟩⟩) (by show done.length + 1 ≤ _; omega) (rfl)) ?_
  refine oa rfl <| aB <| aT <| aE (.tmp rfl .nil) ?_
  exact fun H hH => ⟨by rw [← hJ1, jY hk], hH.kept⟩
 ·refine rA <| om rfl <| ob rfl (by exact eM (by omega)) ?_
  refine aB <| aO rfl <| aJ <| aD <| aK <| rB <| om rfl <| om rfl <| ob rfl (by exact pN (aXx hJ2)) ?_
  refine ob rfl (by exact wM (aWp k)) ?_
  refine cE rfl rfl rfl V65 V5 (oS _) ?_
  refine aM (out := [UInt8.ofNat (k % 128 + 128)].map eN) rfl rfl nM oP V98 oZ rfl rfl (by kernel_rfl) rfl rfl ?_
  intro N11
  refine lW (bs := [UInt8.ofNat (k % 128 + 128)]) rfl rfl nM rfl V98 V5 V9 mA rfl (kG _) ?_
  refine ob rfl (by exact bE (v := ⟨⟨done ++ [UInt8.ofNat (k % 128 + 128)]⟩⟩) (by show done.length + 1 ≤ _; omega) (rfl)) ?_
  refine oa rfl <| rD <| om rfl <| ob rfl (by exact kA (by decide) (jV (j := 7) rfl)) ?_
  refine oa rfl <| aZ <| bA ?_
  refine cN (k / 128, done ++ [UInt8.ofNat (k % 128 + 128)]) (show k / 128 < k by omega) ⟨by rw [← hJ1, nZ hk]; simp, (show k / 128 < 18446744073709551616 by omega)⟩ pK rfl rfl (List.nil_sublist _)
theorem gS {S : AH} {n : Int} (hn : I64 n) : XCall Tryz.prog 46 [.int .i64 n] S fun v H' => v = .string ⟨⟨bO n⟩⟩ ∧ Kept S.nx S H' := by
 have h64 := aFa hn
 obtain ⟨hn0, hn1⟩ := id hn
 refine bN (E := E) (n := 16) (rs := [.tmp 2]) (l := [(0, _)]) (aQ Tryz.func46 rfl rfl rfl) (A0 := fun _ => False) (fun j h => h.elim) rfl ?_
 refine rB <| oa rfl <| tq <| aH ?_
 rcases Decidable.em (0 ≤ n) with h | h
 ·have hz := aXq h
  refine rA <| om rfl <| ob rfl (by exact eM (by omega)) ?_
  refine aB <| aO rfl <| rB <| om rfl <| cE rfl rfl rfl V3 V65 (b := n) (by rw [aBg]; omega) ?_
  refine ob rfl (by exact gE (c := ((zz n : Nat) : Int)) (by rw [aBg]; omega)) ?_
  refine oc vK oV (fun H hH => kX h64) ?_
  refine oa rfl <| aB <| aT <| aP <| aE (.tmp rfl .nil) ?_
  exact fun H hH => ⟨rfl, hH.kept⟩
 ·have hz := aXc hn h
  refine rA <| om rfl <| ob rfl (by exact kF (by omega)) ?_
  refine aB <| aG rfl <| aJ <| aD <| rB <| om rfl <| ob rfl (by exact jW (c := n + 1) (cO (by omega) (by omega))) ?_
  refine aGa rfl rfl rfl (show aun .neg (.int .i64 (n + 1)) = some (.int .i64 (-(n + 1))) by simp only [aun]; rw [cO (by omega) (by omega), Int.zero_sub]) ?_
  refine cE rfl rfl rfl V3 V65 (b := -(n + 1)) (by rw [aBg]; omega) ?_
  refine ob rfl (by exact gE (c := -(n + 1) * 2) (by rw [aBg]; omega)) ?_
  refine ob rfl (by exact jW (c := ((zz n : Nat) : Int)) (by rw [aBg]; omega)) ?_
  refine oc vK oV (fun H hH => kX h64) ?_
  refine oa rfl <| aB <| aT <| aE (.tmp rfl .nil) ?_
  exact fun H hH => ⟨rfl, hH.kept⟩
theorem aPw {S : AH} {s : ByteArray} (hs : s.data.toList.length ≤ 1099511627776) : XCall Tryz.prog 14 [.string s] S fun v H' => v = .string ⟨⟨fJ s.data.toList⟩⟩ ∧ Kept S.nx S H' := by
 have h10 := bU (n := s.data.toList.length) (by omega)
 refine bN (E := E) (n := 9) (rs := [.tmp 2]) (l := [(0, _)]) (aQ Tryz.func14 rfl rfl rfl) (A0 := fun _ => False) (fun j h => h.elim) rfl ?_
 refine rB <| oa rfl <| rC <| om rfl <| dB rfl rfl rfl rfl rfl rfl V9 <| cE rfl rfl rfl V3 V65 (dH _ (by omega) (by omega)) ?_
 refine oc vK oV (fun H hH => kX (by omega)) ?_
 refine om rfl <| ob rfl (by exact bE (v := ⟨⟨fJ s.data.toList⟩⟩) (by show (aF s.data.toList.length).length + _ ≤ _; omega) (rfl)) ?_
 refine oa rfl <| aB <| aT <| aE (.tmp rfl .nil) ?_
 exact fun H hH => ⟨rfl, hH.kept⟩
set_option maxHeartbeats 1000000 in
theorem aNt {S : AH} {A : Nat → Prop} (hA : ∀ j, A j → j < S.nx) {x : Value} {l : List (List CT)} (hx : CellA A S (.row 8 [.int .i64]) x (.row l)) (hl : l.length ≤ 1073741824) : XCall Tryz.prog 49 [x] S fun v H' => v = .string ⟨⟨aF l.length ++ eJ l⟩⟩ ∧ Kept S.nx S H' := by
 obtain ⟨l2, ax, cx, e2, rfl, rx⟩ := hx.rowD
 cases e2
 have hb := rx.len
 have h64 := sR rx
 have h10 := bU (n := l.length) (by omega)
 refine bN (E := E) (n := 23) (rs := [.tmp 2]) (l := [(0, _)]) (aQ Tryz.func49 rfl rfl rfl) hA rfl ?_
 refine rB <| oa rfl <| rC <| om rfl <| ll rfl V22 <| cE rfl rfl rfl V3 V65 (dH _ (by omega) (by omega)) ?_
 refine oc vK oV (fun H hH => kX (by omega)) ?_
 refine oa rfl <| tq <| rB <| oa rfl <| aB <| aK ?_
 refine bK (σ := Nat) (fun k => l.length - k) (fun k => [(0, .slice ax l.length cx), (3, .string ⟨⟨aF l.length ++ eJ (l.take k)⟩⟩), (4, .int .i64 ((k : Nat) : Int))]) (fun _ => S) (fun _ => A) (fun _ => []) (fun k => k ≤ l.length) (0) ((Nat.zero_le _)) (by repeat (first | exact .nil | refine .cons (by first | rfl | (show some _ = some (Value.string ⟨⟨aF l.length ++ eJ (l.take 0)⟩⟩); simp [eJ])) ?_)) rfl rfl (List.Sublist.refl _) ?_
 intro k hJ2 t1
 refine aH <| aH ?_
 rcases Nat.lt_or_ge k l.length with hk | hk
 ·obtain ⟨qx, us, d, eqx, ix, hc, lx, kx⟩ := rx.at' k hk
  cases eqx
  obtain ⟨n, rfl, rfl, hn⟩ := tB kx
  obtain ⟨x0, ex0, lx1⟩ := dW lx
  cases ex0
  have h11 := jJ hn
  have h12 := oM h64 k
  refine rA <| om rfl <| om rfl <| ll rfl V22 <| ob rfl (by exact aX (by omega)) ?_
  refine aB <| aO rfl <| aJ <| aD <| aH <| aK <| rA <| om rfl <| om rfl <| om rfl <| bH rfl rfl rfl rfl V22 aI rfl (by omega) ?_
  refine aV rfl rfl rfl (by exact cU V3 rfl (InA.add ix) lx1) ?_
  refine oc eV oV (fun H hH => gS hn) ?_
  refine ob rfl (by exact bE (v := ⟨⟨aF l.length ++ eJ (l.take (k + 1))⟩⟩) (by show (aF l.length ++ eJ (l.take k)).length + (bO n).length ≤ _; rw [List.length_append]; omega) (by rw [show eJ (l.take (k + 1)) = eJ (l.take k) ++ bO n from (mX hc).symm, ← List.append_assoc])) ?_
  refine oa rfl <| aZ <| bA <| aD <| rA <| om rfl <| ob rfl (by exact aY (by omega)) ?_
  refine oa rfl <| aZ ?_
  refine cN (k + 1) (show l.length - (k + 1) < l.length - k by omega) (show k + 1 ≤ l.length by omega) pK rfl rfl (List.nil_sublist _)
 ·obtain rfl : k = l.length := by omega
  rw [List.take_length]
  refine rA <| om rfl <| om rfl <| ll rfl V22 <| ob rfl (by exact aW (by omega)) ?_
  refine aB <| aG rfl <| bJ <| aR <| aS <| aN <| aD <| rB <| om rfl <| oa rfl <| aB <| aT <| aE (.tmp rfl .nil) ?_
  exact fun H hH => ⟨rfl, hH.kept⟩
theorem fD {S : AH} {n : Nat} (hn : n < 9223372036854775808) : XCall Tryz.prog 50 [.int .i64 (n : Int)] S fun v H' => v = .string ⟨⟨aF n⟩⟩ ∧ Kept S.nx S H' := by
 refine bN (E := E) (n := 6) (rs := [.tmp 2]) (l := [(0, _)]) (aQ Tryz.func50 rfl rfl rfl) (A0 := fun _ => False) (fun j h => h.elim) rfl ?_
 refine rB <| oa rfl <| rC <| om rfl <| cE rfl rfl rfl V3 V65 (dH _ (by omega) (by omega)) ?_
 refine oc vK oV (fun H hH => kX (by omega)) ?_
 refine oa rfl <| aB <| aT <| aE (.tmp rfl .nil) ?_
 exact fun H hH => ⟨rfl, hH.kept⟩
theorem aQg {S : AH} {b : Bool} : XCall Tryz.prog 47 [.bool b] S fun v H' => v = .string ⟨⟨iJ b⟩⟩ ∧ Kept S.nx S H' := by
 refine bN (E := E) (n := 6) (rs := [.tmp 2]) (l := [(0, _)]) (aQ Tryz.func47 rfl rfl rfl) (A0 := fun _ => False) (fun j h => h.elim) rfl ?_
 refine rB <| oa rfl <| tq <| aH ?_
 cases b
 ·refine rA <| om rfl <| aB <| aG rfl <| aJ <| aD <| rB <| oc jD oV (fun H hH => fD (n := 0) (by decide)) ?_
  refine oa rfl <| aB <| aT <| aE (.tmp rfl .nil) ?_
  exact fun H hH => ⟨rfl, hH.kept⟩
 ·refine rA <| om rfl <| aB <| aO rfl <| rB <| oc jD oV (fun H hH => fD (n := 1) (by decide)) ?_
  refine oa rfl <| aB <| aT <| aP <| aE (.tmp rfl .nil) ?_
  exact fun H hH => ⟨rfl, hH.kept⟩
set_option maxHeartbeats 1000000 in
theorem aMm {S : AH} {r g b a : Int} (hr : I64 r) (hg : I64 g) (hb : I64 b) (ha : I64 a) : XCall Tryz.prog 48 [.agg ⟨[.int .i64 r, .int .i64 g, .int .i64 b, .int .i64 a]⟩] S fun v H' => v = .string ⟨⟨bO r ++ bO g ++ bO b ++ bO a⟩⟩ ∧ Kept S.nx S H' := by
 have h1 := jJ hr
 have h2 := jJ hg
 have h3 := jJ hb
 have h4 := jJ ha
 refine bN (E := E) (n := 18) (rs := [.tmp 2]) (l := [(0, _)]) (aQ Tryz.func48 rfl rfl rfl) (A0 := fun _ => False) (fun j h => h.elim) rfl ?_
 refine rB <| cZ rfl rfl nM rfl ?_
 intro N1
 refine oa rfl <| tq <| cC (E := E) mixed [2, 5, 9, 13] _ (List.Sublist.refl _) (by kernel_rfl) (by kernel_rfl) (by decide) ?_
 refine fo 0 V31 aI rfl <| lG rfl V3 ?_
 refine bF rfl rfl (fun _ => mA) rfl eV oV (fun H hH => gS hr) ?_
 refine fo 1 V31 aI rfl <| lG rfl V3 ?_
 refine bF rfl rfl (fun _ => mA) rfl eV oV (fun H hH => gS hg) ?_
 refine ob rfl (by exact bE (v := ⟨⟨bO r ++ bO g⟩⟩) (by show (bO r).length + (bO g).length ≤ _; omega) (rfl)) ?_
 refine fo 2 V31 aI rfl <| lG rfl V3 ?_
 refine bF rfl rfl (fun _ => mA) rfl eV oV (fun H hH => gS hb) ?_
 refine ob rfl (by exact bE (v := ⟨⟨bO r ++ bO g ++ bO b⟩⟩) (by show (bO r ++ bO g).length + (bO b).length ≤ _; rw [List.length_append]; omega) (rfl)) ?_
 refine fo 3 V31 aI rfl <| lG rfl V3 ?_
 refine bF rfl rfl (fun _ => mA) rfl eV oV (fun H hH => gS ha) ?_
 refine ob rfl (by exact bE (v := ⟨⟨bO r ++ bO g ++ bO b ++ bO a⟩⟩) (by show (bO r ++ bO g ++ bO b).length + (bO a).length ≤ _; rw [List.length_append, List.length_append]; omega) (rfl)) ?_
 refine oa rfl <| aB <| aT <| aE (.tmp rfl .nil) ?_
 exact fun H hH => ⟨rfl, hH.kept⟩
set_option maxHeartbeats 1000000 in
theorem aGz {S : AH} {A : Nat → Prop} (hA : ∀ j, A j → j < S.nx) {x : Value} {l : List (List CT)} (hx : CellA A S (.row 8 [.int .i64]) x (.row l)) (hl : l.length ≤ 1073741824) : XCall Tryz.prog 13 [x] S fun v H' => v = .string ⟨⟨eJ l⟩⟩ ∧ Kept S.nx S H' := by
 obtain ⟨l2, ax, cx, e2, rfl, rx⟩ := hx.rowD
 cases e2
 have hb := rx.len
 have h64 := sR rx
 refine bN (E := E) (n := 18) (rs := [.tmp 2]) (l := [(0, _)]) (aQ Tryz.func13 rfl rfl rfl) hA rfl ?_
 refine rB <| oa rfl <| rC <| oa rfl <| tq <| rB <| om rfl <| ll rfl V22 <| om rfl <| aB <| aK ?_
 refine bK (σ := Nat) (fun k => l.length - k) (fun k => [(6, .slice ax l.length cx), (7, .int .i64 ((l.length : Nat) : Int)), (3, .string ⟨⟨eJ (l.take k)⟩⟩), (8, .int .i64 ((k : Nat) : Int))]) (fun _ => S) (fun _ => A) (fun _ => []) (fun k => k ≤ l.length) (0) ((Nat.zero_le _)) pK rfl rfl (List.Sublist.refl _) ?_
 intro k hJ2 t1
 refine aH ?_
 rcases Nat.lt_or_ge k l.length with hk | hk
 ·obtain ⟨qx, us, d, eqx, ix, hc, lx, kx⟩ := rx.at' k hk
  cases eqx
  obtain ⟨n, rfl, rfl, hn⟩ := tB kx
  obtain ⟨x0, ex0, lx1⟩ := dW lx
  cases ex0
  have h11 := jJ hn
  have h12 := oM h64 k
  refine rA <| ob rfl (by exact aX (by omega)) ?_
  refine tq <| aO rfl <| aJ <| aD <| aH <| aK <| rB <| bH rfl rfl rfl rfl V22 aI rfl (by omega) ?_
  refine aV rfl rfl rfl (by exact cU V3 rfl (InA.add ix) lx1) ?_
  refine oa rfl <| rD <| om rfl <| om rfl <| oc eV oV (fun H hH => gS hn) ?_
  refine ob rfl (by exact bE (v := ⟨⟨eJ (l.take (k + 1))⟩⟩) (by show (eJ (l.take k)).length + (bO n).length ≤ _; omega) (by rw [show eJ (l.take (k + 1)) = eJ (l.take k) ++ bO n from (mX hc).symm])) ?_
  refine oa rfl <| aZ <| bA <| aD <| rA <| ob rfl (by exact aY (by omega)) ?_
  refine om rfl <| aZ ?_
  refine cN (k + 1) (show l.length - (k + 1) < l.length - k by omega) (show k + 1 ≤ l.length by omega) pK rfl rfl (List.nil_sublist _)
 ·obtain rfl : k = l.length := by omega
  rw [List.take_length]
  refine rA <| ob rfl (by exact aW (by omega)) ?_
  refine tq <| aG rfl <| bJ <| aR <| aS <| aN <| aD <| rB <| om rfl <| oa rfl <| aB <| aT <| aE (.tmp rfl .nil) ?_
  exact fun H hH => ⟨rfl, hH.kept⟩
end Go.Proofs.YteklajiaicmogaaGreatDoor
namespace Go.Proofs.YteklajiaicmogaaGreatDoor
open Go Go.AM
theorem has51 : ∃ fn, E.fn 51 = some fn := ⟨_, aQ Tryz.func51 rfl rfl rfl⟩
theorem has52 : ∃ fn, E.fn 52 = some fn := ⟨_, aQ Tryz.func52 rfl rfl rfl⟩
theorem has53 : ∃ fn, E.fn 53 = some fn := ⟨_, aQ Tryz.func53 rfl rfl rfl⟩
theorem aTr (m r : Nat) (h : r < 256) : m * 256 ^^^ r = m * 256 + r := by
 have h1 : (m * 256 ^^^ r) / 2 ^ 8 = m := by
  rw [Nat.xor_div_two_pow, show m * 256 / 2 ^ 8 = m by omega, show r / 2 ^ 8 = 0 by omega, Nat.xor_zero]
 have h2 : (m * 256 ^^^ r) % 2 ^ 8 = r := by
  rw [Nat.xor_mod_two_pow, show m * 256 % 2 ^ 8 = 0 by omega, show r % 2 ^ 8 = r by omega, Nat.zero_xor]
 omega
theorem vZ (x : Nat) : jU x = x / 2 ^^^ (if x % 2 = 1 then 3988292384 else 0) := by
 unfold jU
 by_cases h : x % 2 = 1
 ·rw [if_pos h, h]; rfl
 ·rw [if_neg h, show x % 2 = 0 by omega, Nat.xor_zero]; rfl
theorem aMd (x y : Nat) : jU (x ^^^ y) = jU x ^^^ jU y := by
 have hm : (x ^^^ y) % 2 = x % 2 ^^^ y % 2 := Nat.xor_mod_two_pow (n := 1)
 rw [vZ, vZ x, vZ y, Nat.xor_div_two, hm]
 rcases Nat.mod_two_eq_zero_or_one x with hx | hx <;> rcases Nat.mod_two_eq_zero_or_one y with hy | hy <;> rw [hx, hy]
 ·simp
 ·simp [Nat.xor_assoc]
 ·simp only [show (1 ^^^ 0 : Nat) = 1 from rfl, if_true, show ¬ (0 : Nat) = 1 from by decide, if_false, Nat.xor_zero]
  rw [Nat.xor_assoc, Nat.xor_comm (y / 2), ← Nat.xor_assoc]
 ·simp only [show (1 ^^^ 1 : Nat) = 0 from rfl, show ¬ (0 : Nat) = 1 from by decide, if_true, if_false, Nat.xor_zero]
  rw [Nat.xor_assoc (x / 2), Nat.xor_comm (3988292384) (y / 2 ^^^ 3988292384), Nat.xor_assoc (y / 2), Nat.xor_self, Nat.xor_zero]
theorem kR (m : Nat) : jU (m * 2) = m := by
 rw [vZ, if_neg (by omega), Nat.xor_zero]; omega
theorem aMs (x y : Nat) : qJ (x ^^^ y) = qJ x ^^^ qJ y := by simp only [qJ, aMd]
theorem aOn (m : Nat) : qJ (m * 256) = m := by
 unfold qJ
 rw [show m * 256 = m * 128 * 2 by omega, kR, show m * 128 = m * 64 * 2 by omega, kR, show m * 64 = m * 32 * 2 by omega, kR, show m * 32 = m * 16 * 2 by omega, kR, show m * 16 = m * 8 * 2 by omega, kR, show m * 8 = m * 4 * 2 by omega, kR, show m * 4 = m * 2 * 2 by omega, kR, kR]
/-- the checksum's step, bit by bit -/
theorem aMl (c : Nat) (b : UInt8) : gI 8 (c ^^^ b.toNat) = aMe c b := by
 have hb := b.toNat_lt
 have e : c = c / 256 * 256 ^^^ c % 256 := by rw [aTr _ _ (Nat.mod_lt _ (by decide))]; omega
 show qJ (c ^^^ b.toNat) = _
 rw [e, Nat.xor_assoc, aMs, aOn, ← e]
 rfl
def pZ (n k : Nat) : List UInt8 := (List.range k).map fun j => UInt8.ofNat (n / 256 ^ j)
theorem aOt (n : Nat) : pZ n 4 = le4 n := by
 simp [pZ, le4, List.range, List.range.loop]
theorem aEx (n k : Nat) : pZ n k ++ [UInt8.ofNat (n / 256 ^ k)] = pZ n (k + 1) := by simp [pZ, List.range_succ]
theorem aWu (m : Nat) : IntKind.u8.wrap ((m % 256 : Nat) : Int) = ((UInt8.ofNat m).toNat : Int) := by rw [mU, Nat.mod_mod, aLd]
theorem aWj (m : Nat) : ((m : Nat) : Int).tmod 256 = ((m % 256 : Nat) : Int) := by rw [Int.tmod_eq_emod_of_nonneg (by omega)]; omega
theorem aWm {m : Nat} (h : m < 4294967296) : IntKind.u32.wrap (((m : Nat) : Int).tdiv 256) = ((m / 256 : Nat) : Int) := by rw [Int.tdiv_eq_ediv_of_nonneg (by omega), fW _ (by omega) (by omega)]; omega
theorem aIy (n k : Nat) : (pZ n k).length = k := by simp [pZ]
set_option maxHeartbeats 1000000 in
theorem aUj {S : AH} (q : ByteArray) (hq : q.data.toList.length ≤ 4611686018427387904) : XCall Tryz.prog 53 [.string q] S fun v H' => v = .int .u32 (tC q.data.toList : Int) ∧ Kept S.nx S H' := by
 refine bN (E := E) (n := 33) (rs := [.tmp 2]) (l := [(0, _)]) (aQ Tryz.func53 rfl rfl rfl) (A0 := fun _ => False) (fun j h => h.elim) rfl ?_
 refine rB <| oa rfl <| rC <| oa rfl <| tq <| rB <| oa rfl <| aB <| aK ?_
 refine bK (σ := Nat) (fun k => q.data.toList.length - k) (fun k => [(0, .string q), (3, .int .u32 (mL (q.data.toList.take k) : Int)), (4, .int .i64 ((k : Nat) : Int))]) (fun _ => S) (fun _ => fun _ => False) (fun _ => []) (fun k => k ≤ q.data.toList.length) (0) ((Nat.zero_le _)) pK rfl rfl sV ?_
 intro s hJ t1
 refine aH <| aH ?_
 rcases Nat.lt_or_ge s q.data.toList.length with hk | hk
 ·obtain ⟨b, hb⟩ : ∃ b, q.data.toList[s]? = some b := ⟨_, List.getElem?_eq_getElem hk⟩
  have hnew : gI 8 (mL (q.data.toList.take s) ^^^ b.toNat) = mL (q.data.toList.take (s + 1)) := (aMl _ _).trans (aCu hb).symm
  have hc := yU (q.data.toList.take s)
  have hb8 := b.toNat_lt
  have hxl : (mL (q.data.toList.take s) ^^^ b.toNat) < 4294967296 := Nat.xor_lt_two_pow (n := 32) (by omega) (by omega)
  have hxr : bits .xor .u32 ((mL (q.data.toList.take s) : Nat) : Int) (b.toNat : Int) = (((mL (q.data.toList.take s) ^^^ b.toNat) : Nat) : Int) := gD .u32 32 (by decide) fW _ _ (by omega) (by omega)
  refine rA <| om rfl <| om rfl <| dB rfl rfl rfl rfl rfl rfl V9 <| ob rfl (by exact aX (by omega)) ?_
  refine aB <| aO rfl <| aJ <| aD <| aH <| aK <| rB <| om rfl <| om rfl <| om rfl <| zH rfl rfl rfl rfl V9 hb ?_
  refine cE rfl rfl rfl V5 aDo (fW _ (by omega) (by omega)) ?_
  refine ob rfl (by exact vN hxr) ?_
  refine oa rfl <| rC <| oa rfl <| aB <| aK ?_
  refine bK (σ := Nat) (fun k => 8 - k) (fun k => [(0, .string q), (3, .int .u32 ((gI k (mL (q.data.toList.take s) ^^^ b.toNat) : Nat) : Int)), (4, .int .i64 ((s : Nat) : Int)), (5, .int .i64 ((k : Nat) : Int))]) (fun _ => S) (fun _ => fun _ => False) (fun _ => []) (fun k => k ≤ 8) (0) ((Nat.zero_le _)) pK rfl rfl sV ?_
  intro k2 hJ2 t2
  refine aH <| aH ?_
  rcases Nat.lt_or_ge k2 8 with hk2 | hk2
  ·have hc2 := aAd hxl k2
   have ha : bits .and .u32 ((gI k2 (mL (q.data.toList.take s) ^^^ b.toNat) : Nat) : Int) 1 = ((gI k2 (mL (q.data.toList.take s) ^^^ b.toNat) % 2 : Nat) : Int) := bits_mask .u32 32 (by decide) fW 1 (by decide) _ (by omega) (by omega)
   refine rA <| om rfl <| ob rfl (by exact aX (by omega)) ?_
   refine aB <| aO rfl <| aJ <| aD <| aH <| aK <| rB <| om rfl <| ob rfl (by exact pN ha) ?_
   refine oa rfl <| rC <| om rfl <| ob rfl (by exact kA (by decide) (jV (j := 1) rfl)) ?_
   refine oa rfl <| tq ?_
   by_cases hp : gI k2 (mL (q.data.toList.take s) ^^^ b.toNat) % 2 = 1
   ·have hx : gI (k2 + 1) (mL (q.data.toList.take s) ^^^ b.toNat) = (gI k2 (mL (q.data.toList.take s) ^^^ b.toNat) / 2) ^^^ 3988292384 := aCh hp
    have hy : bits .xor .u32 ((gI k2 (mL (q.data.toList.take s) ^^^ b.toNat) / 2 ^ 1 : Nat) : Int) 3988292384 = (((gI k2 (mL (q.data.toList.take s) ^^^ b.toNat) / 2) ^^^ 3988292384 : Nat) : Int) := gD .u32 32 (by decide) fW _ 3988292384 (by omega) (by decide)
    refine rA <| om rfl <| ob rfl (by exact cM (by omega)) ?_
    refine aB <| aO rfl <| rA <| om rfl <| ob rfl (by exact vN hy) ?_
    refine oa rfl <| aZ <| bA <| aD <| rA <| om rfl <| ob rfl (by exact aY (by omega)) ?_
    refine oa rfl <| aZ ?_
    refine cN (k2 + 1) (show 8 - (k2 + 1) < 8 - k2 by omega) (by omega) (by repeat (first | exact .nil | refine .cons (by first | rfl | (rw [hx]; rfl)) ?_)) rfl rfl sV
   ·have hx : gI (k2 + 1) (mL (q.data.toList.take s) ^^^ b.toNat) = gI k2 (mL (q.data.toList.take s) ^^^ b.toNat) / 2 := aAq hp
    refine rA <| om rfl <| ob rfl (by exact cL (by omega)) ?_
    refine aB <| aG rfl <| aJ <| bA <| aD <| rA <| om rfl <| ob rfl (by exact aY (by omega)) ?_
    refine oa rfl <| aZ ?_
    refine cN (k2 + 1) (show 8 - (k2 + 1) < 8 - k2 by omega) (by omega) (by repeat (first | exact .nil | refine .cons (by first | rfl | (rw [hx]; rfl)) ?_)) rfl rfl sV
  ·obtain rfl : k2 = 8 := by omega
   refine rA <| om rfl <| ob rfl (by exact aW (by omega)) ?_
   refine aB <| aG rfl <| bJ <| aR <| aS <| aN <| bA <| aD <| rA <| om rfl <| ob rfl (by exact aY (by omega)) ?_
   refine oa rfl <| aZ ?_
   refine cN (s + 1) (show q.data.toList.length - (s + 1) < q.data.toList.length - s by omega) (by omega) (by repeat (first | exact .nil | refine .cons (by first | rfl | (rw [hnew]; rfl)) ?_)) rfl rfl sV
 ·obtain rfl : s = q.data.toList.length := by omega
  rw [List.take_length]
  have hc := yU q.data.toList
  have hn : bits .xor .u32 IntKind.u32.max (mL q.data.toList : Int) = ((tC q.data.toList : Nat) : Int) := by rw [show IntKind.u32.max = ((4294967295 : Nat) : Int) from rfl, gD .u32 32 (by decide) fW _ _ (by decide) (by omega), aEs hc]; rfl
  refine rA <| om rfl <| om rfl <| dB rfl rfl rfl rfl rfl rfl V9 <| ob rfl (by exact aW (by omega)) ?_
  refine aB <| aG rfl <| bJ <| aR <| aS <| aN <| aD <| rB <| om rfl <| aGa rfl rfl rfl (show aun .xor (.int .u32 _) = some (.int .u32 _) by simp only [aun]; exact congrArg (fun z => some (Value.int .u32 z)) hn) ?_
  refine oa rfl <| aB <| aT <| aE (.tmp rfl .nil) ?_
  exact fun H hH => ⟨rfl, hH.kept⟩
set_option maxHeartbeats 1000000 in
theorem aSv {S : AH} {n : Nat} (hn : n < 9223372036854775808) : XCall Tryz.prog 51 [.int .i64 (n : Int)] S fun v H' => v = .string ⟨⟨aF n⟩⟩ ∧ Kept S.nx S H' := by
 have h10 := bU (n := n) (by omega)
 refine bN (E := E) (n := 21) (rs := [.tmp 2]) (l := [(0, _)]) (aQ Tryz.func51 rfl rfl rfl) (A0 := fun _ => False) (fun j h => h.elim) rfl ?_
 refine rB <| oa rfl <| rC <| oa rfl <| tq <| aK ?_
 refine bK (σ := Nat × Nat × List UInt8) (fun x => x.1) (fun x => [(0, .int .i64 (x.1 : Int)), (3, gsl x.2.1 x.2.2.length)]) (fun _ => S) (fun _ => fun _ => False) (fun x => fK x.2.1 1 (x.2.2.map eN) x.2.2.length) (fun x => x.2.2 ++ aF x.1 = aF n ∧ x.1 < 9223372036854775808) ((n, 0, [])) (⟨rfl, hn⟩) pK rfl rfl (List.Sublist.refl _) ?_
 intro st hJ2 t1
 obtain ⟨k, M1, done⟩ := st
 obtain ⟨hJ1, hJ2⟩ := hJ2
 dsimp only at hJ1 hJ2 ⊢
 have hdl := congrArg List.length hJ1
 rw [List.length_append] at hdl
 refine aH <| aH ?_
 rcases Nat.lt_or_ge k 128 with hk | hk
 ·refine rA <| om rfl <| ob rfl (by exact kF (by omega)) ?_
  refine aB <| aG rfl <| bJ <| aR <| aS <| aN <| aD <| rB <| om rfl <| om rfl <| cE rfl rfl rfl V3 V5 (oS _) ?_
  refine aM (out := [UInt8.ofNat k].map eN) rfl rfl nM oP V98 oZ rfl rfl (by kernel_rfl) rfl rfl ?_
  intro N18
  refine iW (bt := 1) (sz := 1) (L1 := [_]) (cs' := (done ++ [UInt8.ofNat k]).map eN) rfl rfl nM rfl rfl rfl rfl rfl V98 V98 (by rfl) oZ rfl rfl (by decide) rfl (eL (List.mem_append_left _ mA) rfl) (by rw [List.length_map, Nat.mul_one]) rfl (by omega) (by omega) (List.map_append ..).symm nM ?_
  intro M2
  refine lW (bs := done ++ [UInt8.ofNat k]) rfl rfl nM rfl V98 V5 V9 (List.mem_append_right _ (List.Mem.head _)) (List.length_map _ |>.trans (by simp)) (kG _) ?_
  refine oa rfl <| aB <| aT <| aE (.tmp rfl .nil) ?_
  exact fun H hH => ⟨by rw [← hJ1, jY hk], hH.kept⟩
 ·refine rA <| om rfl <| ob rfl (by exact eM (by omega)) ?_
  refine aB <| aO rfl <| aJ <| aD <| aK <| rB <| om rfl <| om rfl <| ob rfl (by exact yT (c := ((k % 128 : Nat) : Int)) (by decide) (by rw [Int.tmod_eq_emod_of_nonneg (by omega)]; omega)) ?_
  refine ob rfl (by exact jW (c := ((k % 128 + 128 : Nat) : Int)) (by rw [cO (by omega) (by omega)]; omega)) ?_
  refine cE rfl rfl rfl V3 V5 (oS _) ?_
  refine aM (out := [UInt8.ofNat (k % 128 + 128)].map eN) rfl rfl nM oP V98 oZ rfl rfl (by kernel_rfl) rfl rfl ?_
  intro N11
  refine iW (bt := 1) (sz := 1) (L1 := [_]) (cs' := (done ++ [UInt8.ofNat (k % 128 + 128)]).map eN) rfl rfl nM rfl rfl rfl rfl rfl V98 V98 (by rfl) oZ rfl rfl (by decide) rfl (eL (List.mem_append_left _ mA) rfl) (by rw [List.length_map, Nat.mul_one]) rfl (by omega) (by omega) (List.map_append ..).symm nM ?_
  intro M2
  refine oa rfl <| rD <| om rfl <| ob rfl (by exact aKk (c := ((k / 128 : Nat) : Int)) (by decide) (by rw [Int.tdiv_eq_ediv_of_nonneg (by omega), cO (by omega) (by omega)]; omega)) ?_
  refine oa rfl <| aZ <| bA ?_
  refine cN (k / 128, M2, done ++ [UInt8.ofNat (k % 128 + 128)]) (show k / 128 < k by omega) ⟨by rw [← hJ1, nZ hk]; simp, (show k / 128 < 9223372036854775808 by omega)⟩ (by repeat (first | exact .nil | refine .cons (by first | rfl | (show some (gsl M2 (done.length + 1)) = _; rw [List.length_append]; rfl)) ?_)) rfl rfl ?_
  show List.Sublist (fK M2 1 ((done ++ [UInt8.ofNat (k % 128 + 128)]).map eN) (done ++ [UInt8.ofNat (k % 128 + 128)]).length) _
  rw [List.length_append]
  exact List.Sublist.cons _ (List.Sublist.refl _)
set_option maxHeartbeats 1000000 in
theorem aPs {S : AH} {n : Nat} (hn : n < 4294967296) : XCall Tryz.prog 52 [.int .u32 (n : Int)] S fun v H' => v = .string ⟨⟨le4 n⟩⟩ ∧ Kept S.nx S H' := by
 refine bN (E := E) (n := 19) (rs := [.tmp 2]) (l := [(0, _)]) (aQ Tryz.func52 rfl rfl rfl) (A0 := fun _ => False) (fun j h => h.elim) rfl ?_
 refine rB <| oa rfl <| rC <| oa rfl <| tq <| rB <| oa rfl <| aB <| aK ?_
 refine bK (σ := Nat × Nat) (fun x => 4 - x.1) (fun x => [(0, .int .u32 ((n / 256 ^ x.1 : Nat) : Int)), (3, gsl x.2 x.1), (4, .int .i64 ((x.1 : Nat) : Int))]) (fun _ => S) (fun _ => fun _ => False) (fun x => fK x.2 1 ((pZ n x.1).map eN) x.1) (fun x => x.1 ≤ 4) ((0, 0)) ((Nat.zero_le _)) (by repeat (first | exact .nil | refine .cons (by first | rfl | (show some _ = some (Value.int .u32 ((n / 256 ^ 0 : Nat) : Int)); simp)) ?_)) rfl rfl (List.Sublist.refl _) ?_
 intro st hJ2 t1
 obtain ⟨k, M1⟩ := st
 dsimp only at hJ2 ⊢
 refine aH <| aH ?_
 rcases Nat.lt_or_ge k 4 with hk | hk
 ·have hd : n / 256 ^ k ≤ n := Nat.div_le_self _ _
  refine rA <| om rfl <| ob rfl (by exact aX (by omega)) ?_
  refine aB <| aO rfl <| aJ <| aD <| aH <| aK <| rB <| om rfl <| om rfl <| ob rfl (by exact yT (by decide) (aWj (n / 256 ^ k))) ?_
  refine cE rfl rfl rfl aDo V5 (aWu _) ?_
  refine aM (out := [UInt8.ofNat (n / 256 ^ k)].map eN) rfl rfl nM oP V98 oZ rfl rfl (by kernel_rfl) rfl rfl ?_
  intro N13
  refine iW (bt := 1) (sz := 1) (L1 := [_]) (cs' := (pZ n (k + 1)).map eN) rfl rfl nM rfl rfl rfl rfl rfl V98 V98 (by rfl) oZ rfl rfl (by decide) rfl (eL (List.mem_append_left _ mA) rfl) (by rw [List.length_map, aIy, Nat.mul_one]) rfl (by omega) (by omega) (by rw [← aEx, List.map_append]) nM ?_
  intro M2
  refine oa rfl <| rD <| om rfl <| ob rfl (by exact aKk (c := ((n / 256 ^ (k + 1) : Nat) : Int)) (by decide) (by rw [Nat.pow_succ, ← Nat.div_div_eq_div_mul]; exact aWm (Nat.lt_of_le_of_lt hd hn))) ?_
  refine oa rfl <| aZ <| bA <| aD <| rA <| om rfl <| ob rfl (by exact aY (by omega)) ?_
  refine oa rfl <| aZ ?_
  refine cN (k + 1, M2) (show 4 - (k + 1) < 4 - k by omega) (show k + 1 ≤ 4 by omega) pK rfl rfl ?_
  exact List.Sublist.cons _ (List.Sublist.refl _)
 ·obtain rfl : k = 4 := by omega
  rw [aOt]
  refine rA <| om rfl <| ob rfl (by exact aW (by omega)) ?_
  refine aB <| aG rfl <| bJ <| aR <| aS <| aN <| aD <| rB <| om rfl <| lW (bs := le4 n) rfl rfl nM rfl V98 V5 V9 (List.Mem.head _) rfl (kG _) ?_
  refine oa rfl <| aB <| aT <| aE (.tmp rfl .nil) ?_
  exact fun H hH => ⟨rfl, hH.kept⟩
theorem aCo {S : AH} (s : ByteArray) (hs : s.data.toList.length ≤ 1048576) : XCall Tryz.prog 19 [.string s] S fun v H' => v = .tuple ⟨[.string ⟨⟨dE s.data.toList⟩⟩, .int .i64 0]⟩ ∧ Kept S.nx S H' := by
 have h10 := bU (n := s.data.toList.length) (by omega)
 have hT := rO hs (by decide)
 have hc : tC (fJ s.data.toList) < 4294967296 := by unfold tC; omega
 refine bN (E := E) (n := 18) (rs := [.tmp 2, .tmp 3]) (l := [(0, _)]) (aQ Tryz.func19 rfl rfl rfl) (A0 := fun _ => False) (fun j h => h.elim) rfl ?_
 refine rB <| oa rfl <| oa rfl <| tq <| rB <| om rfl <| dB rfl rfl rfl rfl rfl rfl V9 <| ob rfl (by exact bW (by omega)) ?_
 refine aB <| aG rfl <| aJ <| aD <| rB <| om rfl <| dB rfl rfl rfl rfl rfl rfl V9 <| oc has51 oV (fun H hH => aSv (by omega)) ?_
 refine om rfl <| ob rfl (by exact bE (v := ⟨⟨fJ s.data.toList⟩⟩) (by show (aF s.data.toList.length).length + _ ≤ _; omega) (rfl)) ?_
 refine oa rfl <| rC <| om rfl <| om rfl <| oc has53 oV (fun H hH => aUj ⟨⟨fJ s.data.toList⟩⟩ (by show (fJ _).length ≤ _; omega)) ?_
 refine oc has52 oV (fun H hH => aPs hc) ?_
 refine ob rfl (by exact bE (v := ⟨⟨dE s.data.toList⟩⟩) (by show (fJ s.data.toList).length + 4 ≤ _; omega) (rfl)) ?_
 refine oa rfl <| oa rfl <| aB <| aT <| dX (.tmp rfl (.tmp rfl .nil)) ?_
 exact fun H hH => ⟨rfl, hH.kept⟩
theorem aAp {S : AH} (s : ByteArray) (hs : 1048576 < s.data.toList.length) (hb : s.data.toList.length ≤ 4611686018427387904) : XCall Tryz.prog 19 [.string s] S fun v H' => v = .tuple ⟨[.string ⟨⟨[]⟩⟩, .int .i64 3]⟩ ∧ Kept S.nx S H' := by
 refine bN (E := E) (n := 18) (rs := [.tmp 2, .tmp 3]) (l := [(0, _)]) (aQ Tryz.func19 rfl rfl rfl) (A0 := fun _ => False) (fun j h => h.elim) rfl ?_
 refine rB <| oa rfl <| oa rfl <| tq <| rB <| om rfl <| dB rfl rfl rfl rfl rfl rfl V9 <| ob rfl (by exact cR (by omega)) ?_
 refine aB <| aO rfl <| rB <| oa rfl <| oa rfl <| aB <| aT <| aP <| dX (.tmp rfl (.tmp rfl .nil)) ?_
 exact fun H hH => ⟨rfl, hH.kept⟩
end Go.Proofs.YteklajiaicmogaaGreatDoor
namespace Go.Proofs.YteklajiaicmogaaGreatDoor
open Go Go.AM
theorem aLe : ∃ fn, E.fn 85 = some fn := ⟨_, aQ Tryz.func85 rfl rfl rfl⟩
theorem aXy : ∃ fn, E.fn 137 = some fn := ⟨_, aQ Tryz.func137 rfl rfl rfl⟩
theorem aDd : ∃ fn, E.fn 202 = some fn := ⟨_, aQ Tryz.func202 rfl rfl rfl⟩
theorem aWq : ∃ fn, E.fn 252 = some fn := ⟨_, aQ Tryz.func252 rfl rfl rfl⟩
theorem aMa {S : AH} (a lo hi : Int) : XCall Tryz.prog 252 [.int .i64 a, .int .i64 lo, .int .i64 hi] S fun v H' => v = .int .i64 (min hi (max a lo)) ∧ Kept S.nx S H' := by
 refine bN (E := E) (n := 12) (rs := [.tmp 6]) (l := [(2, _), (1, _), (0, _)]) (aQ Tryz.func252 rfl rfl rfl) (A0 := fun _ => False) (fun j h => h.elim) rfl ?_
 refine rB <| oa rfl <| rC <| om rfl <| om rfl <| om rfl <| aDq rfl rfl rfl rfl rfl rfl rfl ?_
 refine aKb rfl rfl rfl rfl rfl rfl rfl ?_
 refine oa rfl <| aB <| aT <| aE (.tmp rfl .nil) ?_
 exact fun H hH => ⟨rfl, hH.kept⟩
theorem uS {S : AH} (a : Int) : XCall Tryz.prog 202 [.int .i64 a] S fun v H' => v = .int .i64 (iK a) ∧ Kept S.nx S H' := by
 refine bN (E := E) (n := 5) (rs := [.tmp 2]) (l := [(0, _)]) (aQ Tryz.func202 rfl rfl rfl) (A0 := fun _ => False) (fun j h => h.elim) rfl ?_
 refine rB <| oa rfl <| rC <| om rfl <| oc aWq oV (fun H hH => aMa a 0 65535) ?_
 refine oa rfl <| aB <| aT <| aE (.tmp rfl .nil) ?_
 exact fun H hH => ⟨rfl, hH.kept⟩
theorem aLo {S : AH} (r g b a : Int) : XCall Tryz.prog 137 [.agg ⟨[.int .i64 r, .int .i64 g, .int .i64 b, .int .i64 a]⟩] S fun v H' => v = .agg ⟨[.int .i64 (iK r), .int .i64 (iK g), .int .i64 (iK b), .int .i64 (iK a)]⟩ ∧ Kept S.nx S H' := by
 refine bN (E := E) (n := 16) (rs := [.cell 2 31]) (l := [(0, _)]) (aQ Tryz.func137 rfl rfl rfl) (A0 := fun _ => False) (fun j h => h.elim) rfl ?_
 refine rB <| cZ rfl rfl nM rfl ?_
 intro N1
 refine bR (cs := (.int .i64 0 :: .int .i64 0 :: .int .i64 0 :: .int .i64 0 :: [])) rfl rfl nM bL rfl rfl ?_
 intro N2
 refine tq <| cC (E := E) mixed [2, 5, 8, 11, 13] _ (List.Sublist.cons _ (List.Sublist.refl _)) (by kernel_rfl) (by kernel_rfl) (by decide) ?_
 refine fo 0 V31 aI rfl <| lG rfl V3 ?_
 refine bF rfl rfl (fun _ => mA) rfl aDd oV (fun H hH => uS r) ?_
 refine fo 1 V31 aI rfl <| lG rfl V3 ?_
 refine bF rfl rfl (fun _ => mA) rfl aDd oV (fun H hH => uS g) ?_
 refine fo 2 V31 aI rfl <| lG rfl V3 ?_
 refine bF rfl rfl (fun _ => mA) rfl aDd oV (fun H hH => uS b) ?_
 refine fo 3 V31 aI rfl <| lG rfl V3 ?_
 refine bF rfl rfl (fun _ => mA) rfl aDd oV (fun H hH => uS a) ?_
 refine rK rfl rfl oP (by rfl) ?_
 refine bX rfl (fun _ => mA) rfl rfl bL (by rfl) rfl uP (by exact fS rfl) (by exact Nat.le_of_ble_eq_true rfl) (fun _ => sV) ?_
 refine aB <| aT <| aE (.cell rfl (by exact bV V31 rfl bL rfl mA (by exact Nat.le_of_ble_eq_true rfl) (by rfl)) .nil) ?_
 exact fun H hH => ⟨rfl, hH.kept⟩
theorem sZ {S : AH} (r g b a : Int) : XCall Tryz.prog 85 [.agg ⟨[.int .i64 r, .int .i64 g, .int .i64 b, .int .i64 a]⟩] S fun v H' => v = .bool (vB r g b a) ∧ Kept S.nx S H' := by
 refine bN (E := E) (n := 7) (rs := [.tmp 2]) (l := [(0, _)]) (aQ Tryz.func85 rfl rfl rfl) (A0 := fun _ => False) (fun j h => h.elim) rfl ?_
 refine rB <| cZ rfl rfl nM rfl ?_
 intro N1
 refine oa rfl <| tq <| cC (E := E) mixed [1] _ (List.Sublist.refl _) (by kernel_rfl) (by kernel_rfl) (by decide) ?_
 refine aV rfl rfl rfl (by exact bV V31 rfl bL rfl mA (by exact Nat.le_of_ble_eq_true rfl) (by rfl)) ?_
 refine bF rfl rfl (fun _ => mA) rfl aXy oV (fun H hH => aLo r g b a) ?_
 refine aV rfl rfl rfl (by exact bV V31 rfl bL rfl mA (by exact Nat.le_of_ble_eq_true rfl) (by rfl)) ?_
 refine ob rfl (by exact bin_pix) ?_
 refine oa rfl <| aB <| aT <| aE (.tmp rfl .nil) ?_
 exact fun H hH => ⟨by rw [aHq], hH.kept⟩
theorem aAx {S : AH} {A : Nat → Prop} (hA : ∀ j, A j → j < S.nx) {w h : Int} {x : Value} {l : List (List CT)} (hx : CellA A S (.row 32 kP) x (.row l)) : XCall Tryz.prog 44 [.agg ⟨[.int .i64 w, .int .i64 h, x]⟩] S fun v H' => v = .int .i64 (ckE kV w h l) ∧ Kept S.nx S H' := by
 obtain ⟨l2, ax, cx, e2, rfl, rx⟩ := hx.rowD
 cases e2
 have hb := rx.len
 refine bN (E := E) (n := 54) (rs := [.tmp 2]) (l := [(0, _)]) (aQ Tryz.func44 rfl rfl rfl) hA rfl ?_
 refine rB <| cZ rfl rfl nM rfl ?_
 intro N1
 refine oa rfl <| tq <| aH ?_
 rcases aWi w h with q | q | q | q | q
 ·refine rA <| fo 0 V29 aI rfl <| lG rfl V3 ?_
  refine ob rfl (by exact aX (by omega)) ?_
  refine om rfl <| aC rfl rfl rfl <| aC rfl rfl rfl <| aC rfl rfl rfl <| pt rfl <| om rfl <| aC rfl rfl rfl <| aC rfl rfl rfl <| aC rfl rfl rfl <| pt rfl <| om rfl <| aC rfl rfl rfl <| aC rfl rfl rfl <| aC rfl rfl rfl <| pt rfl <| aB <| aO rfl <| rB <| oa rfl <| aB <| aT <| aP <| aE (.tmp rfl .nil) ?_
  exact fun H hH => ⟨by rw [lE (dY (by omega))], hH.kept⟩
 ·refine rA <| fo 0 V29 aI rfl <| lG rfl V3 ?_
  refine ob rfl (by exact aW (by omega)) ?_
  refine om rfl <| fo 0 V29 aI rfl <| lG rfl V3 ?_
  refine ob rfl (by exact cR (by omega)) ?_
  refine pQ rfl <| om rfl <| aC rfl rfl rfl <| aC rfl rfl rfl <| aC rfl rfl rfl <| pt rfl <| om rfl <| aC rfl rfl rfl <| aC rfl rfl rfl <| aC rfl rfl rfl <| pt rfl <| aB <| aO rfl <| rB <| oa rfl <| aB <| aT <| aP <| aE (.tmp rfl .nil) ?_
  exact fun H hH => ⟨by rw [lE (dY (by omega))], hH.kept⟩
 ·refine rA <| fo 0 V29 aI rfl <| lG rfl V3 ?_
  refine ob rfl (by exact aW (by omega)) ?_
  refine om rfl <| fo 0 V29 aI rfl <| lG rfl V3 ?_
  refine ob rfl (by exact bW (by omega)) ?_
  refine pQ rfl <| om rfl <| fo 1 V29 aI rfl <| lG rfl V3 ?_
  refine ob rfl (by exact aX (by omega)) ?_
  refine pQ rfl <| om rfl <| aC rfl rfl rfl <| aC rfl rfl rfl <| aC rfl rfl rfl <| pt rfl <| aB <| aO rfl <| rB <| oa rfl <| aB <| aT <| aP <| aE (.tmp rfl .nil) ?_
  exact fun H hH => ⟨by rw [lE (dY (by omega))], hH.kept⟩
 ·refine rA <| fo 0 V29 aI rfl <| lG rfl V3 ?_
  refine ob rfl (by exact aW (by omega)) ?_
  refine om rfl <| fo 0 V29 aI rfl <| lG rfl V3 ?_
  refine ob rfl (by exact bW (by omega)) ?_
  refine pQ rfl <| om rfl <| fo 1 V29 aI rfl <| lG rfl V3 ?_
  refine ob rfl (by exact aW (by omega)) ?_
  refine pQ rfl <| om rfl <| fo 1 V29 aI rfl <| lG rfl V3 ?_
  refine ob rfl (by exact cR (by omega)) ?_
  refine pQ rfl <| aB <| aO rfl <| rB <| oa rfl <| aB <| aT <| aP <| aE (.tmp rfl .nil) ?_
  exact fun H hH => ⟨by rw [lE (dY (by omega))], hH.kept⟩
 ·refine rA <| fo 0 V29 aI rfl <| lG rfl V3 ?_
  refine ob rfl (by exact aW (by omega)) ?_
  refine om rfl <| fo 0 V29 aI rfl <| lG rfl V3 ?_
  refine ob rfl (by exact bW (by omega)) ?_
  refine pQ rfl <| om rfl <| fo 1 V29 aI rfl <| lG rfl V3 ?_
  refine ob rfl (by exact aW (by omega)) ?_
  refine pQ rfl <| om rfl <| fo 1 V29 aI rfl <| lG rfl V3 ?_
  refine ob rfl (by exact bW (by omega)) ?_
  refine pQ rfl <| aB <| aG rfl <| aJ <| aD <| aH <| aH ?_
  rcases aWs w h with q2 | q2 | q2 | q2
  ·refine rA <| fo 0 V29 aI rfl <| lG rfl V3 ?_
   refine ob rfl (by exact cM (by omega)) ?_
   refine fo 1 V29 aI rfl <| lG rfl V3 ?_
   refine ob rfl (by exact cM (by omega)) ?_
   refine ob rfl (by exact gT V4) ?_
   refine om rfl <| fo 2 V29 gZ rfl <| lG rfl V27 ?_
   refine ll rfl V27 <| fo 0 V29 aI rfl <| lG rfl V3 ?_
   refine fo 1 V29 aI rfl <| lG rfl V3 ?_
   try (have hs : gB w h = true := gQ (by omega))
   refine ob rfl (by exact gE (cO (by have := iG hs; omega) (by have := iG hs; omega))) ?_
   rcases Decidable.em ((l.length : Int) = w * h) with hm | hm
   ·refine ob rfl (by exact bP (by assumption)) ?_
    refine pQ rfl <| aB <| aG rfl <| aJ <| aD <| aH <| rB <| oa rfl <| aB <| aK ?_
    refine bK (σ := Nat) (fun k => l.length - k) (fun k => [(1, .pointer (some ⟨2 * N1 + 1, 0, none⟩)), (3, .int .i64 ((k : Nat) : Int))]) (fun _ => S) (fun _ => A) (fun _ => [(N1, .cells [.int .i64 w, .int .i64 h, .slice ax l.length cx] (cI E 29) true)]) (fun k => k ≤ l.length ∧ (∀ j d, j < k → l[j]? = some d → kV d = true)) (0) (⟨Nat.zero_le _, fun j d h => absurd h (Nat.not_lt_zero _)⟩) pK rfl rfl sV ?_
    intro s hJ t1
    obtain ⟨hJ, hg⟩ := hJ
    refine aH <| aH ?_
    rcases Nat.lt_or_ge s l.length with hk | hk
    ·obtain ⟨qx, us, d, eqx, ix, hc, lx, kx⟩ := rx.at' s hk
     cases eqx
     obtain ⟨r, g, b, a, rfl, rfl, _, _, _, _⟩ := aHc kx
     refine rA <| om rfl <| fo 2 V29 gZ rfl <| lG rfl V27 ?_
     refine ll rfl V27 <| ob rfl (by exact aX (by omega)) ?_
     refine aB <| aO rfl <| aJ <| aD <| aH <| aK <| aH ?_
     cases hp : vB r g b a
     ·refine rA <| fo 2 V29 gZ rfl <| lG rfl V27 ?_
      refine om rfl <| bH rfl rfl rfl rfl V27 bL rfl (by omega) ?_
      refine aV rfl rfl rfl (by exact cS V31 rfl bL rfl (InA.add ix) lx) ?_
      refine oc aLe oV (fun H hH => (sZ r g b a).b hp) ?_
      refine eZ rfl rfl rfl rfl <| aB <| aO rfl <| rB <| oa rfl <| aB <| aT <| bD <| aP <| cP <| bD <| aP <| aE (.tmp rfl .nil) ?_
      exact fun H hH => ⟨by rw [wG hs hm hc hp], hH.kept⟩
     ·refine rA <| fo 2 V29 gZ rfl <| lG rfl V27 ?_
      refine om rfl <| bH rfl rfl rfl rfl V27 bL rfl (by omega) ?_
      refine aV rfl rfl rfl (by exact cS V31 rfl bL rfl (InA.add ix) lx) ?_
      refine oc aLe oV (fun H hH => (sZ r g b a).b hp) ?_
      refine eZ rfl rfl rfl rfl <| aB <| aG rfl <| aJ <| bA <| aD <| rA <| om rfl <| ob rfl (by exact aY (by omega)) ?_
      refine oa rfl <| aZ ?_
      refine rd' (s + 1) (show l.length - (s + 1) < l.length - s by omega) ⟨by omega, fun j d2 hj hd2 => ?_⟩
      by_cases e : j = s
      ·subst e; rw [hc] at hd2; cases hd2; exact hp
      ·exact hg j d2 (by omega) hd2
    ·refine rA <| om rfl <| fo 2 V29 gZ rfl <| lG rfl V27 ?_
     refine ll rfl V27 <| ob rfl (by exact aW (by omega)) ?_
     refine aB <| aG rfl <| bJ <| aR <| aS <| aN <| aD <| rB <| oa rfl <| aB <| aT <| aE (.tmp rfl .nil) ?_
     exact fun H hH => ⟨by rw [zO hs hm fun j d h1 h2 => hg j d (by omega) h2], hH.kept⟩
   ·refine ob rfl (by exact dZ (by assumption)) ?_
    refine pQ rfl <| aB <| aO rfl <| rB <| oa rfl <| aB <| aT <| aP <| aE (.tmp rfl .nil) ?_
    exact fun H hH => ⟨by rw [aAr hm], hH.kept⟩
  ·refine rA <| fo 0 V29 aI rfl <| lG rfl V3 ?_
   refine ob rfl (by exact cM (by omega)) ?_
   refine fo 1 V29 aI rfl <| lG rfl V3 ?_
   refine ob rfl (by exact cL (by omega)) ?_
   refine ob rfl (by exact gT V4) ?_
   refine om rfl <| aC rfl rfl rfl <| aC rfl rfl rfl <| aC rfl rfl rfl <| aC rfl rfl rfl <| aC rfl rfl rfl <| aC rfl rfl rfl <| aC rfl rfl rfl ?_
   try (have hs : gB w h = true := gQ (by omega))
   refine aC rfl rfl rfl <| aC rfl rfl rfl <| pt rfl <| aB <| aO rfl <| rB <| oa rfl <| aB <| aT <| aP <| aE (.tmp rfl .nil) ?_
   exact fun H hH => ⟨by rw [lE (dY (by omega))], hH.kept⟩
  ·refine rA <| fo 0 V29 aI rfl <| lG rfl V3 ?_
   refine ob rfl (by exact cL (by omega)) ?_
   refine fo 1 V29 aI rfl <| lG rfl V3 ?_
   refine ob rfl (by exact cM (by omega)) ?_
   refine ob rfl (by exact gT V4) ?_
   refine om rfl <| aC rfl rfl rfl <| aC rfl rfl rfl <| aC rfl rfl rfl <| aC rfl rfl rfl <| aC rfl rfl rfl <| aC rfl rfl rfl <| aC rfl rfl rfl ?_
   try (have hs : gB w h = true := gQ (by omega))
   refine aC rfl rfl rfl <| aC rfl rfl rfl <| pt rfl <| aB <| aO rfl <| rB <| oa rfl <| aB <| aT <| aP <| aE (.tmp rfl .nil) ?_
   exact fun H hH => ⟨by rw [lE (dY (by omega))], hH.kept⟩
  ·refine rA <| fo 0 V29 aI rfl <| lG rfl V3 ?_
   refine ob rfl (by exact cL (by omega)) ?_
   refine fo 1 V29 aI rfl <| lG rfl V3 ?_
   refine ob rfl (by exact cL (by omega)) ?_
   refine ob rfl (by exact gT V4) ?_
   refine om rfl <| fo 2 V29 gZ rfl <| lG rfl V27 ?_
   refine ll rfl V27 <| fo 0 V29 aI rfl <| lG rfl V3 ?_
   refine fo 1 V29 aI rfl <| lG rfl V3 ?_
   try (have hs : gB w h = true := gQ (by omega))
   refine ob rfl (by exact gE (cO (by have := iG hs; omega) (by have := iG hs; omega))) ?_
   rcases Decidable.em ((l.length : Int) = w * h) with hm | hm
   ·refine ob rfl (by exact bP (by assumption)) ?_
    refine pQ rfl <| aB <| aG rfl <| aJ <| aD <| aH <| rB <| oa rfl <| aB <| aK ?_
    refine bK (σ := Nat) (fun k => l.length - k) (fun k => [(1, .pointer (some ⟨2 * N1 + 1, 0, none⟩)), (3, .int .i64 ((k : Nat) : Int))]) (fun _ => S) (fun _ => A) (fun _ => [(N1, .cells [.int .i64 w, .int .i64 h, .slice ax l.length cx] (cI E 29) true)]) (fun k => k ≤ l.length ∧ (∀ j d, j < k → l[j]? = some d → kV d = true)) (0) (⟨Nat.zero_le _, fun j d h => absurd h (Nat.not_lt_zero _)⟩) pK rfl rfl sV ?_
    intro s hJ t1
    obtain ⟨hJ, hg⟩ := hJ
    refine aH <| aH ?_
    rcases Nat.lt_or_ge s l.length with hk | hk
    ·obtain ⟨qx, us, d, eqx, ix, hc, lx, kx⟩ := rx.at' s hk
     cases eqx
     obtain ⟨r, g, b, a, rfl, rfl, _, _, _, _⟩ := aHc kx
     refine rA <| om rfl <| fo 2 V29 gZ rfl <| lG rfl V27 ?_
     refine ll rfl V27 <| ob rfl (by exact aX (by omega)) ?_
     refine aB <| aO rfl <| aJ <| aD <| aH <| aK <| aH ?_
     cases hp : vB r g b a
     ·refine rA <| fo 2 V29 gZ rfl <| lG rfl V27 ?_
      refine om rfl <| bH rfl rfl rfl rfl V27 bL rfl (by omega) ?_
      refine aV rfl rfl rfl (by exact cS V31 rfl bL rfl (InA.add ix) lx) ?_
      refine oc aLe oV (fun H hH => (sZ r g b a).b hp) ?_
      refine eZ rfl rfl rfl rfl <| aB <| aO rfl <| rB <| oa rfl <| aB <| aT <| bD <| aP <| cP <| bD <| aP <| aE (.tmp rfl .nil) ?_
      exact fun H hH => ⟨by rw [wG hs hm hc hp], hH.kept⟩
     ·refine rA <| fo 2 V29 gZ rfl <| lG rfl V27 ?_
      refine om rfl <| bH rfl rfl rfl rfl V27 bL rfl (by omega) ?_
      refine aV rfl rfl rfl (by exact cS V31 rfl bL rfl (InA.add ix) lx) ?_
      refine oc aLe oV (fun H hH => (sZ r g b a).b hp) ?_
      refine eZ rfl rfl rfl rfl <| aB <| aG rfl <| aJ <| bA <| aD <| rA <| om rfl <| ob rfl (by exact aY (by omega)) ?_
      refine oa rfl <| aZ ?_
      refine rd' (s + 1) (show l.length - (s + 1) < l.length - s by omega) ⟨by omega, fun j d2 hj hd2 => ?_⟩
      by_cases e : j = s
      ·subst e; rw [hc] at hd2; cases hd2; exact hp
      ·exact hg j d2 (by omega) hd2
    ·refine rA <| om rfl <| fo 2 V29 gZ rfl <| lG rfl V27 ?_
     refine ll rfl V27 <| ob rfl (by exact aW (by omega)) ?_
     refine aB <| aG rfl <| bJ <| aR <| aS <| aN <| aD <| rB <| oa rfl <| aB <| aT <| aE (.tmp rfl .nil) ?_
     exact fun H hH => ⟨by rw [zO hs hm fun j d h1 h2 => hg j d (by omega) h2], hH.kept⟩
   ·refine ob rfl (by exact dZ (by assumption)) ?_
    refine pQ rfl <| aB <| aO rfl <| rB <| oa rfl <| aB <| aT <| aP <| aE (.tmp rfl .nil) ?_
    exact fun H hH => ⟨by rw [aAr hm], hH.kept⟩
theorem zX {S : AH} {A : Nat → Prop} (hA : ∀ j, A j → j < S.nx) {w h : Int} {x : Value} {l : List (List CT)} (hx : CellA A S (.row 8 [.int .i64]) x (.row l)) : XCall Tryz.prog 45 [.agg ⟨[.int .i64 w, .int .i64 h, x]⟩] S fun v H' => v = .int .i64 (ckE iI w h l) ∧ Kept S.nx S H' := by
 obtain ⟨l2, ax, cx, e2, rfl, rx⟩ := hx.rowD
 cases e2
 have hb := rx.len
 refine bN (E := E) (n := 61) (rs := [.tmp 2]) (l := [(0, _)]) (aQ Tryz.func45 rfl rfl rfl) hA rfl ?_
 refine rB <| cZ rfl rfl nM rfl ?_
 intro N1
 refine oa rfl <| tq <| aH ?_
 rcases aWi w h with q | q | q | q | q
 ·refine rA <| fo 0 V24 aI rfl <| lG rfl V3 ?_
  refine ob rfl (by exact aX (by omega)) ?_
  refine om rfl <| aC rfl rfl rfl <| aC rfl rfl rfl <| aC rfl rfl rfl <| pt rfl <| om rfl <| aC rfl rfl rfl <| aC rfl rfl rfl <| aC rfl rfl rfl <| pt rfl <| om rfl <| aC rfl rfl rfl <| aC rfl rfl rfl <| aC rfl rfl rfl <| pt rfl <| aB <| aO rfl <| rB <| oa rfl <| aB <| aT <| aP <| aE (.tmp rfl .nil) ?_
  exact fun H hH => ⟨by rw [lE (dY (by omega))], hH.kept⟩
 ·refine rA <| fo 0 V24 aI rfl <| lG rfl V3 ?_
  refine ob rfl (by exact aW (by omega)) ?_
  refine om rfl <| fo 0 V24 aI rfl <| lG rfl V3 ?_
  refine ob rfl (by exact cR (by omega)) ?_
  refine pQ rfl <| om rfl <| aC rfl rfl rfl <| aC rfl rfl rfl <| aC rfl rfl rfl <| pt rfl <| om rfl <| aC rfl rfl rfl <| aC rfl rfl rfl <| aC rfl rfl rfl <| pt rfl <| aB <| aO rfl <| rB <| oa rfl <| aB <| aT <| aP <| aE (.tmp rfl .nil) ?_
  exact fun H hH => ⟨by rw [lE (dY (by omega))], hH.kept⟩
 ·refine rA <| fo 0 V24 aI rfl <| lG rfl V3 ?_
  refine ob rfl (by exact aW (by omega)) ?_
  refine om rfl <| fo 0 V24 aI rfl <| lG rfl V3 ?_
  refine ob rfl (by exact bW (by omega)) ?_
  refine pQ rfl <| om rfl <| fo 1 V24 aI rfl <| lG rfl V3 ?_
  refine ob rfl (by exact aX (by omega)) ?_
  refine pQ rfl <| om rfl <| aC rfl rfl rfl <| aC rfl rfl rfl <| aC rfl rfl rfl <| pt rfl <| aB <| aO rfl <| rB <| oa rfl <| aB <| aT <| aP <| aE (.tmp rfl .nil) ?_
  exact fun H hH => ⟨by rw [lE (dY (by omega))], hH.kept⟩
 ·refine rA <| fo 0 V24 aI rfl <| lG rfl V3 ?_
  refine ob rfl (by exact aW (by omega)) ?_
  refine om rfl <| fo 0 V24 aI rfl <| lG rfl V3 ?_
  refine ob rfl (by exact bW (by omega)) ?_
  refine pQ rfl <| om rfl <| fo 1 V24 aI rfl <| lG rfl V3 ?_
  refine ob rfl (by exact aW (by omega)) ?_
  refine pQ rfl <| om rfl <| fo 1 V24 aI rfl <| lG rfl V3 ?_
  refine ob rfl (by exact cR (by omega)) ?_
  refine pQ rfl <| aB <| aO rfl <| rB <| oa rfl <| aB <| aT <| aP <| aE (.tmp rfl .nil) ?_
  exact fun H hH => ⟨by rw [lE (dY (by omega))], hH.kept⟩
 ·refine rA <| fo 0 V24 aI rfl <| lG rfl V3 ?_
  refine ob rfl (by exact aW (by omega)) ?_
  refine om rfl <| fo 0 V24 aI rfl <| lG rfl V3 ?_
  refine ob rfl (by exact bW (by omega)) ?_
  refine pQ rfl <| om rfl <| fo 1 V24 aI rfl <| lG rfl V3 ?_
  refine ob rfl (by exact aW (by omega)) ?_
  refine pQ rfl <| om rfl <| fo 1 V24 aI rfl <| lG rfl V3 ?_
  refine ob rfl (by exact bW (by omega)) ?_
  refine pQ rfl <| aB <| aG rfl <| aJ <| aD <| aH <| aH ?_
  rcases aWs w h with q2 | q2 | q2 | q2
  ·refine rA <| fo 0 V24 aI rfl <| lG rfl V3 ?_
   refine ob rfl (by exact cM (by omega)) ?_
   refine fo 1 V24 aI rfl <| lG rfl V3 ?_
   refine ob rfl (by exact cM (by omega)) ?_
   refine ob rfl (by exact gT V4) ?_
   refine om rfl <| fo 2 V24 eI rfl <| lG rfl V22 ?_
   refine ll rfl V22 <| fo 0 V24 aI rfl <| lG rfl V3 ?_
   refine fo 1 V24 aI rfl <| lG rfl V3 ?_
   try (have hs : gB w h = true := gQ (by omega))
   refine ob rfl (by exact gE (cO (by have := iG hs; omega) (by have := iG hs; omega))) ?_
   rcases Decidable.em ((l.length : Int) = w * h) with hm | hm
   ·refine ob rfl (by exact bP (by assumption)) ?_
    refine pQ rfl <| aB <| aG rfl <| aJ <| aD <| aH <| rB <| oa rfl <| aB <| aK ?_
    refine bK (σ := Nat) (fun k => l.length - k) (fun k => [(1, .pointer (some ⟨2 * N1 + 1, 0, none⟩)), (3, .int .i64 ((k : Nat) : Int))]) (fun _ => S) (fun _ => A) (fun _ => [(N1, .cells [.int .i64 w, .int .i64 h, .slice ax l.length cx] (cI E 24) true)]) (fun k => k ≤ l.length ∧ (∀ j d, j < k → l[j]? = some d → iI d = true)) (0) (⟨Nat.zero_le _, fun j d h => absurd h (Nat.not_lt_zero _)⟩) pK rfl rfl sV ?_
    intro s hJ t1
    obtain ⟨hJ, hg⟩ := hJ
    refine aH <| aH ?_
    rcases Nat.lt_or_ge s l.length with hk | hk
    ·obtain ⟨qx, us, d, eqx, ix, hc, lx, kx⟩ := rx.at' s hk
     cases eqx
     obtain ⟨n, rfl, rfl, hn⟩ := tB kx
     obtain ⟨x0, ex0, lx1⟩ := dW lx
     cases ex0
     refine rA <| om rfl <| fo 2 V24 eI rfl <| lG rfl V22 ?_
     refine ll rfl V22 <| ob rfl (by exact aX (by omega)) ?_
     refine aB <| aO rfl <| aJ <| aD <| aH <| aK <| aH ?_
     rcases aWo n with q9 | q9 | q9
     ·have hp : iI [.v (.int .i64 n)] = false := decide_eq_false (by simp only [gY]; omega)
      refine rA <| fo 2 V24 eI rfl <| lG rfl V22 ?_
      refine om rfl <| bH rfl rfl rfl rfl V22 aI rfl (by omega) ?_
      refine aV rfl rfl rfl (by exact cU V3 rfl (InA.add ix) lx1) ?_
      refine ob rfl (by exact aX (by omega)) ?_
      refine om rfl <| aC rfl rfl rfl <| aC rfl rfl rfl <| aC rfl rfl rfl <| aC rfl rfl rfl <| aC rfl rfl rfl <| aC rfl rfl rfl <| pt rfl <| aB <| aO rfl <| rB <| oa rfl <| aB <| aT <| bD <| aP <| cP <| bD <| aP <| aE (.tmp rfl .nil) ?_
      exact fun H hH => ⟨by rw [wG hs hm hc hp], hH.kept⟩
     ·have hp : iI [.v (.int .i64 n)] = false := decide_eq_false (by simp only [gY]; omega)
      refine rA <| fo 2 V24 eI rfl <| lG rfl V22 ?_
      refine om rfl <| bH rfl rfl rfl rfl V22 aI rfl (by omega) ?_
      refine aV rfl rfl rfl (by exact cU V3 rfl (InA.add ix) lx1) ?_
      refine ob rfl (by exact aW (by omega)) ?_
      refine om rfl <| fo 2 V24 eI rfl <| lG rfl V22 ?_
      refine om rfl <| bH rfl rfl rfl rfl V22 aI rfl (by omega) ?_
      refine aV rfl rfl rfl (by exact cU V3 rfl (InA.add ix) lx1) ?_
      refine ob rfl (by exact cR (by omega)) ?_
      refine pQ rfl <| aB <| aO rfl <| rB <| oa rfl <| aB <| aT <| bD <| aP <| cP <| bD <| aP <| aE (.tmp rfl .nil) ?_
      exact fun H hH => ⟨by rw [wG hs hm hc hp], hH.kept⟩
     ·have hp : iI [.v (.int .i64 n)] = true := decide_eq_true (by simp only [gY]; omega)
      refine rA <| fo 2 V24 eI rfl <| lG rfl V22 ?_
      refine om rfl <| bH rfl rfl rfl rfl V22 aI rfl (by omega) ?_
      refine aV rfl rfl rfl (by exact cU V3 rfl (InA.add ix) lx1) ?_
      refine ob rfl (by exact aW (by omega)) ?_
      refine om rfl <| fo 2 V24 eI rfl <| lG rfl V22 ?_
      refine om rfl <| bH rfl rfl rfl rfl V22 aI rfl (by omega) ?_
      refine aV rfl rfl rfl (by exact cU V3 rfl (InA.add ix) lx1) ?_
      refine ob rfl (by exact bW (by omega)) ?_
      refine pQ rfl <| aB <| aG rfl <| aJ <| bA <| aD <| rA <| om rfl <| ob rfl (by exact aY (by omega)) ?_
      refine oa rfl <| aZ ?_
      refine rd' (s + 1) (show l.length - (s + 1) < l.length - s by omega) ⟨by omega, fun j d2 hj hd2 => ?_⟩
      by_cases e : j = s
      ·subst e; rw [hc] at hd2; cases hd2; exact hp
      ·exact hg j d2 (by omega) hd2
    ·refine rA <| om rfl <| fo 2 V24 eI rfl <| lG rfl V22 ?_
     refine ll rfl V22 <| ob rfl (by exact aW (by omega)) ?_
     refine aB <| aG rfl <| bJ <| aR <| aS <| aN <| aD <| rB <| oa rfl <| aB <| aT <| aE (.tmp rfl .nil) ?_
     exact fun H hH => ⟨by rw [zO hs hm fun j d h1 h2 => hg j d (by omega) h2], hH.kept⟩
   ·refine ob rfl (by exact dZ (by assumption)) ?_
    refine pQ rfl <| aB <| aO rfl <| rB <| oa rfl <| aB <| aT <| aP <| aE (.tmp rfl .nil) ?_
    exact fun H hH => ⟨by rw [aAr hm], hH.kept⟩
  ·refine rA <| fo 0 V24 aI rfl <| lG rfl V3 ?_
   refine ob rfl (by exact cM (by omega)) ?_
   refine fo 1 V24 aI rfl <| lG rfl V3 ?_
   refine ob rfl (by exact cL (by omega)) ?_
   refine ob rfl (by exact gT V4) ?_
   refine om rfl <| aC rfl rfl rfl <| aC rfl rfl rfl <| aC rfl rfl rfl <| aC rfl rfl rfl <| aC rfl rfl rfl <| aC rfl rfl rfl <| aC rfl rfl rfl ?_
   try (have hs : gB w h = true := gQ (by omega))
   refine aC rfl rfl rfl <| aC rfl rfl rfl <| pt rfl <| aB <| aO rfl <| rB <| oa rfl <| aB <| aT <| aP <| aE (.tmp rfl .nil) ?_
   exact fun H hH => ⟨by rw [lE (dY (by omega))], hH.kept⟩
  ·refine rA <| fo 0 V24 aI rfl <| lG rfl V3 ?_
   refine ob rfl (by exact cL (by omega)) ?_
   refine fo 1 V24 aI rfl <| lG rfl V3 ?_
   refine ob rfl (by exact cM (by omega)) ?_
   refine ob rfl (by exact gT V4) ?_
   refine om rfl <| aC rfl rfl rfl <| aC rfl rfl rfl <| aC rfl rfl rfl <| aC rfl rfl rfl <| aC rfl rfl rfl <| aC rfl rfl rfl <| aC rfl rfl rfl ?_
   try (have hs : gB w h = true := gQ (by omega))
   refine aC rfl rfl rfl <| aC rfl rfl rfl <| pt rfl <| aB <| aO rfl <| rB <| oa rfl <| aB <| aT <| aP <| aE (.tmp rfl .nil) ?_
   exact fun H hH => ⟨by rw [lE (dY (by omega))], hH.kept⟩
  ·refine rA <| fo 0 V24 aI rfl <| lG rfl V3 ?_
   refine ob rfl (by exact cL (by omega)) ?_
   refine fo 1 V24 aI rfl <| lG rfl V3 ?_
   refine ob rfl (by exact cL (by omega)) ?_
   refine ob rfl (by exact gT V4) ?_
   refine om rfl <| fo 2 V24 eI rfl <| lG rfl V22 ?_
   refine ll rfl V22 <| fo 0 V24 aI rfl <| lG rfl V3 ?_
   refine fo 1 V24 aI rfl <| lG rfl V3 ?_
   try (have hs : gB w h = true := gQ (by omega))
   refine ob rfl (by exact gE (cO (by have := iG hs; omega) (by have := iG hs; omega))) ?_
   rcases Decidable.em ((l.length : Int) = w * h) with hm | hm
   ·refine ob rfl (by exact bP (by assumption)) ?_
    refine pQ rfl <| aB <| aG rfl <| aJ <| aD <| aH <| rB <| oa rfl <| aB <| aK ?_
    refine bK (σ := Nat) (fun k => l.length - k) (fun k => [(1, .pointer (some ⟨2 * N1 + 1, 0, none⟩)), (3, .int .i64 ((k : Nat) : Int))]) (fun _ => S) (fun _ => A) (fun _ => [(N1, .cells [.int .i64 w, .int .i64 h, .slice ax l.length cx] (cI E 24) true)]) (fun k => k ≤ l.length ∧ (∀ j d, j < k → l[j]? = some d → iI d = true)) (0) (⟨Nat.zero_le _, fun j d h => absurd h (Nat.not_lt_zero _)⟩) pK rfl rfl sV ?_
    intro s hJ t1
    obtain ⟨hJ, hg⟩ := hJ
    refine aH <| aH ?_
    rcases Nat.lt_or_ge s l.length with hk | hk
    ·obtain ⟨qx, us, d, eqx, ix, hc, lx, kx⟩ := rx.at' s hk
     cases eqx
     obtain ⟨n, rfl, rfl, hn⟩ := tB kx
     obtain ⟨x0, ex0, lx1⟩ := dW lx
     cases ex0
     refine rA <| om rfl <| fo 2 V24 eI rfl <| lG rfl V22 ?_
     refine ll rfl V22 <| ob rfl (by exact aX (by omega)) ?_
     refine aB <| aO rfl <| aJ <| aD <| aH <| aK <| aH ?_
     rcases aWo n with q9 | q9 | q9
     ·have hp : iI [.v (.int .i64 n)] = false := decide_eq_false (by simp only [gY]; omega)
      refine rA <| fo 2 V24 eI rfl <| lG rfl V22 ?_
      refine om rfl <| bH rfl rfl rfl rfl V22 aI rfl (by omega) ?_
      refine aV rfl rfl rfl (by exact cU V3 rfl (InA.add ix) lx1) ?_
      refine ob rfl (by exact aX (by omega)) ?_
      refine om rfl <| aC rfl rfl rfl <| aC rfl rfl rfl <| aC rfl rfl rfl <| aC rfl rfl rfl <| aC rfl rfl rfl <| aC rfl rfl rfl <| pt rfl <| aB <| aO rfl <| rB <| oa rfl <| aB <| aT <| bD <| aP <| cP <| bD <| aP <| aE (.tmp rfl .nil) ?_
      exact fun H hH => ⟨by rw [wG hs hm hc hp], hH.kept⟩
     ·have hp : iI [.v (.int .i64 n)] = false := decide_eq_false (by simp only [gY]; omega)
      refine rA <| fo 2 V24 eI rfl <| lG rfl V22 ?_
      refine om rfl <| bH rfl rfl rfl rfl V22 aI rfl (by omega) ?_
      refine aV rfl rfl rfl (by exact cU V3 rfl (InA.add ix) lx1) ?_
      refine ob rfl (by exact aW (by omega)) ?_
      refine om rfl <| fo 2 V24 eI rfl <| lG rfl V22 ?_
      refine om rfl <| bH rfl rfl rfl rfl V22 aI rfl (by omega) ?_
      refine aV rfl rfl rfl (by exact cU V3 rfl (InA.add ix) lx1) ?_
      refine ob rfl (by exact cR (by omega)) ?_
      refine pQ rfl <| aB <| aO rfl <| rB <| oa rfl <| aB <| aT <| bD <| aP <| cP <| bD <| aP <| aE (.tmp rfl .nil) ?_
      exact fun H hH => ⟨by rw [wG hs hm hc hp], hH.kept⟩
     ·have hp : iI [.v (.int .i64 n)] = true := decide_eq_true (by simp only [gY]; omega)
      refine rA <| fo 2 V24 eI rfl <| lG rfl V22 ?_
      refine om rfl <| bH rfl rfl rfl rfl V22 aI rfl (by omega) ?_
      refine aV rfl rfl rfl (by exact cU V3 rfl (InA.add ix) lx1) ?_
      refine ob rfl (by exact aW (by omega)) ?_
      refine om rfl <| fo 2 V24 eI rfl <| lG rfl V22 ?_
      refine om rfl <| bH rfl rfl rfl rfl V22 aI rfl (by omega) ?_
      refine aV rfl rfl rfl (by exact cU V3 rfl (InA.add ix) lx1) ?_
      refine ob rfl (by exact bW (by omega)) ?_
      refine pQ rfl <| aB <| aG rfl <| aJ <| bA <| aD <| rA <| om rfl <| ob rfl (by exact aY (by omega)) ?_
      refine oa rfl <| aZ ?_
      refine rd' (s + 1) (show l.length - (s + 1) < l.length - s by omega) ⟨by omega, fun j d2 hj hd2 => ?_⟩
      by_cases e : j = s
      ·subst e; rw [hc] at hd2; cases hd2; exact hp
      ·exact hg j d2 (by omega) hd2
    ·refine rA <| om rfl <| fo 2 V24 eI rfl <| lG rfl V22 ?_
     refine ll rfl V22 <| ob rfl (by exact aW (by omega)) ?_
     refine aB <| aG rfl <| bJ <| aR <| aS <| aN <| aD <| rB <| oa rfl <| aB <| aT <| aE (.tmp rfl .nil) ?_
     exact fun H hH => ⟨by rw [zO hs hm fun j d h1 h2 => hg j d (by omega) h2], hH.kept⟩
   ·refine ob rfl (by exact dZ (by assumption)) ?_
    refine pQ rfl <| aB <| aO rfl <| rB <| oa rfl <| aB <| aT <| aP <| aE (.tmp rfl .nil) ?_
    exact fun H hH => ⟨by rw [aAr hm], hH.kept⟩
end Go.Proofs.YteklajiaicmogaaGreatDoor
namespace Go.Proofs.YteklajiaicmogaaGreatDoor
open Go Go.AM
theorem aEt : ∃ fn, E.fn 44 = some fn := ⟨_, aQ Tryz.func44 rfl rfl rfl⟩
theorem aGq : ∃ fn, E.fn 45 = some fn := ⟨_, aQ Tryz.func45 rfl rfl rfl⟩
set_option maxHeartbeats 4000000 in
theorem aLq {S : AH} {A : Nat → Prop} (hA : ∀ j, A j → j < S.nx) {w h : Int} {x : Value} {l : List (List CT)} (hx : CellA A S (.row 8 [.int .i64]) x (.row l)) (hm : ckE iI w h l = 0) : XCall Tryz.prog 16 [.agg ⟨[.int .i64 w, .int .i64 h, x]⟩] S fun v H' => v = .string ⟨⟨qU w h l⟩⟩ ∧ Kept S.nx S H' := by
 obtain ⟨w1, h1, rfl, rfl, hw, hh, _, _, hl, hp⟩ := qW hm
 have hv := fun c hc => uQ (hp c hc)
 have hlen := zI hm
 rw [show qU (w1 : Int) (h1 : Int) l = aF w1 ++ aF h1 ++ eE eX (l.map fP) from rfl] at hlen ⊢
 have hx0 := hx
 obtain ⟨l2, ax, cx, e2, rfl, rx⟩ := hx.rowD
 cases e2
 have hwl := bU (n := w1) (by omega)
 have hhl := bU (n := h1) (by omega)
 refine bN (E := E) (n := 60) (rs := [.tmp 2]) (l := [(0, _)]) (aQ Tryz.func16 rfl rfl rfl) hA rfl ?_
 refine rB <| cZ rfl rfl nM rfl ?_
 intro N1
 refine oa rfl <| tq <| rB <| aV rfl rfl rfl (by exact bV V24 rfl fI rfl mA (by exact Nat.le_of_ble_eq_true rfl) (by rfl)) ?_
 refine oc aGq oV (fun H hH => (zX hH.lt (CellA.gr hH.gr _ _ _ hx0)).i hm) ?_
 refine ob rfl (by exact bP (by rfl)) ?_
 refine aB <| aG rfl <| aJ <| aD <| aH <| cC (E := E) mixed [2, 5] _ (List.Sublist.refl _) (by kernel_rfl) (by kernel_rfl) (by decide) ?_
 refine fo 0 V24 aI rfl <| lG rfl V3 ?_
 refine bF rfl rfl (fun _ => mA) rfl jD oV (fun H hH => fD (by omega)) ?_
 refine fo 1 V24 aI rfl <| lG rfl V3 ?_
 refine bF rfl rfl (fun _ => mA) rfl jD oV (fun H hH => fD (by omega)) ?_
 refine ob rfl (by exact bE (v := ⟨⟨aF w1 ++ aF h1⟩⟩) (by show (aF w1).length + (aF h1).length ≤ _; omega) (rfl)) ?_
 refine oa rfl <| rC <| oa rfl <| tq <| rB <| oa rfl <| aB <| aK ?_
 refine bK (σ := Nat × Nat × List UInt8) (fun x => l.length - x.1) (fun x => [(1, .pointer (some ⟨2 * N1 + 1, 0, none⟩)), (3, .string ⟨⟨x.2.2⟩⟩), (4, .int .i64 ((x.2.1 : Nat) : Int)), (5, .int .i64 ((x.1 : Nat) : Int))]) (fun _ => S) (fun _ => A) (fun _ => [(N1, .cells [.int .i64 (w1 : Int), .int .i64 (h1 : Int), .slice ax l.length cx] (cI E 24) true)]) (fun x => x.2.1 ≤ x.1 ∧ x.1 ≤ l.length ∧ x.2.2 ++ eE eX ((l.map fP).drop x.2.1) = aF w1 ++ aF h1 ++ eE eX (l.map fP) ∧ (∀ i b, x.2.1 ≤ i → i ≤ x.1 → (l.map fP)[i]? = some b → (l.map fP)[x.2.1]? = some b) ∧ (x.1 = l.length → x.2.1 = l.length)) ((0, 0, aF w1 ++ aF h1)) (⟨Nat.le_refl _, Nat.zero_le _, (by simp), (fun i b h1 h2 h3 => by (obtain rfl : i = 0 := by omega); exact h3), (fun h => h)⟩) pK rfl rfl (List.Sublist.refl _) ?_
 intro st hJ2 t1
 obtain ⟨k, fr, s⟩ := st
 obtain ⟨hfk, hkl, hJ1, hrun, hfin⟩ := hJ2
 dsimp only at hfk hkl hJ1 hrun hfin ⊢
 refine aH <| aH ?_
 rcases Nat.lt_or_ge k l.length with hk | hk
 ·obtain ⟨qx, us, d, eqx, ix, hc, lx, kx⟩ := rx.at' k hk
  cases eqx
  obtain ⟨n, rfl, rfl, hn⟩ := tB kx
  obtain ⟨x0, ex0, lx1⟩ := dW lx
  cases ex0
  have hu : 0 ≤ n ∧ n ≤ 65535 := hv _ (List.mem_of_getElem? hc)
  obtain ⟨m, rfl⟩ := Int.eq_ofNat_of_zero_le hu.1
  have h65 : m ≤ 65535 := by have := hu.2; omega
  have hLk : (l.map fP)[k]? = some m := by rw [List.getElem?_map, hc]; rfl
  have hLf : (l.map fP)[fr]? = some m := hrun k m (by omega) (Nat.le_refl _) hLk
  refine rA <| om rfl <| fo 2 V24 eI rfl <| lG rfl V22 ?_
  refine ll rfl V22 <| ob rfl (by exact aX (by omega)) ?_
  refine aB <| aO rfl <| aJ <| aD <| aH <| aK <| aH ?_
  rcases Nat.lt_or_ge (k + 1) l.length with hk2 | hk2
  ·obtain ⟨qx2, us2, d2, eqx2, ix2, hc2, lx2, kx2⟩ := rx.at' (k + 1) hk2
   cases eqx2
   obtain ⟨n2, rfl, rfl, hn2⟩ := tB kx2
   obtain ⟨x02, ex02, lx12⟩ := dW lx2
   cases ex02
   have hu2 : 0 ≤ n2 ∧ n2 ≤ 65535 := hv _ (List.mem_of_getElem? hc2)
   obtain ⟨q, rfl⟩ := Int.eq_ofNat_of_zero_le hu2.1
   have hLk2 : (l.map fP)[k + 1]? = some q := by rw [List.getElem?_map, hc2]; rfl
   refine cC (E := E) mixed [] _ (List.Sublist.refl _) (by kernel_rfl) (by kernel_rfl) (by decide) ?_
   refine om rfl <| ob rfl (by exact aY (by omega)) ?_
   refine fo 2 V24 eI rfl <| lG rfl V22 ?_
   refine ll rfl V22 <| ob rfl (by exact cL (by omega)) ?_
   refine om rfl <| fo 2 V24 eI rfl <| lG rfl V22 ?_
   refine om rfl <| ob rfl (by exact aY (by omega)) ?_
   refine bH rfl rfl rfl rfl V22 aI rfl (by omega) ?_
   refine aV rfl rfl rfl (by exact cU V3 rfl (InA.add ix2) lx12) ?_
   refine fo 2 V24 eI rfl <| lG rfl V22 ?_
   refine om rfl <| bH rfl rfl rfl rfl V22 aI rfl (by omega) ?_
   refine aV rfl rfl rfl (by exact cU V3 rfl (InA.add ix) lx1) ?_
   by_cases heq : q = m
   ·refine ob rfl (by exact bP (by omega)) ?_
    refine pQ rfl <| aB <| aG rfl <| aJ <| bA <| aD <| rA <| om rfl <| ob rfl (by exact aY (by omega)) ?_
    refine oa rfl <| aZ ?_
    refine rd' (k + 1, fr, s) (show l.length - (k + 1) < l.length - k by omega) ⟨(show fr ≤ k + 1 by omega), (show k + 1 ≤ l.length by omega), hJ1, ?_, (fun h => absurd h (by show ¬ k + 1 = l.length; omega))⟩
    intro i b h1 h2 h3
    by_cases e : i = k + 1
    ·subst e
     rw [hLk2] at h3
     rw [← h3, hLf, heq]
    ·exact hrun i b h1 (by have h2 : i ≤ k + 1 := h2; omega) h3
   ·have hend : ∀ b, (l.map fP)[k + 1]? = some b → b ≠ m := fun b hb => by rw [hLk2] at hb; cases hb; exact heq
    have hstep := iS (val := eX) (l := (l.map fP)) (i := fr) (j := k + 1) (a := m) hLf (by omega) (by rw [List.length_map]; omega) (fun i b h1 h2 h3 => Option.some.inj ((hrun i b h1 (by omega) h3).symm.trans hLf)) hend
    have hs2 : (s ++ aF (k - fr) ++ aF m) ++ eE eX ((l.map fP).drop (k + 1)) = aF w1 ++ aF h1 ++ eE eX (l.map fP) := by rw [← hJ1, hstep, show k + 1 - fr - 1 = k - fr by omega]; simp [eX, cT]
    have hs3 := congrArg List.length hs2
    have hs4 := hlen
    simp only [List.length_append] at hs3 hs4
    refine ob rfl (by exact dZ (by omega)) ?_
    refine pQ rfl <| aB <| aO rfl <| aH <| cC (E := E) mixed [4, 11] _ (List.Sublist.refl _) (by kernel_rfl) (by kernel_rfl) (by decide) ?_
    refine om rfl <| om rfl <| om rfl <| ob rfl (by exact fR (c := ((k - fr : Nat) : Int)) (by rw [cO (by omega) (by omega)]; omega)) ?_
    refine bF rfl rfl (fun _ => mA) rfl jD oV (fun H hH => fD (n := k - fr) (by omega)) ?_
    refine ob rfl (by exact bE (v := ⟨⟨s ++ aF (k - fr)⟩⟩) (by simp only [List.length_append]; omega) (rfl)) ?_
    refine fo 2 V24 eI rfl <| lG rfl V22 ?_
    refine om rfl <| bH rfl rfl rfl rfl V22 aI rfl (by omega) ?_
    refine aV rfl rfl rfl (by exact cU V3 rfl (InA.add ix) lx1) ?_
    refine bF rfl rfl (fun _ => mA) rfl jD oV (fun H hH => fD (n := m) (by omega)) ?_
    refine ob rfl (by exact bE (v := ⟨⟨s ++ aF (k - fr) ++ aF m⟩⟩) (by simp only [List.length_append]; omega) (rfl)) ?_
    refine oa rfl <| rD <| om rfl <| ob rfl (by exact aY (by omega)) ?_
    refine oa rfl <| aZ <| bA <| aD <| rA <| om rfl <| ob rfl (by exact aY (by omega)) ?_
    refine oa rfl <| aZ ?_
    refine rd' (k + 1, k + 1, s ++ aF (k - fr) ++ aF m) (show l.length - (k + 1) < l.length - k by omega) ⟨Nat.le_refl _, (show k + 1 ≤ l.length by omega), hs2, (fun i b h1 h2 h3 => by (obtain rfl : i = k + 1 := Nat.le_antisymm h2 h1); exact h3), (fun h => h)⟩
  ·have hend : ∀ b, (l.map fP)[k + 1]? = some b → b ≠ m := fun b hb => by rw [List.getElem?_eq_none (by rw [List.length_map]; omega)] at hb; cases hb
   have hstep := iS (val := eX) (l := (l.map fP)) (i := fr) (j := k + 1) (a := m) hLf (by omega) (by rw [List.length_map]; omega) (fun i b h1 h2 h3 => Option.some.inj ((hrun i b h1 (by omega) h3).symm.trans hLf)) hend
   have hs2 : (s ++ aF (k - fr) ++ aF m) ++ eE eX ((l.map fP).drop (k + 1)) = aF w1 ++ aF h1 ++ eE eX (l.map fP) := by rw [← hJ1, hstep, show k + 1 - fr - 1 = k - fr by omega]; simp [eX, cT]
   have hs3 := congrArg List.length hs2
   have hs4 := hlen
   simp only [List.length_append] at hs3 hs4
   refine cC (E := E) mixed [] _ (List.Sublist.refl _) (by kernel_rfl) (by kernel_rfl) (by decide) ?_
   refine om rfl <| ob rfl (by exact aY (by omega)) ?_
   refine fo 2 V24 eI rfl <| lG rfl V22 ?_
   refine ll rfl V22 <| ob rfl (by exact cM (by omega)) ?_
   refine om rfl <| aC rfl rfl rfl <| aC rfl rfl rfl <| aC rfl rfl rfl <| aC rfl rfl rfl <| aC rfl rfl rfl <| aC rfl rfl rfl <| aC rfl rfl rfl <| aC rfl rfl rfl <| aC rfl rfl rfl <| aC rfl rfl rfl <| aC rfl rfl rfl <| aC rfl rfl rfl <| pt rfl <| aB <| aO rfl <| aH <| cC (E := E) mixed [4, 11] _ (List.Sublist.refl _) (by kernel_rfl) (by kernel_rfl) (by decide) ?_
   refine om rfl <| om rfl <| om rfl <| ob rfl (by exact fR (c := ((k - fr : Nat) : Int)) (by rw [cO (by omega) (by omega)]; omega)) ?_
   refine bF rfl rfl (fun _ => mA) rfl jD oV (fun H hH => fD (n := k - fr) (by omega)) ?_
   refine ob rfl (by exact bE (v := ⟨⟨s ++ aF (k - fr)⟩⟩) (by simp only [List.length_append]; omega) (rfl)) ?_
   refine fo 2 V24 eI rfl <| lG rfl V22 ?_
   refine om rfl <| bH rfl rfl rfl rfl V22 aI rfl (by omega) ?_
   refine aV rfl rfl rfl (by exact cU V3 rfl (InA.add ix) lx1) ?_
   refine bF rfl rfl (fun _ => mA) rfl jD oV (fun H hH => fD (n := m) (by omega)) ?_
   refine ob rfl (by exact bE (v := ⟨⟨s ++ aF (k - fr) ++ aF m⟩⟩) (by simp only [List.length_append]; omega) (rfl)) ?_
   refine oa rfl <| rD <| om rfl <| ob rfl (by exact aY (by omega)) ?_
   refine oa rfl <| aZ <| bA <| aD <| rA <| om rfl <| ob rfl (by exact aY (by omega)) ?_
   refine oa rfl <| aZ ?_
   refine rd' (k + 1, k + 1, s ++ aF (k - fr) ++ aF m) (show l.length - (k + 1) < l.length - k by omega) ⟨Nat.le_refl _, (show k + 1 ≤ l.length by omega), hs2, (fun i b h1 h2 h3 => by (obtain rfl : i = k + 1 := Nat.le_antisymm h2 h1); exact h3), (fun h => h)⟩
 ·obtain rfl : k = l.length := by omega
  have hf9 := hfin rfl
  rw [hf9, show l.length = (l.map fP).length by rw [List.length_map], oH, List.append_nil] at hJ1
  refine rA <| om rfl <| fo 2 V24 eI rfl <| lG rfl V22 ?_
  refine ll rfl V22 <| ob rfl (by exact aW (by omega)) ?_
  refine aB <| aG rfl <| bJ <| aR <| aS <| aN <| aD <| rB <| om rfl <| oa rfl <| aB <| aT <| aE (.tmp rfl .nil) ?_
  exact fun H hH => ⟨by rw [hJ1], hH.kept⟩
theorem aFe {a b c d a' b' c' d' : Int} {v : Bool} (h : ((a == a') && ((b == b') && ((c == c') && (d == d')))) = v) : dM E .neq 31 (.agg ⟨[.int .i64 a, .int .i64 b, .int .i64 c, .int .i64 d]⟩) (.agg ⟨[.int .i64 a', .int .i64 b', .int .i64 c', .int .i64 d']⟩) = some (.bool (!v)) := by
 subst h
 have hu : E.und 31 = _ := V31
 have ht : E.eqT 31 = true := by kernel_rfl
 have p0 : ∀ x y z w : Value, apart E 3 [x, y, z, w] 0 = some x := fun x y z w => by rfl
 have p1 : ∀ x y z w : Value, apart E 3 [x, y, z, w] 1 = some y := fun x y z w => by rfl
 have p2 : ∀ x y z w : Value, apart E 3 [x, y, z, w] 2 = some z := fun x y z w => by rfl
 have p3 : ∀ x y z w : Value, apart E 3 [x, y, z, w] 3 = some w := fun x y z w => by rfl
 have key : aeq E 9 31 (.agg ⟨[.int .i64 a, .int .i64 b, .int .i64 c, .int .i64 d]⟩) (.agg ⟨[.int .i64 a', .int .i64 b', .int .i64 c', .int .i64 d']⟩) = some ((a == a') && ((b == b') && ((c == c') && (d == d')))) := by
  rw [aeq.eq_def]
  simp only [hu, ht, cond_true, iQ, show ("R" == "_") = false by decide, show ("G" == "_") = false by decide, show ("B" == "_") = false by decide, show ("A" == "_") = false by decide, cond_false, p0, p1, p2, p3, aeq3]
  cases (a == a') <;> cases (b == b') <;> cases (c == c') <;> cases (d == d') <;> rfl
 simp only [dM, nQ, qM, ht, Bool.and_self, cond_true, key, jE]
set_option maxHeartbeats 4000000 in
theorem aJe {S : AH} {A : Nat → Prop} (hA : ∀ j, A j → j < S.nx) {w h : Int} {x : Value} {l : List (List CT)} (hx : CellA A S (.row 32 kP) x (.row l)) (hm : ckE kV w h l = 0) : XCall Tryz.prog 17 [.agg ⟨[.int .i64 w, .int .i64 h, x]⟩] S fun v H' => v = .string ⟨⟨qT w h l⟩⟩ ∧ Kept S.nx S H' := by
 obtain ⟨w1, h1, rfl, rfl, hw, hh, _, _, hl, hp⟩ := qW hm
 have hv := fun c hc => vJ (hp c hc)
 have hlen := zZ hm
 rw [show qT (w1 : Int) (h1 : Int) l = aF w1 ++ aF h1 ++ eE eY (l.map fF) from rfl] at hlen ⊢
 have hx0 := hx
 obtain ⟨l2, ax, cx, e2, rfl, rx⟩ := hx.rowD
 cases e2
 have hwl := bU (n := w1) (by omega)
 have hhl := bU (n := h1) (by omega)
 refine bN (E := E) (n := 71) (rs := [.tmp 2]) (l := [(0, _)]) (aQ Tryz.func17 rfl rfl rfl) hA rfl ?_
 refine rB <| cZ rfl rfl nM rfl ?_
 intro N1
 refine oa rfl <| tq <| rB <| aV rfl rfl rfl (by exact bV V29 rfl fH rfl mA (by exact Nat.le_of_ble_eq_true rfl) (by rfl)) ?_
 refine oc aEt oV (fun H hH => (aAx hH.lt (CellA.gr hH.gr _ _ _ hx0)).i hm) ?_
 refine ob rfl (by exact bP (by rfl)) ?_
 refine aB <| aG rfl <| aJ <| aD <| aH <| cC (E := E) mixed [2, 5] _ (List.Sublist.refl _) (by kernel_rfl) (by kernel_rfl) (by decide) ?_
 refine fo 0 V29 aI rfl <| lG rfl V3 ?_
 refine bF rfl rfl (fun _ => mA) rfl jD oV (fun H hH => fD (by omega)) ?_
 refine fo 1 V29 aI rfl <| lG rfl V3 ?_
 refine bF rfl rfl (fun _ => mA) rfl jD oV (fun H hH => fD (by omega)) ?_
 refine ob rfl (by exact bE (v := ⟨⟨aF w1 ++ aF h1⟩⟩) (by show (aF w1).length + (aF h1).length ≤ _; omega) (rfl)) ?_
 refine oa rfl <| rC <| oa rfl <| tq <| rB <| oa rfl <| aB <| aK ?_
 refine bK (σ := Nat × Nat × List UInt8) (fun x => l.length - x.1) (fun x => [(1, .pointer (some ⟨2 * N1 + 1, 0, none⟩)), (3, .string ⟨⟨x.2.2⟩⟩), (4, .int .i64 ((x.2.1 : Nat) : Int)), (5, .int .i64 ((x.1 : Nat) : Int))]) (fun _ => S) (fun _ => A) (fun _ => [(N1, .cells [.int .i64 (w1 : Int), .int .i64 (h1 : Int), .slice ax l.length cx] (cI E 29) true)]) (fun x => x.2.1 ≤ x.1 ∧ x.1 ≤ l.length ∧ x.2.2 ++ eE eY ((l.map fF).drop x.2.1) = aF w1 ++ aF h1 ++ eE eY (l.map fF) ∧ (∀ i b, x.2.1 ≤ i → i ≤ x.1 → (l.map fF)[i]? = some b → (l.map fF)[x.2.1]? = some b) ∧ (x.1 = l.length → x.2.1 = l.length)) ((0, 0, aF w1 ++ aF h1)) (⟨Nat.le_refl _, Nat.zero_le _, (by simp), (fun i b h1 h2 h3 => by (obtain rfl : i = 0 := by omega); exact h3), (fun h => h)⟩) pK rfl rfl (List.Sublist.refl _) ?_
 intro st hJ2 t1
 obtain ⟨k, fr, s⟩ := st
 obtain ⟨hfk, hkl, hJ1, hrun, hfin⟩ := hJ2
 dsimp only at hfk hkl hJ1 hrun hfin ⊢
 refine aH <| aH ?_
 rcases Nat.lt_or_ge k l.length with hk | hk
 ·obtain ⟨qx, us, d, eqx, ix, hc, lx, kx⟩ := rx.at' k hk
  cases eqx
  obtain ⟨r, g, b, a, rfl, rfl, _, _, _, _⟩ := aHc kx
  have hu : (0 ≤ r ∧ r ≤ 65535) ∧ (0 ≤ g ∧ g ≤ 65535) ∧ (0 ≤ b ∧ b ≤ 65535) ∧ (0 ≤ a ∧ a ≤ 65535) := hv _ (List.mem_of_getElem? hc)
  obtain ⟨m1, rfl⟩ := Int.eq_ofNat_of_zero_le hu.1.1
  obtain ⟨m2, rfl⟩ := Int.eq_ofNat_of_zero_le hu.2.1.1
  obtain ⟨m3, rfl⟩ := Int.eq_ofNat_of_zero_le hu.2.2.1.1
  obtain ⟨m4, rfl⟩ := Int.eq_ofNat_of_zero_le hu.2.2.2.1
  have h65 : m1 ≤ 65535 ∧ m2 ≤ 65535 ∧ m3 ≤ 65535 ∧ m4 ≤ 65535 := by obtain ⟨⟨_, z1⟩, ⟨_, z2⟩, ⟨_, z3⟩, _, z4⟩ := hu; omega
  have hLk : (l.map fF)[k]? = some (m1, m2, m3, m4) := by rw [List.getElem?_map, hc]; rfl
  have hLf : (l.map fF)[fr]? = some (m1, m2, m3, m4) := hrun k (m1, m2, m3, m4) (by omega) (Nat.le_refl _) hLk
  refine rA <| om rfl <| fo 2 V29 gZ rfl <| lG rfl V27 ?_
  refine ll rfl V27 <| ob rfl (by exact aX (by omega)) ?_
  refine aB <| aO rfl <| aJ <| aD <| aH <| aK <| rB <| fo 2 V29 gZ rfl <| lG rfl V27 ?_
  refine om rfl <| bH rfl rfl rfl rfl V27 bL rfl (by omega) ?_
  refine aV rfl rfl rfl (by exact cS V31 rfl bL rfl (InA.add ix) lx) ?_
  refine bR (cs := (.int .i64 0 :: .int .i64 0 :: .int .i64 0 :: .int .i64 0 :: [])) rfl rfl nM bL rfl rfl ?_
  intro N6
  refine bX rfl nM rfl rfl bL (by rfl) rfl uP (by exact fS rfl) (by exact Nat.le_of_ble_eq_true rfl) nM ?_
  refine tq ?_
  rcases Nat.lt_or_ge (k + 1) l.length with hk2 | hk2
  ·obtain ⟨qx2, us2, d2, eqx2, ix2, hc2, lx2, kx2⟩ := rx.at' (k + 1) hk2
   cases eqx2
   obtain ⟨r2, g2, b2, a2, rfl, rfl, _, _, _, _⟩ := aHc kx2
   have hu2 : (0 ≤ r2 ∧ r2 ≤ 65535) ∧ (0 ≤ g2 ∧ g2 ≤ 65535) ∧ (0 ≤ b2 ∧ b2 ≤ 65535) ∧ (0 ≤ a2 ∧ a2 ≤ 65535) := hv _ (List.mem_of_getElem? hc2)
   obtain ⟨q1, rfl⟩ := Int.eq_ofNat_of_zero_le hu2.1.1
   obtain ⟨q2, rfl⟩ := Int.eq_ofNat_of_zero_le hu2.2.1.1
   obtain ⟨q3, rfl⟩ := Int.eq_ofNat_of_zero_le hu2.2.2.1.1
   obtain ⟨q4, rfl⟩ := Int.eq_ofNat_of_zero_le hu2.2.2.2.1
   have hLk2 : (l.map fF)[k + 1]? = some (q1, q2, q3, q4) := by rw [List.getElem?_map, hc2]; rfl
   refine cC (E := E) mixed [] _ (List.Sublist.refl _) (by kernel_rfl) (by kernel_rfl) (by decide) ?_
   refine om rfl <| ob rfl (by exact aY (by omega)) ?_
   refine fo 2 V29 gZ rfl <| lG rfl V27 ?_
   refine ll rfl V27 <| ob rfl (by exact cL (by omega)) ?_
   refine om rfl <| fo 2 V29 gZ rfl <| lG rfl V27 ?_
   refine om rfl <| ob rfl (by exact aY (by omega)) ?_
   refine bH rfl rfl rfl rfl V27 bL rfl (by omega) ?_
   refine aV rfl rfl rfl (by exact cS V31 rfl bL rfl (InA.add ix2) lx2) ?_
   refine aV rfl rfl rfl (by exact bV V31 rfl bL rfl mA (by exact Nat.le_of_ble_eq_true rfl) (by rfl)) ?_
   by_cases heq : (q1, q2, q3, q4) = (m1, m2, m3, m4)
   ·have hb : ((((q1 : Nat) : Int) == ((m1 : Nat) : Int)) && ((((q2 : Nat) : Int) == ((m2 : Nat) : Int)) && ((((q3 : Nat) : Int) == ((m3 : Nat) : Int)) && (((q4 : Nat) : Int) == ((m4 : Nat) : Int))))) = true := by cases heq; simp
    refine ob rfl (by exact aFe hb) ?_
    refine pQ rfl <| aB <| aG rfl <| aJ <| bA <| aD <| rA <| om rfl <| ob rfl (by exact aY (by omega)) ?_
    refine oa rfl <| aZ ?_
    refine rd' (k + 1, fr, s) (show l.length - (k + 1) < l.length - k by omega) ⟨(show fr ≤ k + 1 by omega), (show k + 1 ≤ l.length by omega), hJ1, ?_, (fun h => absurd h (by show ¬ k + 1 = l.length; omega))⟩
    intro i b h1 h2 h3
    by_cases e : i = k + 1
    ·subst e
     rw [hLk2] at h3
     rw [← h3, hLf, heq]
    ·exact hrun i b h1 (by have h2 : i ≤ k + 1 := h2; omega) h3
   ·have hb : ((((q1 : Nat) : Int) == ((m1 : Nat) : Int)) && ((((q2 : Nat) : Int) == ((m2 : Nat) : Int)) && ((((q3 : Nat) : Int) == ((m3 : Nat) : Int)) && (((q4 : Nat) : Int) == ((m4 : Nat) : Int))))) = false := by rw [Bool.eq_false_iff]; intro hq; simp only [Bool.and_eq_true, beq_iff_eq] at hq; apply heq; simp only [Prod.mk.injEq]; omega
    have hend : ∀ b, (l.map fF)[k + 1]? = some b → b ≠ (m1, m2, m3, m4) := fun b hb => by rw [hLk2] at hb; cases hb; exact heq
    have hstep := iS (val := eY) (l := (l.map fF)) (i := fr) (j := k + 1) (a := (m1, m2, m3, m4)) hLf (by omega) (by rw [List.length_map]; omega) (fun i b h1 h2 h3 => Option.some.inj ((hrun i b h1 (by omega) h3).symm.trans hLf)) hend
    have hs2 : (s ++ aF (k - fr) ++ aF m1 ++ aF m2 ++ aF m3 ++ aF m4) ++ eE eY ((l.map fF).drop (k + 1)) = aF w1 ++ aF h1 ++ eE eY (l.map fF) := by rw [← hJ1, hstep, show k + 1 - fr - 1 = k - fr by omega]; simp [eY, cT]
    have hs3 := congrArg List.length hs2
    have hs4 := hlen
    simp only [List.length_append] at hs3 hs4
    refine ob rfl (by exact aFe hb) ?_
    refine pQ rfl <| aB <| aO rfl <| aH <| cC (E := E) mixed [4, 8, 12, 16, 20] _ (List.Sublist.refl _) (by kernel_rfl) (by kernel_rfl) (by decide) ?_
    refine om rfl <| om rfl <| om rfl <| ob rfl (by exact fR (c := ((k - fr : Nat) : Int)) (by rw [cO (by omega) (by omega)]; omega)) ?_
    refine bF rfl rfl (fun _ => mA) rfl jD oV (fun H hH => fD (n := k - fr) (by omega)) ?_
    refine ob rfl (by exact bE (v := ⟨⟨s ++ aF (k - fr)⟩⟩) (by simp only [List.length_append]; omega) (rfl)) ?_
    refine fo 0 V31 aI rfl <| lG rfl V3 ?_
    refine bF rfl rfl (fun _ => mA) rfl jD oV (fun H hH => fD (n := m1) (by omega)) ?_
    refine ob rfl (by exact bE (v := ⟨⟨s ++ aF (k - fr) ++ aF m1⟩⟩) (by simp only [List.length_append]; omega) (rfl)) ?_
    refine fo 1 V31 aI rfl <| lG rfl V3 ?_
    refine bF rfl rfl (fun _ => mA) rfl jD oV (fun H hH => fD (n := m2) (by omega)) ?_
    refine ob rfl (by exact bE (v := ⟨⟨s ++ aF (k - fr) ++ aF m1 ++ aF m2⟩⟩) (by simp only [List.length_append]; omega) (rfl)) ?_
    refine fo 2 V31 aI rfl <| lG rfl V3 ?_
    refine bF rfl rfl (fun _ => mA) rfl jD oV (fun H hH => fD (n := m3) (by omega)) ?_
    refine ob rfl (by exact bE (v := ⟨⟨s ++ aF (k - fr) ++ aF m1 ++ aF m2 ++ aF m3⟩⟩) (by simp only [List.length_append]; omega) (rfl)) ?_
    refine fo 3 V31 aI rfl <| lG rfl V3 ?_
    refine bF rfl rfl (fun _ => mA) rfl jD oV (fun H hH => fD (n := m4) (by omega)) ?_
    refine ob rfl (by exact bE (v := ⟨⟨s ++ aF (k - fr) ++ aF m1 ++ aF m2 ++ aF m3 ++ aF m4⟩⟩) (by simp only [List.length_append]; omega) (rfl)) ?_
    refine oa rfl <| rD <| om rfl <| ob rfl (by exact aY (by omega)) ?_
    refine oa rfl <| aZ <| bA <| aD <| rA <| om rfl <| ob rfl (by exact aY (by omega)) ?_
    refine oa rfl <| aZ ?_
    refine rd' (k + 1, k + 1, s ++ aF (k - fr) ++ aF m1 ++ aF m2 ++ aF m3 ++ aF m4) (show l.length - (k + 1) < l.length - k by omega) ⟨Nat.le_refl _, (show k + 1 ≤ l.length by omega), hs2, (fun i b h1 h2 h3 => by (obtain rfl : i = k + 1 := Nat.le_antisymm h2 h1); exact h3), (fun h => h)⟩
  ·have hend : ∀ b, (l.map fF)[k + 1]? = some b → b ≠ (m1, m2, m3, m4) := fun b hb => by rw [List.getElem?_eq_none (by rw [List.length_map]; omega)] at hb; cases hb
   have hstep := iS (val := eY) (l := (l.map fF)) (i := fr) (j := k + 1) (a := (m1, m2, m3, m4)) hLf (by omega) (by rw [List.length_map]; omega) (fun i b h1 h2 h3 => Option.some.inj ((hrun i b h1 (by omega) h3).symm.trans hLf)) hend
   have hs2 : (s ++ aF (k - fr) ++ aF m1 ++ aF m2 ++ aF m3 ++ aF m4) ++ eE eY ((l.map fF).drop (k + 1)) = aF w1 ++ aF h1 ++ eE eY (l.map fF) := by rw [← hJ1, hstep, show k + 1 - fr - 1 = k - fr by omega]; simp [eY, cT]
   have hs3 := congrArg List.length hs2
   have hs4 := hlen
   simp only [List.length_append] at hs3 hs4
   refine cC (E := E) mixed [] _ (List.Sublist.refl _) (by kernel_rfl) (by kernel_rfl) (by decide) ?_
   refine om rfl <| ob rfl (by exact aY (by omega)) ?_
   refine fo 2 V29 gZ rfl <| lG rfl V27 ?_
   refine ll rfl V27 <| ob rfl (by exact cM (by omega)) ?_
   refine om rfl <| aC rfl rfl rfl <| aC rfl rfl rfl <| aC rfl rfl rfl <| aC rfl rfl rfl <| aC rfl rfl rfl <| aC rfl rfl rfl <| aC rfl rfl rfl <| aC rfl rfl rfl <| pt rfl <| aB <| aO rfl <| aH <| cC (E := E) mixed [4, 8, 12, 16, 20] _ (List.Sublist.refl _) (by kernel_rfl) (by kernel_rfl) (by decide) ?_
   refine om rfl <| om rfl <| om rfl <| ob rfl (by exact fR (c := ((k - fr : Nat) : Int)) (by rw [cO (by omega) (by omega)]; omega)) ?_
   refine bF rfl rfl (fun _ => mA) rfl jD oV (fun H hH => fD (n := k - fr) (by omega)) ?_
   refine ob rfl (by exact bE (v := ⟨⟨s ++ aF (k - fr)⟩⟩) (by simp only [List.length_append]; omega) (rfl)) ?_
   refine fo 0 V31 aI rfl <| lG rfl V3 ?_
   refine bF rfl rfl (fun _ => mA) rfl jD oV (fun H hH => fD (n := m1) (by omega)) ?_
   refine ob rfl (by exact bE (v := ⟨⟨s ++ aF (k - fr) ++ aF m1⟩⟩) (by simp only [List.length_append]; omega) (rfl)) ?_
   refine fo 1 V31 aI rfl <| lG rfl V3 ?_
   refine bF rfl rfl (fun _ => mA) rfl jD oV (fun H hH => fD (n := m2) (by omega)) ?_
   refine ob rfl (by exact bE (v := ⟨⟨s ++ aF (k - fr) ++ aF m1 ++ aF m2⟩⟩) (by simp only [List.length_append]; omega) (rfl)) ?_
   refine fo 2 V31 aI rfl <| lG rfl V3 ?_
   refine bF rfl rfl (fun _ => mA) rfl jD oV (fun H hH => fD (n := m3) (by omega)) ?_
   refine ob rfl (by exact bE (v := ⟨⟨s ++ aF (k - fr) ++ aF m1 ++ aF m2 ++ aF m3⟩⟩) (by simp only [List.length_append]; omega) (rfl)) ?_
   refine fo 3 V31 aI rfl <| lG rfl V3 ?_
   refine bF rfl rfl (fun _ => mA) rfl jD oV (fun H hH => fD (n := m4) (by omega)) ?_
   refine ob rfl (by exact bE (v := ⟨⟨s ++ aF (k - fr) ++ aF m1 ++ aF m2 ++ aF m3 ++ aF m4⟩⟩) (by simp only [List.length_append]; omega) (rfl)) ?_
   refine oa rfl <| rD <| om rfl <| ob rfl (by exact aY (by omega)) ?_
   refine oa rfl <| aZ <| bA <| aD <| rA <| om rfl <| ob rfl (by exact aY (by omega)) ?_
   refine oa rfl <| aZ ?_
   refine rd' (k + 1, k + 1, s ++ aF (k - fr) ++ aF m1 ++ aF m2 ++ aF m3 ++ aF m4) (show l.length - (k + 1) < l.length - k by omega) ⟨Nat.le_refl _, (show k + 1 ≤ l.length by omega), hs2, (fun i b h1 h2 h3 => by (obtain rfl : i = k + 1 := Nat.le_antisymm h2 h1); exact h3), (fun h => h)⟩
 ·obtain rfl : k = l.length := by omega
  have hf9 := hfin rfl
  rw [hf9, show l.length = (l.map fF).length by rw [List.length_map], oH, List.append_nil] at hJ1
  refine rA <| om rfl <| fo 2 V29 gZ rfl <| lG rfl V27 ?_
  refine ll rfl V27 <| ob rfl (by exact aW (by omega)) ?_
  refine aB <| aG rfl <| bJ <| aR <| aS <| aN <| aD <| rB <| om rfl <| oa rfl <| aB <| aT <| aE (.tmp rfl .nil) ?_
  exact fun H hH => ⟨by rw [hJ1], hH.kept⟩
end Go.Proofs.YteklajiaicmogaaGreatDoor
