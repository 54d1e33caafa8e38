/-
  Walks, laid by program.
-/
import Derived.Test.YtljakaaebljiiaaGreatDoorB7
import Derived.Test.YtljakaaebljiiaaGreatDoorB8
import Derived.Test.YtljakaaebljiiaaGreatDoorAM33
set_option linter.unusedVariables false
set_option linter.unusedSimpArgs false
set_option maxRecDepth 100000
namespace Go.Proofs.YtljakaaebljiiaaGreatDoor
open Go Go.AM

/-- an own row, or none -/
def ORow (ks : List Kd) (A : Nat → Prop) (H : AH) (pl : List (List CT)) (v : Value) (L1 : OL) : Prop :=
  (v = .slice none 0 0 ∧ pl = [] ∧ L1 = []) ∨ ∃ M cells ex, v = .slice (some ⟨2 * M + 1, 0, none⟩) pl.length pl.length ∧ L1 = [(M, .cells cells ks.length ex)] ∧ cells.length = pl.length * ks.length ∧ allOne cells = true ∧ ∀ (i : Nat) c, pl[i]? = some c → CellsA A H ks ((cells.drop (i * ks.length)).take ks.length) c
theorem clone_own {ks : List Kd} {A : Nat → Prop} {S H' : AH} {pl : List (List CT)} {u : Value} (hA : ∀ j, A j → j < S.nx) (hw : H'.w0 = S.w0) (h : Kept S.nx S H' ∧ Cloned A S ks pl u H' S.nx) : Kept S.nx S H' ∧ ∃ A1 L1, (∀ j, A1 j → A j ∨ (S.nx ≤ j ∧ j < H'.nx)) ∧ (∀ j, A j → A1 j) ∧ (∀ p ∈ L1, H'.tr.get p.1 = some p.2 ∧ S.nx ≤ p.1 ∧ p.1 < H'.nx ∧ ¬ A1 p.1) ∧ L1.Pairwise (fun p q => p.1 ≠ q.1) ∧ ORow ks A1 H' pl u L1 := by
  have g : Gr A S A H' := ⟨fun _ h => h, fun j hj => h.1.get j (hA j hj), hw⟩
  rcases h.2 with ⟨h1, h2⟩ | ⟨M, cells, ex, h1, h2, h3, h4, h5, h6, h7⟩
  · exact ⟨h.1, A, [], fun j hj => .inl hj, fun j hj => hj, (fun p hp => by cases hp), List.Pairwise.nil, .inl ⟨h1, h2, rfl⟩⟩
  · refine ⟨h.1, A, [(M, .cells cells ks.length ex)], fun j hj => .inl hj, fun j hj => hj, fun p hp => ?_, List.pairwise_singleton .., .inr ⟨M, cells, ex, h1, rfl, h5, h6, fun i c hc => CellsA.gr g _ _ _ (h7 i c hc)⟩⟩
    rw [List.mem_singleton] at hp; subst hp
    exact ⟨h2, h3, h4, fun hA' => by have := hA M hA'; omega⟩
theorem mk64 {n : Int} (h0 : -9223372036854775808 ≤ n) (h1 : n ≤ 9223372036854775807) : (Lit.int .i64 n).wf = true := by
  simp only [Lit.wf, Bool.and_eq_true, decide_eq_true_eq]
  exact ⟨h0, h1⟩
theorem r8_le (v : Int) : 0 ≤ r8 v ∧ r8 v ≤ 65535 := by have := to8_le v; unfold r8; omega
theorem r8_wf (v : Int) : (Lit.int .i64 (r8 v)).wf = true := by have := r8_le v; exact mk64 (by omega) (by omega)
theorem wf0 : (Lit.int .i64 0).wf = true := rfl
theorem unit_r8 (v : Int) : unitV (r8 v) = r8 v := by have := r8_le v; unfold unitV; omega
theorem to8_r8 (v : Int) : to8 (r8 v) = to8 v := by
  have h := to8_le v
  rw [show to8 (r8 v) = (2 * unitV (r8 v) + 257) / 514 from rfl, unit_r8]
  unfold r8; omega
theorem r8_r8 (v : Int) : r8 (r8 v) = r8 v := by rw [r8, to8_r8, ← r8]
theorem r8_0 {v : Int} (h : to8 v = 0) : r8 v = 0 := by rw [r8, h]; rfl
theorem r8_n {v : Int} (h : to8 v ≠ 0) : r8 v ≠ 0 := by unfold r8; omega
theorem to8_zero : to8 0 = 0 := by decide
/-- what a pixel is rounded to -/
def rpC : List CT → List CT
  | [.v (.int _ r), .v (.int _ g), .v (.int _ b), .v (.int _ a)] => if to8 a = 0 then [.v (.int .i64 0), .v (.int .i64 0), .v (.int .i64 0), .v (.int .i64 0)] else [.v (.int .i64 (r8 r)), .v (.int .i64 (r8 g)), .v (.int .i64 (r8 b)), .v (.int .i64 (r8 a))]
  | c => c
theorem rpC_z {r g b a : Int} (h : to8 a = 0) : rpC [.v (.int .i64 r), .v (.int .i64 g), .v (.int .i64 b), .v (.int .i64 a)] = [.v (.int .i64 0), .v (.int .i64 0), .v (.int .i64 0), .v (.int .i64 0)] := by simp only [rpC]; exact if_pos h
theorem rpC_r {r g b a : Int} (h : ¬ to8 a = 0) : rpC [.v (.int .i64 r), .v (.int .i64 g), .v (.int .i64 b), .v (.int .i64 a)] = [.v (.int .i64 (r8 r)), .v (.int .i64 (r8 g)), .v (.int .i64 (r8 b)), .v (.int .i64 (r8 a))] := by simp only [rpC]; exact if_neg h
def PixL (c : List CT) : Prop := ∃ r g b a, c = [.v (.int .i64 r), .v (.int .i64 g), .v (.int .i64 b), .v (.int .i64 a)] ∧ (Lit.int .i64 r).wf = true ∧ (Lit.int .i64 g).wf = true ∧ (Lit.int .i64 b).wf = true ∧ (Lit.int .i64 a).wf = true
theorem pix_mk {A : Nat → Prop} {H : AH} {r g b a : Int} (hr : (Lit.int .i64 r).wf = true) (hg : (Lit.int .i64 g).wf = true) (hb : (Lit.int .i64 b).wf = true) (ha : (Lit.int .i64 a).wf = true) : CellsA A H k35 [.int .i64 r, .int .i64 g, .int .i64 b, .int .i64 a] [.v (.int .i64 r), .v (.int .i64 g), .v (.int .i64 b), .v (.int .i64 a)] := by
  simp only [k35, CellsA, CellA]
  exact ⟨⟨trivial, r, rfl, hr⟩, ⟨trivial, g, rfl, hg⟩, ⟨trivial, b, rfl, hb⟩, ⟨trivial, a, rfl, ha⟩, trivial⟩
theorem row_pix {A : Nat → Prop} {H : AH} {b : Nat} {l : List (List CT)} {a : Option Addr} {cap : Nat} (r : RowD A H b k35 l a cap) : ∀ c ∈ l, PixL c := by
  intro c hc
  obtain ⟨i, hi⟩ := List.getElem?_of_mem hc
  obtain ⟨p, xs, d, _, _, h1, _, h2⟩ := r.at' i (lt_of_getElem? hi)
  rw [hi] at h1; cases h1
  obtain ⟨r, g, b, a, _, e, q⟩ := pix4 h2
  exact ⟨r, g, b, a, e, q⟩
theorem rpC_pix {c : List CT} (h : PixL c) : PixL (rpC c) := by
  obtain ⟨r, g, b, a, rfl, _⟩ := h
  by_cases h8 : to8 a = 0
  · rw [rpC_z h8]; exact ⟨0, 0, 0, 0, rfl, wf0, wf0, wf0, wf0⟩
  · rw [rpC_r h8]; exact ⟨_, _, _, _, rfl, r8_wf _, r8_wf _, r8_wf _, r8_wf _⟩
theorem rpC_ok {c : List CT} (h : PixL c) : pixC (rpC c) = true := by
  obtain ⟨r, g, b, a, rfl, _⟩ := h
  by_cases h8 : to8 a = 0
  · rw [rpC_z h8]; decide
  · rw [rpC_r h8]; simp [pixC, pixOk, unit_r8]
theorem rpC_rpC {c : List CT} (h : PixL c) : rpC (rpC c) = rpC c := by
  obtain ⟨r, g, b, a, rfl, _⟩ := h
  by_cases h8 : to8 a = 0
  · rw [rpC_z h8, rpC_z to8_zero]
  · rw [rpC_r h8, rpC_r (by rw [to8_r8]; exact h8)]; simp only [r8_r8]
theorem map_twice {l : List (List CT)} (h : ∀ c ∈ l, PixL c) : (l.map rpC).map rpC = l.map rpC := by
  rw [List.map_map]
  exact List.map_congr_left fun c hc => rpC_rpC (h c hc)
theorem map_pix {l : List (List CT)} (h : ∀ c ∈ l, PixL c) : ∀ c ∈ l.map rpC, PixL c := fun c hc => by
  obtain ⟨d, hd, rfl⟩ := List.mem_map.1 hc
  exact rpC_pix (h d hd)
theorem imgE_len {w h : Int} {l : List (List CT)} (e : imgE w h l = 0) : sizeOk w h = true ∧ (l.length : Int) = w * h ∧ l.length ≤ 65536 := by
  unfold imgE at e
  split at e
  · rename_i q
    have := size_le q.1
    exact ⟨q.1, q.2, by omega⟩
  · cases e
theorem imgE_map {w h : Int} {l : List (List CT)} (e : imgE w h l = 0) (hl : ∀ c ∈ l, PixL c) : imgE w h (l.map rpC) = 0 := by
  obtain ⟨q1, q2, _⟩ := imgE_len e
  refine imgE_0 q1 (by rw [List.length_map]; exact q2) fun j d _ hd => ?_
  obtain ⟨c, hc, rfl⟩ := List.mem_map.1 (List.mem_of_getElem? hd)
  exact rpC_ok (hl c hc)
def mapD (d : Int) (l : List (List CT)) : List (List CT) := if d = 8 then l.map rpC else l
theorem mapD_8 (l : List (List CT)) : mapD 8 l = l.map rpC := if_pos rfl
theorem mapD_16 (l : List (List CT)) : mapD 16 l = l := if_neg (by decide)
/-- an image and an error -/
def RowT (w h e : Int) (l : List (List CT)) (u : Value) (H : AH) (A : Nat → Prop) : Prop := ∃ s, u = .tuple ⟨[.agg ⟨[.int .i64 w, .int .i64 h, s]⟩, .int .i64 e]⟩ ∧ CellA A H (.row 32 k35) s (.row l)
/-- the error of Round -/
def rE (w h d : Int) (l : List (List CT)) : Int := if imgE w h l = 0 then (if d = 8 ∨ d = 16 then 0 else 2) else imgE w h l
def RndT (w h d : Int) (l : List (List CT)) : Value → AH → (Nat → Prop) → Prop := RowT (if rE w h d l = 0 then w else 0) (if rE w h d l = 0 then h else 0) (rE w h d l) (if rE w h d l = 0 then mapD d l else [])
section
variable {w h d : Int} {l : List (List CT)}
theorem rE_err (he : imgE w h l ≠ 0) : rE w h d l = imgE w h l := if_neg he
theorem rE_dep (he : imgE w h l = 0) (h1 : d ≠ 8) (h2 : d ≠ 16) : rE w h d l = 2 := by rw [rE, if_pos he, if_neg (by omega)]
theorem rE_ok (he : imgE w h l = 0) (hd : d = 8 ∨ d = 16) : rE w h d l = 0 := by rw [rE, if_pos he, if_pos hd]
theorem RndT_err (he : imgE w h l ≠ 0) : RndT w h d l = RowT 0 0 (imgE w h l) [] := by rw [RndT, rE_err he, if_neg he, if_neg he, if_neg he]
theorem RndT_dep (he : imgE w h l = 0) (h1 : d ≠ 8) (h2 : d ≠ 16) : RndT w h d l = RowT 0 0 2 [] := by rw [RndT, rE_dep he h1 h2, if_neg (by decide), if_neg (by decide), if_neg (by decide)]
theorem RndT_ok (he : imgE w h l = 0) (hd : d = 8 ∨ d = 16) : RndT w h d l = RowT w h 0 (mapD d l) := by rw [RndT, rE_ok he hd, if_pos rfl, if_pos rfl, if_pos rfl]
variable {H : AH} {A : Nat → Prop} {s : Value}
theorem rndT_err (he : imgE w h l ≠ 0) : RndT w h d l (.tuple ⟨[.agg ⟨[.int .i64 0, .int .i64 0, .slice none 0 0]⟩, .int .i64 (imgE w h l)]⟩) H A := by rw [RndT_err he]; exact ⟨_, rfl, nil_row⟩
theorem rndT_dep (he : imgE w h l = 0) (h1 : d ≠ 8) (h2 : d ≠ 16) : RndT w h d l (.tuple ⟨[.agg ⟨[.int .i64 0, .int .i64 0, .slice none 0 0]⟩, .int .i64 2]⟩) H A := by rw [RndT_dep he h1 h2]; exact ⟨_, rfl, nil_row⟩
theorem rndT_ok (he : imgE w h l = 0) (hd : d = 8 ∨ d = 16) (hc : CellA A H (.row 32 k35) s (.row (mapD d l))) : RndT w h d l (.tuple ⟨[.agg ⟨[.int .i64 w, .int .i64 h, s]⟩, .int .i64 0]⟩) H A := by rw [RndT_ok he hd]; exact ⟨_, rfl, hc⟩
end
def RndR (w h d : Int) (l : List (List CT)) (A : Nat → Prop) (S : AH) (u : Value) (H' : AH) : Prop := Kept S.nx S H' ∧ RndT w h d l u H' fun j => A j ∨ (S.nx ≤ j ∧ j < H'.nx)
theorem hs_out {S H0 H : AH} {A0 A : Nat → Prop} {L : OL} (h : HS S H0 A0 A L H) : Gr A H0 (fun j => A0 j ∨ (S.nx ≤ j ∧ j < H.nx)) H := ⟨fun j hj => (h.sub j hj).imp id fun q => ⟨q, h.lt j hj⟩, h.base, h.w0.symm⟩
/-- an own row of pixels, handed back -/
theorem own_row {S H0 H : AH} {A0 A : Nat → Prop} {L : OL} (hH : HS S H0 A0 A L H) {M m : Nat} {cells : List Value} {ex : Bool} (hm : (M, AObj.cells cells 4 ex) ∈ L) {l' : List (List CT)} (e : m = l'.length) (hl : cells.length = l'.length * 4) (hc : ∀ (j : Nat) c, l'[j]? = some c → CellsA A H0 k35 ((cells.drop (j * 4)).take 4) c) (hb : l'.length ≤ 65536) :
    CellA (fun j => A0 j ∨ (S.nx ≤ j ∧ j < H.nx)) H (.row 32 k35) (.slice (some ⟨2 * M + 1, 0, none⟩) m m) (.row l') := by
  obtain ⟨q1, q2, q3, _⟩ := hH.own _ hm
  exact row_own q1 (.inr ⟨q2, q3⟩) rfl e (by rw [hl]; exact Nat.le_refl _) (fun i c hi => CellsA.gr (hs_out hH) _ _ _ (hc i c hi)) (by omega) (by omega) (by omega)
/-- a pixel put into a row -/
def putP (cs : List Value) (k : Nat) (vs : List Value) : List Value := cs.take (0 + k * 4) ++ (vs ++ cs.drop (0 + k * 4 + vs.length))
theorem putP_len {cs vs : List Value} {k n : Nat} (hl : cs.length = n * 4) (hv : vs.length = 4) (hk : k < n) : (putP cs k vs).length = n * 4 := by
  simp only [putP, List.length_append, List.length_take, List.length_drop, hv, hl]; omega
theorem putP_at {cs vs : List Value} {k n j : Nat} (hl : cs.length = n * 4) (hv : vs.length = 4) (hk : k < n) : ((putP cs k vs).drop (j * 4)).take 4 = if j = k then vs else (cs.drop (j * 4)).take 4 := by
  have h1 : (cs.take (0 + k * 4)).length = k * 4 := by rw [List.length_take]; omega
  apply List.ext_getElem?
  intro i
  rw [List.getElem?_take]
  by_cases hi : i < 4
  · rw [if_pos hi, List.getElem?_drop]
    by_cases e : j = k
    · subst e
      rw [if_pos rfl, putP, List.getElem?_append_right (by omega), h1, show j * 4 + i - j * 4 = i by omega, List.getElem?_append_left (by omega)]
    · rw [if_neg e, List.getElem?_take, if_pos hi, List.getElem?_drop, putP]
      rcases Nat.lt_or_ge j k with hj | hj
      · rw [List.getElem?_append_left (by omega), List.getElem?_take, if_pos (by omega)]
      · rw [List.getElem?_append_right (by omega), h1, List.getElem?_append_right (by omega), List.getElem?_drop, hv]
        congr 1; omega
  · rw [if_neg hi]
    symm
    by_cases e : j = k
    · rw [if_pos e]; exact List.getElem?_eq_none (by omega)
    · rw [if_neg e, List.getElem?_take, if_neg hi]
theorem putP_ok {A : Nat → Prop} {H : AH} {cs vs : List Value} {l : List (List CT)} {k : Nat} {c d : List CT} (hl : cs.length = l.length * 4) (hv : vs.length = 4) (hk : k < l.length) (hc : l[k]? = some c) (hr : rpC c = d) (hd : CellsA A H k35 vs d)
    (hg : ∀ (j : Nat) (c : List CT), l[j]? = some c → CellsA A H k35 ((cs.drop (j * 4)).take 4) (if j < k then rpC c else c)) : ∀ (j : Nat) (c : List CT), l[j]? = some c → CellsA A H k35 (((putP cs k vs).drop (j * 4)).take 4) (if j < k + 1 then rpC c else c) := by
  intro j c2 hj
  rw [putP_at hl hv hk]
  by_cases e : j = k
  · subst e
    rw [hc] at hj; cases hj
    rw [if_pos rfl, if_pos (Nat.lt_succ_self _), hr]; exact hd
  · have := hg j c2 hj
    rw [if_neg e]
    by_cases h1 : j < k
    · rw [if_pos h1] at this; rw [if_pos (by omega)]; exact this
    · rw [if_neg h1] at this; rw [if_neg (by omega)]; exact this
theorem map_done {A : Nat → Prop} {H : AH} {cs : List Value} {l : List (List CT)} {k : Nat} (hk : l.length ≤ k) (hg : ∀ (j : Nat) (c : List CT), l[j]? = some c → CellsA A H k35 ((cs.drop (j * 4)).take 4) (if j < k then rpC c else c)) : ∀ (j : Nat) (c : List CT), (mapD 8 l)[j]? = some c → CellsA A H k35 ((cs.drop (j * 4)).take 4) c := by
  intro j c hj
  rw [mapD_8, List.getElem?_map] at hj
  cases h : l[j]? with
  | none => rw [h] at hj; cases hj
  | some d =>
    rw [h] at hj
    simp at hj; subst hj
    have := hg j d h
    rwa [if_pos (by have := lt_of_getElem? h; omega)] at this
theorem mapD_len (d : Int) (l : List (List CT)) : (mapD d l).length = l.length := by unfold mapD; split <;> simp
set_option maxHeartbeats 2000000 in
theorem round_ok {S : AH} {A : Nat → Prop} (hA : ∀ j, A j → j < S.nx) {w h : Int} {x : Value} {l : List (List CT)} (hx : CellA A S (.row 32 k35) x (.row l)) {d : Int} : XCall Tryz.prog 9 [.agg ⟨[.int .i64 w, .int .i64 h, x]⟩, .int .i64 d] S (RndR w h d l A S) := by
  have hx0 := hx
  obtain ⟨l2, ax, cx, e2, rfl, rx⟩ := hx.rowD
  cases e2
  have hb := rx.len
  refine x_enter (E := E) (n := 70) (rs := [.cell 4 27, .tmp 5]) (l := [(1, _), (0, _)]) (fn_own Tryz.func9 rfl rfl rfl) hA rfl ?_
  refine sx_seq ?_
  refine sx_region (E := E) ?_
  refine so_boxA rfl rfl (fun h => nomatch h) rfl ?_
  intro N2
  refine so_alloc (cs := (.int .i64 0 :: .int .i64 0 :: .slice none 0 0 :: [])) rfl rfl (fun h => nomatch h) inf27 rfl rfl ?_
  intro N4
  refine so_assign rfl rfl rfl ?_
  refine so_then ?_
  refine sx_seq ?_
  refine sx_seq ?_
  refine sx_region (E := E) ?_
  refine so_load rfl rfl rfl (by first | exact ld_ownA Tryz.underlying27 rfl inf27 rfl (by repeat (first | exact List.Mem.head _ | apply List.Mem.tail)) (by first | exact cellsOf_le rfl | exact Nat.le_of_ble_eq_true rfl | decide | omega) (by first | exact cellsOf_all | exact take_all rfl | exact cellsOf_part rfl | rfl) | exact ld_dataA Tryz.underlying27 rfl inf27 rfl (by first | assumption | exact InA.add (by assumption) | exact InA.add (InA.add (by assumption))) (by assumption)) ?_
  refine so_call rfl rfl (fun h => nomatch h) rfl has20 (by repeat (first | exact Opvs.nil | apply Opvs.cons rfl)) (fun H hH => check_ok hH.lt (CellA.gr hH.gr _ _ _ hx0)) ?_
  refine so_assign rfl rfl rfl ?_
  refine so_then ?_
  refine sx_seq ?_
  by_cases he : imgE w h l = 0
  · skip
    refine sx_region (E := E) ?_
    refine so_move rfl rfl rfl ?_
    refine so_bin rfl rfl rfl rfl (by first | exact bin_neq_f (by first | rfl | assumption | omega) | exact bin_neq_t (by first | rfl | assumption | omega)) ?_
    refine so_then ?_
    refine sx_false rfl ?_
    refine sx_skip ?_
    refine sk_then ?_
    refine sx_seq ?_
    refine sx_seq ?_
    rcases (show d = 8 ∨ d = 16 ∨ (d ≠ 8 ∧ d ≠ 16) by omega) with rfl | rfl | ⟨h8, h16⟩
    · skip
      refine sx_region (E := E) ?_
      refine so_move rfl rfl rfl ?_
      refine so_bin rfl rfl rfl rfl (by first | exact bin_neq_f (by first | rfl | assumption | omega) | exact bin_neq_t (by first | rfl | assumption | omega)) ?_
      refine so_move rfl rfl rfl ?_
      first | refine so_move rfl rfl rfl ?_ | refine so_skip rfl rfl rfl ?_
      first | refine so_bin rfl rfl rfl rfl (by first | exact bin_neq_f (by first | rfl | assumption | omega) | exact bin_neq_t (by first | rfl | assumption | omega)) ?_ | refine so_skip rfl rfl rfl ?_
      first | refine so_pick_t rfl rfl rfl rfl ?_ | refine so_pick_f rfl rfl rfl rfl ?_
      refine so_then ?_
      refine sx_false rfl ?_
      refine sx_skip ?_
      refine sk_then ?_
      refine sx_seq ?_
      refine sx_region (E := E) ?_
      refine so_fieldO (o' := 2) rfl rfl rfl Tryz.underlying27 rfl inf25 rfl rfl ?_
      refine so_load rfl rfl rfl (by first | exact ld_own Tryz.underlying25 rfl (by repeat (first | exact List.Mem.head _ | apply List.Mem.tail)) (by first | exact cellsOf_get rfl | rfl) | exact ld_data Tryz.underlying25 rfl (by first | assumption | exact InA.add (by assumption) | exact InA.add (InA.add (by assumption))) (by assumption)) ?_
      refine so_callL (fun u H' A1 L1 => ORow k35 A1 H' l u L1) rfl rfl (fun h => nomatch h) rfl has21 (by repeat (first | exact Opvs.nil | apply Opvs.cons rfl)) (fun H hH => (clone21_ok hH.lt (CellA.gr hH.gr _ _ _ hx0)).mono fun u H2 hw h => clone_own hH.lt hw h) ?_
      intro u4 H4 A4 L4 g4 hd4
      rcases hd4 with ⟨rfl, rfl, rfl⟩ | ⟨M, cells, ex, rfl, rfl, hcl, hone, hce⟩
      · skip
        refine so_fieldO (o' := 2) rfl rfl rfl Tryz.underlying27 rfl inf25 rfl rfl ?_
        refine so_storeS rfl (fun h => nomatch h) rfl rfl inf25 rfl rfl (by repeat (first | exact .zero | apply Upd.succ)) (by first | exact cellsOf_set rfl | exact cellsOf_setr rfl | exact cellsOf_store rfl | exact store_all rfl | rfl) (by first | exact cellsOf_in rfl rfl | exact cellsOf_in rfl (cellsOf_length _ _) | exact cellsOf_le rfl | exact Nat.le_of_ble_eq_true rfl | omega) (fun h => nomatch h) ?_
        refine so_then ?_
        refine sx_seq ?_
        refine sx_seq ?_
        refine sx_region (E := E) ?_
        refine so_move rfl rfl rfl ?_
        refine so_bin rfl rfl rfl rfl (by first | exact bin_eql_t (by first | rfl | assumption | omega) | exact bin_eql_f (by first | rfl | assumption | omega)) ?_
        refine so_then ?_
        refine sx_false rfl ?_
        refine sx_skip ?_
        refine sk_then ?_
        refine sx_seq ?_
        refine sx_region (E := E) ?_
        refine so_assign rfl rfl rfl ?_
        refine so_then ?_
        refine sx_seq ?_
        refine sx_seq ?_
        refine sx_region (E := E) ?_
        refine so_fieldO (o' := 2) rfl rfl rfl Tryz.underlying27 rfl inf25 rfl rfl ?_
        refine so_load rfl rfl rfl (by first | exact ld_own Tryz.underlying25 rfl (by repeat (first | exact List.Mem.head _ | apply List.Mem.tail)) (by first | exact cellsOf_get rfl | rfl) | exact ld_data Tryz.underlying25 rfl (by first | assumption | exact InA.add (by assumption) | exact InA.add (InA.add (by assumption))) (by assumption)) ?_
        refine so_lenL rfl rfl rfl rfl rfl rfl Tryz.underlying25 ?_
        refine so_move rfl rfl rfl ?_
        refine so_then ?_
        refine sx_block ?_
        refine sx_loop (σ := Unit) (fun _ => 0) (fun _ => [(2, .pointer (some ⟨2 * N2 + 1, 0, none⟩)), (4, .pointer (some ⟨2 * N4 + 1, 0, none⟩)), (32, .int .i64 ((0 : Nat) : Int)), (33, .int .i64 0)]) (fun _ => H4) (fun _ => A4) (fun _ => [(N4, .cells [.int .i64 0, .int .i64 0, .slice none 0 0] (boxsz E 27) true), (N2, .cells [.int .i64 w, .int .i64 h, .slice none 0 0] (boxsz E 27) true)]) (fun _ => True) (()) (trivial) (by repeat (first | exact .nil | refine .cons rfl ?_)) rfl rfl (by repeat (first | exact List.nil_sublist _ | apply List.Sublist.cons_cons | apply List.Sublist.cons)) ?_
        intro s hJ t1
        refine sx_seq ?_
        refine sx_region (E := E) ?_
        refine so_bin rfl rfl rfl rfl (by first | exact bin_lss_t (by omega) | exact bin_lss_f (by omega)) ?_
        refine so_then ?_
        refine sx_seq ?_
        refine sx_false rfl ?_
        refine sx_exit ?_
        refine sk_then_exit ?_
        refine sk_loop_exit ?_
        refine sk_block_exit ?_
        refine sk_then ?_
        refine sx_seq ?_
        refine sx_region (E := E) ?_
        refine so_load rfl rfl rfl (by first | exact ld_ownA Tryz.underlying27 rfl inf27 rfl (by repeat (first | exact List.Mem.head _ | apply List.Mem.tail)) (by first | exact cellsOf_le rfl | exact Nat.le_of_ble_eq_true rfl | decide | omega) (by first | exact cellsOf_all | exact take_all rfl | exact cellsOf_part rfl | rfl) | exact ld_dataA Tryz.underlying27 rfl inf27 rfl (by first | assumption | exact InA.add (by assumption) | exact InA.add (InA.add (by assumption))) (by assumption)) ?_
        refine so_storeA rfl (fun h => nomatch h) rfl rfl inf27 (by first | exact cellsOf_length _ _ | rfl) rfl (by repeat (first | exact .zero | apply Upd.succ)) (by first | exact cellsOf_set rfl | exact cellsOf_setr rfl | exact cellsOf_store rfl | exact store_all rfl | rfl) (by first | exact cellsOf_in rfl rfl | exact cellsOf_in rfl (cellsOf_length _ _) | exact cellsOf_le rfl | exact Nat.le_of_ble_eq_true rfl | omega) (fun h => nomatch h) ?_
        refine so_assign rfl rfl rfl ?_
        refine so_then ?_
        refine sx_ret ?_
        refine sk_return2 (.cell rfl (by first | exact ld_ownA Tryz.underlying27 rfl inf27 rfl (by repeat (first | exact List.Mem.head _ | apply List.Mem.tail)) (by first | exact cellsOf_le rfl | exact Nat.le_of_ble_eq_true rfl | decide | omega) (by first | exact cellsOf_all | exact take_all rfl | exact cellsOf_part rfl | rfl) | exact ld_dataA Tryz.underlying27 rfl inf27 rfl (by first | assumption | exact InA.add (by assumption) | exact InA.add (InA.add (by assumption))) (by assumption)) (.tmp rfl .nil)) ?_
        exact fun H hH => ⟨hH.kept, rndT_ok he (by decide) nil_row⟩
      · skip
        refine so_fieldO (o' := 2) rfl rfl rfl Tryz.underlying27 rfl inf25 rfl rfl ?_
        refine so_storeS rfl (fun h => nomatch h) rfl rfl inf25 rfl rfl (by repeat (first | exact .zero | apply Upd.succ)) (by first | exact cellsOf_set rfl | exact cellsOf_setr rfl | exact cellsOf_store rfl | exact store_all rfl | rfl) (by first | exact cellsOf_in rfl rfl | exact cellsOf_in rfl (cellsOf_length _ _) | exact cellsOf_le rfl | exact Nat.le_of_ble_eq_true rfl | omega) (fun h => nomatch h) ?_
        refine so_then ?_
        refine sx_seq ?_
        refine sx_seq ?_
        refine sx_region (E := E) ?_
        refine so_move rfl rfl rfl ?_
        refine so_bin rfl rfl rfl rfl (by first | exact bin_eql_t (by first | rfl | assumption | omega) | exact bin_eql_f (by first | rfl | assumption | omega)) ?_
        refine so_then ?_
        refine sx_false rfl ?_
        refine sx_skip ?_
        refine sk_then ?_
        refine sx_seq ?_
        refine sx_region (E := E) ?_
        refine so_assign rfl rfl rfl ?_
        refine so_then ?_
        refine sx_seq ?_
        refine sx_seq ?_
        refine sx_region (E := E) ?_
        refine so_fieldO (o' := 2) rfl rfl rfl Tryz.underlying27 rfl inf25 rfl rfl ?_
        refine so_load rfl rfl rfl (by first | exact ld_own Tryz.underlying25 rfl (by repeat (first | exact List.Mem.head _ | apply List.Mem.tail)) (by first | exact cellsOf_get rfl | rfl) | exact ld_data Tryz.underlying25 rfl (by first | assumption | exact InA.add (by assumption) | exact InA.add (InA.add (by assumption))) (by assumption)) ?_
        refine so_lenL rfl rfl rfl rfl rfl rfl Tryz.underlying25 ?_
        refine so_move rfl rfl rfl ?_
        refine so_then ?_
        refine sx_block ?_
        refine sx_loop (σ := Nat × List Value) (fun q => l.length - q.1) (fun q => [(2, .pointer (some ⟨2 * N2 + 1, 0, none⟩)), (4, .pointer (some ⟨2 * N4 + 1, 0, none⟩)), (7, .func (.func 22) ⟨[]⟩ ⟨[]⟩), (31, .slice (some ⟨2 * M + 1, 0, none⟩) l.length l.length), (32, .int .i64 ((l.length : Nat) : Int)), (33, .int .i64 ((q.1 : Nat) : Int))]) (fun _ => H4) (fun _ => A4) (fun q => [(M, .cells q.2 4 ex), (N4, .cells [.int .i64 0, .int .i64 0, .slice none 0 0] (boxsz E 27) true), (N2, .cells [.int .i64 w, .int .i64 h, .slice (some ⟨2 * M + 1, 0, none⟩) l.length l.length] (boxsz E 27) true)]) (fun q => q.1 ≤ l.length ∧ q.2.length = l.length * 4 ∧ (∀ (j : Nat) (c : List CT), l[j]? = some c → CellsA A4 H4 k35 ((q.2.drop (j * 4)).take 4) (if j < q.1 then rpC c else c))) ((0, cells)) (⟨Nat.zero_le _, hcl, fun j c hc => by rw [if_neg (Nat.not_lt_zero _)]; exact hce j c hc⟩) (by repeat (first | exact .nil | refine .cons rfl ?_)) rfl rfl (by repeat (first | exact List.nil_sublist _ | apply List.Sublist.cons_cons | apply List.Sublist.cons)) ?_
        intro s hJ t1
        obtain ⟨k, cs⟩ := s
        obtain ⟨hJ, hln, hg⟩ := hJ
        dsimp only at hJ hln hg ⊢
        refine sx_seq ?_
        rcases Nat.lt_or_ge k l.length with hk | hk
        · skip
          obtain ⟨c, hc⟩ : ∃ c, l[k]? = some c := ⟨_, List.getElem?_eq_getElem hk⟩
          have kx := hg k c hc
          rw [if_neg (Nat.lt_irrefl _)] at kx
          obtain ⟨r, g, b, a, ex4, rfl, _, _, _, _⟩ := pix4 kx
          refine sx_region (E := E) ?_
          refine so_bin rfl rfl rfl rfl (by first | exact bin_lss_t (by omega) | exact bin_lss_f (by omega)) ?_
          refine so_then ?_
          refine sx_seq ?_
          refine sx_true rfl ?_
          refine sx_skip ?_
          refine sk_then ?_
          refine sx_seq ?_
          refine sx_block ?_
          refine sx_seq ?_
          refine sx_region (E := E) ?_
          refine so_move rfl rfl rfl ?_
          first | refine so_indexO rfl rfl rfl rfl Tryz.underlying25 inf35 rfl (by omega) rfl ?_ | refine so_index rfl rfl rfl rfl Tryz.underlying25 inf35 rfl (by omega) ?_
          refine so_load rfl rfl rfl (by first | exact ld_ownA Tryz.underlying35 rfl inf35 rfl (by repeat (first | exact List.Mem.head _ | apply List.Mem.tail)) (by show 0 + k * 4 + 4 ≤ cs.length; omega) ((congrArg (fun j => (cs.drop j).take 4) (Nat.zero_add (k * 4))).trans ex4) | exact ld_ownA Tryz.underlying35 rfl inf35 rfl (by repeat (first | exact List.Mem.head _ | apply List.Mem.tail)) (by first | exact cellsOf_le rfl | exact Nat.le_of_ble_eq_true rfl | decide | omega) (by first | exact cellsOf_all | exact take_all rfl | exact cellsOf_part rfl | rfl) | exact ld_dataA Tryz.underlying35 rfl inf35 rfl (by first | assumption | exact InA.add (by assumption) | exact InA.add (InA.add (by assumption))) (by assumption)) ?_
          refine so_alloc (cs := (.int .i64 0 :: .int .i64 0 :: .int .i64 0 :: .int .i64 0 :: [])) rfl rfl (fun h => nomatch h) inf35 rfl rfl ?_
          intro N9
          refine so_assign rfl rfl rfl ?_
          refine so_storeA rfl (fun h => nomatch h) rfl rfl inf35 (by first | exact cellsOf_length _ _ | rfl) rfl (by repeat (first | exact .zero | apply Upd.succ)) (by first | exact cellsOf_set rfl | exact cellsOf_setr rfl | exact cellsOf_store rfl | exact store_all rfl | rfl) (by first | exact cellsOf_in rfl rfl | exact cellsOf_in rfl (cellsOf_length _ _) | exact cellsOf_le rfl | exact Nat.le_of_ble_eq_true rfl | omega) (fun h => nomatch h) ?_
          refine so_then ?_
          refine sx_seq ?_
          refine sx_seq ?_
          by_cases h8 : to8 a = 0
          · skip
            refine sx_region (E := E) ?_
            refine so_fieldO (o' := 3) rfl rfl rfl Tryz.underlying35 rfl inf3 rfl rfl ?_
            refine so_load rfl rfl rfl (by first | exact ld_own Tryz.underlying3 rfl (by repeat (first | exact List.Mem.head _ | apply List.Mem.tail)) (by first | exact cellsOf_get rfl | rfl) | exact ld_data Tryz.underlying3 rfl (by first | assumption | exact InA.add (by assumption) | exact InA.add (InA.add (by assumption))) (by assumption)) ?_
            refine so_call rfl rfl (fun h => nomatch h) rfl has24 (by repeat (first | exact Opvs.nil | apply Opvs.cons rfl)) (fun H hH => to8_ok a) ?_
            refine so_bin rfl rfl rfl rfl (by first | exact bin_eql_t (by first | rfl | assumption | omega) | exact bin_eql_f (by first | rfl | assumption | omega)) ?_
            refine so_then ?_
            refine sx_true rfl ?_
            refine sx_seq ?_
            refine sx_region (E := E) ?_
            refine so_fieldO (o' := 2) rfl rfl rfl Tryz.underlying27 rfl inf25 rfl rfl ?_
            refine so_load rfl rfl rfl (by first | exact ld_own Tryz.underlying25 rfl (by repeat (first | exact List.Mem.head _ | apply List.Mem.tail)) (by first | exact cellsOf_get rfl | rfl) | exact ld_data Tryz.underlying25 rfl (by first | assumption | exact InA.add (by assumption) | exact InA.add (InA.add (by assumption))) (by assumption)) ?_
            refine so_move rfl rfl rfl ?_
            refine so_build rfl rfl (by repeat (first | exact Opps.nil | apply Opps.cons rfl)) (by rfl) ?_
            first | refine so_indexO rfl rfl rfl rfl Tryz.underlying25 inf35 rfl (by omega) rfl ?_ | refine so_index rfl rfl rfl rfl Tryz.underlying25 inf35 rfl (by omega) ?_
            refine so_storeA rfl (fun h => nomatch h) rfl rfl inf35 rfl rfl (by repeat (first | exact .zero | apply Upd.succ)) rfl (by show 0 + k * 4 + 4 ≤ cs.length; omega) (fun h => nomatch h) ?_
            refine so_then ?_
            refine sx_exit ?_
            refine sk_then_exit ?_
            refine sk_block_exit ?_
            refine sk_then ?_
            refine sx_region (E := E) ?_
            refine so_bin rfl rfl rfl rfl (by first | exact bin_incr (by omega) | exact bin_add (wrap64 (by omega) (by omega)) | exact bin_add rfl) ?_
            refine so_move rfl rfl rfl ?_
            refine so_nil ?_
            exact sk_round (k + 1, putP cs k [.int .i64 0, .int .i64 0, .int .i64 0, .int .i64 0]) (show l.length - (k + 1) < l.length - k by omega) ⟨show k + 1 ≤ l.length by omega, putP_len hln rfl hk, putP_ok hln rfl hk hc (rpC_z h8) (pix_mk wf0 wf0 wf0 wf0) hg⟩ (by repeat (first | exact .nil | refine .cons rfl ?_)) rfl rfl (by repeat (first | exact List.nil_sublist _ | apply List.Sublist.cons_cons | apply List.Sublist.cons))
          · skip
            refine sx_region (E := E) ?_
            refine so_fieldO (o' := 3) rfl rfl rfl Tryz.underlying35 rfl inf3 rfl rfl ?_
            refine so_load rfl rfl rfl (by first | exact ld_own Tryz.underlying3 rfl (by repeat (first | exact List.Mem.head _ | apply List.Mem.tail)) (by first | exact cellsOf_get rfl | rfl) | exact ld_data Tryz.underlying3 rfl (by first | assumption | exact InA.add (by assumption) | exact InA.add (InA.add (by assumption))) (by assumption)) ?_
            refine so_call rfl rfl (fun h => nomatch h) rfl has24 (by repeat (first | exact Opvs.nil | apply Opvs.cons rfl)) (fun H hH => to8_ok a) ?_
            refine so_bin rfl rfl rfl rfl (by first | exact bin_eql_t (by first | rfl | assumption | omega) | exact bin_eql_f (by first | rfl | assumption | omega)) ?_
            refine so_then ?_
            refine sx_false rfl ?_
            refine sx_skip ?_
            refine sk_then ?_
            refine sx_drawZ (E := E) mixed [6, 10, 14, 18] _ (List.Sublist.refl _) (by kernel_rfl) (by kernel_rfl) (by decide) 21 _ rfl rfl rfl (by kernel_rfl) ?_
            refine so_fieldO (o' := 2) rfl rfl rfl Tryz.underlying27 rfl inf25 rfl rfl ?_
            refine so_load rfl rfl rfl (by first | exact ld_own Tryz.underlying25 rfl (by repeat (first | exact List.Mem.head _ | apply List.Mem.tail)) (by first | exact cellsOf_get rfl | rfl) | exact ld_data Tryz.underlying25 rfl (by first | assumption | exact InA.add (by assumption) | exact InA.add (InA.add (by assumption))) (by assumption)) ?_
            refine so_move rfl rfl rfl ?_
            refine so_move rfl rfl rfl ?_
            refine so_fieldO (o' := 0) rfl rfl rfl Tryz.underlying35 rfl inf3 rfl rfl ?_
            refine so_load rfl rfl rfl (by first | exact ld_own Tryz.underlying3 rfl (by repeat (first | exact List.Mem.head _ | apply List.Mem.tail)) (by first | exact cellsOf_get rfl | rfl) | exact ld_data Tryz.underlying3 rfl (by first | assumption | exact InA.add (by assumption) | exact InA.add (InA.add (by assumption))) (by assumption)) ?_
            refine so_callV rfl rfl (fun _ => (by repeat (first | exact List.Mem.head _ | apply List.Mem.tail))) rfl rfl has22 (by repeat (first | exact Opvs.nil | apply Opvs.cons rfl)) rfl (fun H hH => r8_ok r) ?_
            refine so_move rfl rfl rfl ?_
            refine so_fieldO (o' := 1) rfl rfl rfl Tryz.underlying35 rfl inf3 rfl rfl ?_
            refine so_load rfl rfl rfl (by first | exact ld_own Tryz.underlying3 rfl (by repeat (first | exact List.Mem.head _ | apply List.Mem.tail)) (by first | exact cellsOf_get rfl | rfl) | exact ld_data Tryz.underlying3 rfl (by first | assumption | exact InA.add (by assumption) | exact InA.add (InA.add (by assumption))) (by assumption)) ?_
            refine so_callV rfl rfl (fun _ => (by repeat (first | exact List.Mem.head _ | apply List.Mem.tail))) rfl rfl has22 (by repeat (first | exact Opvs.nil | apply Opvs.cons rfl)) rfl (fun H hH => r8_ok g) ?_
            refine so_move rfl rfl rfl ?_
            refine so_fieldO (o' := 2) rfl rfl rfl Tryz.underlying35 rfl inf3 rfl rfl ?_
            refine so_load rfl rfl rfl (by first | exact ld_own Tryz.underlying3 rfl (by repeat (first | exact List.Mem.head _ | apply List.Mem.tail)) (by first | exact cellsOf_get rfl | rfl) | exact ld_data Tryz.underlying3 rfl (by first | assumption | exact InA.add (by assumption) | exact InA.add (InA.add (by assumption))) (by assumption)) ?_
            refine so_callV rfl rfl (fun _ => (by repeat (first | exact List.Mem.head _ | apply List.Mem.tail))) rfl rfl has22 (by repeat (first | exact Opvs.nil | apply Opvs.cons rfl)) rfl (fun H hH => r8_ok b) ?_
            refine so_move rfl rfl rfl ?_
            refine so_fieldO (o' := 3) rfl rfl rfl Tryz.underlying35 rfl inf3 rfl rfl ?_
            refine so_load rfl rfl rfl (by first | exact ld_own Tryz.underlying3 rfl (by repeat (first | exact List.Mem.head _ | apply List.Mem.tail)) (by first | exact cellsOf_get rfl | rfl) | exact ld_data Tryz.underlying3 rfl (by first | assumption | exact InA.add (by assumption) | exact InA.add (InA.add (by assumption))) (by assumption)) ?_
            refine so_callV rfl rfl (fun _ => (by repeat (first | exact List.Mem.head _ | apply List.Mem.tail))) rfl rfl has22 (by repeat (first | exact Opvs.nil | apply Opvs.cons rfl)) rfl (fun H hH => r8_ok a) ?_
            refine so_build rfl rfl (by repeat (first | exact Opps.nil | apply Opps.cons rfl)) (by rfl) ?_
            first | refine so_indexO rfl rfl rfl rfl Tryz.underlying25 inf35 rfl (by omega) rfl ?_ | refine so_index rfl rfl rfl rfl Tryz.underlying25 inf35 rfl (by omega) ?_
            refine so_turn ?_
            refine so_storeA rfl (fun h => nomatch h) rfl rfl inf35 rfl rfl (by repeat (first | exact .zero | apply Upd.succ)) rfl (by show 0 + k * 4 + 4 ≤ cs.length; omega) (fun h => nomatch h) ?_
            refine so_nil ?_
            refine sk_block ?_
            refine sk_then ?_
            refine sx_region (E := E) ?_
            refine so_bin rfl rfl rfl rfl (by first | exact bin_incr (by omega) | exact bin_add (wrap64 (by omega) (by omega)) | exact bin_add rfl) ?_
            refine so_move rfl rfl rfl ?_
            refine so_nil ?_
            exact sk_round (k + 1, putP cs k [.int .i64 (r8 r), .int .i64 (r8 g), .int .i64 (r8 b), .int .i64 (r8 a)]) (show l.length - (k + 1) < l.length - k by omega) ⟨show k + 1 ≤ l.length by omega, putP_len hln rfl hk, putP_ok hln rfl hk hc (rpC_r h8) (pix_mk (r8_wf _) (r8_wf _) (r8_wf _) (r8_wf _)) hg⟩ (by repeat (first | exact .nil | refine .cons rfl ?_)) rfl rfl (by repeat (first | exact List.nil_sublist _ | apply List.Sublist.cons_cons | apply List.Sublist.cons))
        · skip
          refine sx_region (E := E) ?_
          refine so_bin rfl rfl rfl rfl (by first | exact bin_lss_t (by omega) | exact bin_lss_f (by omega)) ?_
          refine so_then ?_
          refine sx_seq ?_
          refine sx_false rfl ?_
          refine sx_exit ?_
          refine sk_then_exit ?_
          refine sk_loop_exit ?_
          refine sk_block_exit ?_
          refine sk_then ?_
          refine sx_seq ?_
          refine sx_region (E := E) ?_
          refine so_load rfl rfl rfl (by first | exact ld_ownA Tryz.underlying27 rfl inf27 rfl (by repeat (first | exact List.Mem.head _ | apply List.Mem.tail)) (by first | exact cellsOf_le rfl | exact Nat.le_of_ble_eq_true rfl | decide | omega) (by first | exact cellsOf_all | exact take_all rfl | exact cellsOf_part rfl | rfl) | exact ld_dataA Tryz.underlying27 rfl inf27 rfl (by first | assumption | exact InA.add (by assumption) | exact InA.add (InA.add (by assumption))) (by assumption)) ?_
          refine so_storeA rfl (fun h => nomatch h) rfl rfl inf27 (by first | exact cellsOf_length _ _ | rfl) rfl (by repeat (first | exact .zero | apply Upd.succ)) (by first | exact cellsOf_set rfl | exact cellsOf_setr rfl | exact cellsOf_store rfl | exact store_all rfl | rfl) (by first | exact cellsOf_in rfl rfl | exact cellsOf_in rfl (cellsOf_length _ _) | exact cellsOf_le rfl | exact Nat.le_of_ble_eq_true rfl | omega) (fun h => nomatch h) ?_
          refine so_assign rfl rfl rfl ?_
          refine so_then ?_
          refine sx_ret ?_
          refine sk_return2 (.cell rfl (by first | exact ld_ownA Tryz.underlying27 rfl inf27 rfl (by repeat (first | exact List.Mem.head _ | apply List.Mem.tail)) (by first | exact cellsOf_le rfl | exact Nat.le_of_ble_eq_true rfl | decide | omega) (by first | exact cellsOf_all | exact take_all rfl | exact cellsOf_part rfl | rfl) | exact ld_dataA Tryz.underlying27 rfl inf27 rfl (by first | assumption | exact InA.add (by assumption) | exact InA.add (InA.add (by assumption))) (by assumption)) (.tmp rfl .nil)) ?_
          exact fun H hH => ⟨hH.kept, rndT_ok he (by decide) (own_row hH (by repeat (first | exact List.Mem.head _ | apply List.Mem.tail)) (mapD_len _ _).symm (by rw [mapD_len]; exact hln) (map_done hk hg) (by rw [mapD_len]; exact (imgE_len he).2.2))⟩
    · skip
      refine sx_region (E := E) ?_
      refine so_move rfl rfl rfl ?_
      refine so_bin rfl rfl rfl rfl (by first | exact bin_neq_f (by first | rfl | assumption | omega) | exact bin_neq_t (by first | rfl | assumption | omega)) ?_
      refine so_move rfl rfl rfl ?_
      first | refine so_move rfl rfl rfl ?_ | refine so_skip rfl rfl rfl ?_
      first | refine so_bin rfl rfl rfl rfl (by first | exact bin_neq_f (by first | rfl | assumption | omega) | exact bin_neq_t (by first | rfl | assumption | omega)) ?_ | refine so_skip rfl rfl rfl ?_
      first | refine so_pick_t rfl rfl rfl rfl ?_ | refine so_pick_f rfl rfl rfl rfl ?_
      refine so_then ?_
      refine sx_false rfl ?_
      refine sx_skip ?_
      refine sk_then ?_
      refine sx_seq ?_
      refine sx_region (E := E) ?_
      refine so_fieldO (o' := 2) rfl rfl rfl Tryz.underlying27 rfl inf25 rfl rfl ?_
      refine so_load rfl rfl rfl (by first | exact ld_own Tryz.underlying25 rfl (by repeat (first | exact List.Mem.head _ | apply List.Mem.tail)) (by first | exact cellsOf_get rfl | rfl) | exact ld_data Tryz.underlying25 rfl (by first | assumption | exact InA.add (by assumption) | exact InA.add (InA.add (by assumption))) (by assumption)) ?_
      refine so_callL (fun u H' A1 L1 => ORow k35 A1 H' l u L1) rfl rfl (fun h => nomatch h) rfl has21 (by repeat (first | exact Opvs.nil | apply Opvs.cons rfl)) (fun H hH => (clone21_ok hH.lt (CellA.gr hH.gr _ _ _ hx0)).mono fun u H2 hw h => clone_own hH.lt hw h) ?_
      intro u4 H4 A4 L4 g4 hd4
      rcases hd4 with ⟨rfl, rfl, rfl⟩ | ⟨M, cells, ex, rfl, rfl, hcl, hone, hce⟩
      · skip
        refine so_fieldO (o' := 2) rfl rfl rfl Tryz.underlying27 rfl inf25 rfl rfl ?_
        refine so_storeS rfl (fun h => nomatch h) rfl rfl inf25 rfl rfl (by repeat (first | exact .zero | apply Upd.succ)) (by first | exact cellsOf_set rfl | exact cellsOf_setr rfl | exact cellsOf_store rfl | exact store_all rfl | rfl) (by first | exact cellsOf_in rfl rfl | exact cellsOf_in rfl (cellsOf_length _ _) | exact cellsOf_le rfl | exact Nat.le_of_ble_eq_true rfl | omega) (fun h => nomatch h) ?_
        refine so_then ?_
        refine sx_seq ?_
        refine sx_seq ?_
        refine sx_region (E := E) ?_
        refine so_move rfl rfl rfl ?_
        refine so_bin rfl rfl rfl rfl (by first | exact bin_eql_t (by first | rfl | assumption | omega) | exact bin_eql_f (by first | rfl | assumption | omega)) ?_
        refine so_then ?_
        refine sx_true rfl ?_
        refine sx_seq ?_
        refine sx_region (E := E) ?_
        refine so_load rfl rfl rfl (by first | exact ld_ownA Tryz.underlying27 rfl inf27 rfl (by repeat (first | exact List.Mem.head _ | apply List.Mem.tail)) (by first | exact cellsOf_le rfl | exact Nat.le_of_ble_eq_true rfl | decide | omega) (by first | exact cellsOf_all | exact take_all rfl | exact cellsOf_part rfl | rfl) | exact ld_dataA Tryz.underlying27 rfl inf27 rfl (by first | assumption | exact InA.add (by assumption) | exact InA.add (InA.add (by assumption))) (by assumption)) ?_
        refine so_storeA rfl (fun h => nomatch h) rfl rfl inf27 (by first | exact cellsOf_length _ _ | rfl) rfl (by repeat (first | exact .zero | apply Upd.succ)) (by first | exact cellsOf_set rfl | exact cellsOf_setr rfl | exact cellsOf_store rfl | exact store_all rfl | rfl) (by first | exact cellsOf_in rfl rfl | exact cellsOf_in rfl (cellsOf_length _ _) | exact cellsOf_le rfl | exact Nat.le_of_ble_eq_true rfl | omega) (fun h => nomatch h) ?_
        refine so_assign rfl rfl rfl ?_
        refine so_then ?_
        refine sx_ret ?_
        refine sk_then_ret ?_
        refine sk_return2 (.cell rfl (by first | exact ld_ownA Tryz.underlying27 rfl inf27 rfl (by repeat (first | exact List.Mem.head _ | apply List.Mem.tail)) (by first | exact cellsOf_le rfl | exact Nat.le_of_ble_eq_true rfl | decide | omega) (by first | exact cellsOf_all | exact take_all rfl | exact cellsOf_part rfl | rfl) | exact ld_dataA Tryz.underlying27 rfl inf27 rfl (by first | assumption | exact InA.add (by assumption) | exact InA.add (InA.add (by assumption))) (by assumption)) (.tmp rfl .nil)) ?_
        exact fun H hH => ⟨hH.kept, rndT_ok he (by decide) nil_row⟩
      · skip
        refine so_fieldO (o' := 2) rfl rfl rfl Tryz.underlying27 rfl inf25 rfl rfl ?_
        refine so_storeS rfl (fun h => nomatch h) rfl rfl inf25 rfl rfl (by repeat (first | exact .zero | apply Upd.succ)) (by first | exact cellsOf_set rfl | exact cellsOf_setr rfl | exact cellsOf_store rfl | exact store_all rfl | rfl) (by first | exact cellsOf_in rfl rfl | exact cellsOf_in rfl (cellsOf_length _ _) | exact cellsOf_le rfl | exact Nat.le_of_ble_eq_true rfl | omega) (fun h => nomatch h) ?_
        refine so_then ?_
        refine sx_seq ?_
        refine sx_seq ?_
        refine sx_region (E := E) ?_
        refine so_move rfl rfl rfl ?_
        refine so_bin rfl rfl rfl rfl (by first | exact bin_eql_t (by first | rfl | assumption | omega) | exact bin_eql_f (by first | rfl | assumption | omega)) ?_
        refine so_then ?_
        refine sx_true rfl ?_
        refine sx_seq ?_
        refine sx_region (E := E) ?_
        refine so_load rfl rfl rfl (by first | exact ld_ownA Tryz.underlying27 rfl inf27 rfl (by repeat (first | exact List.Mem.head _ | apply List.Mem.tail)) (by first | exact cellsOf_le rfl | exact Nat.le_of_ble_eq_true rfl | decide | omega) (by first | exact cellsOf_all | exact take_all rfl | exact cellsOf_part rfl | rfl) | exact ld_dataA Tryz.underlying27 rfl inf27 rfl (by first | assumption | exact InA.add (by assumption) | exact InA.add (InA.add (by assumption))) (by assumption)) ?_
        refine so_storeA rfl (fun h => nomatch h) rfl rfl inf27 (by first | exact cellsOf_length _ _ | rfl) rfl (by repeat (first | exact .zero | apply Upd.succ)) (by first | exact cellsOf_set rfl | exact cellsOf_setr rfl | exact cellsOf_store rfl | exact store_all rfl | rfl) (by first | exact cellsOf_in rfl rfl | exact cellsOf_in rfl (cellsOf_length _ _) | exact cellsOf_le rfl | exact Nat.le_of_ble_eq_true rfl | omega) (fun h => nomatch h) ?_
        refine so_assign rfl rfl rfl ?_
        refine so_then ?_
        refine sx_ret ?_
        refine sk_then_ret ?_
        refine sk_return2 (.cell rfl (by first | exact ld_ownA Tryz.underlying27 rfl inf27 rfl (by repeat (first | exact List.Mem.head _ | apply List.Mem.tail)) (by first | exact cellsOf_le rfl | exact Nat.le_of_ble_eq_true rfl | decide | omega) (by first | exact cellsOf_all | exact take_all rfl | exact cellsOf_part rfl | rfl) | exact ld_dataA Tryz.underlying27 rfl inf27 rfl (by first | assumption | exact InA.add (by assumption) | exact InA.add (InA.add (by assumption))) (by assumption)) (.tmp rfl .nil)) ?_
        exact fun H hH => ⟨hH.kept, rndT_ok he (by decide) (own_row hH (by repeat (first | exact List.Mem.head _ | apply List.Mem.tail)) (mapD_len _ _).symm (by rw [mapD_len]; exact hcl) (by rw [mapD_16]; exact hce) (by rw [mapD_len]; exact (imgE_len he).2.2))⟩
    · skip
      refine sx_region (E := E) ?_
      refine so_move rfl rfl rfl ?_
      refine so_bin rfl rfl rfl rfl (by first | exact bin_neq_f (by first | rfl | assumption | omega) | exact bin_neq_t (by first | rfl | assumption | omega)) ?_
      refine so_move rfl rfl rfl ?_
      first | refine so_move rfl rfl rfl ?_ | refine so_skip rfl rfl rfl ?_
      first | refine so_bin rfl rfl rfl rfl (by first | exact bin_neq_f (by first | rfl | assumption | omega) | exact bin_neq_t (by first | rfl | assumption | omega)) ?_ | refine so_skip rfl rfl rfl ?_
      first | refine so_pick_t rfl rfl rfl rfl ?_ | refine so_pick_f rfl rfl rfl rfl ?_
      refine so_then ?_
      refine sx_true rfl ?_
      refine sx_seq ?_
      refine sx_region (E := E) ?_
      refine so_build rfl rfl (by repeat (first | exact Opps.nil | apply Opps.cons rfl)) (by rfl) ?_
      refine so_storeA rfl (fun h => nomatch h) rfl rfl inf27 (by first | exact cellsOf_length _ _ | rfl) rfl (by repeat (first | exact .zero | apply Upd.succ)) (by first | exact cellsOf_set rfl | exact cellsOf_setr rfl | exact cellsOf_store rfl | exact store_all rfl | rfl) (by first | exact cellsOf_in rfl rfl | exact cellsOf_in rfl (cellsOf_length _ _) | exact cellsOf_le rfl | exact Nat.le_of_ble_eq_true rfl | omega) (fun h => nomatch h) ?_
      refine so_assign rfl rfl rfl ?_
      refine so_then ?_
      refine sx_ret ?_
      refine sk_then_ret ?_
      refine sk_return2 (.cell rfl (by first | exact ld_ownA Tryz.underlying27 rfl inf27 rfl (by repeat (first | exact List.Mem.head _ | apply List.Mem.tail)) (by first | exact cellsOf_le rfl | exact Nat.le_of_ble_eq_true rfl | decide | omega) (by first | exact cellsOf_all | exact take_all rfl | exact cellsOf_part rfl | rfl) | exact ld_dataA Tryz.underlying27 rfl inf27 rfl (by first | assumption | exact InA.add (by assumption) | exact InA.add (InA.add (by assumption))) (by assumption)) (.tmp rfl .nil)) ?_
      exact fun H hH => ⟨hH.kept, rndT_dep he h8 h16⟩
  · skip
    refine sx_region (E := E) ?_
    refine so_move rfl rfl rfl ?_
    refine so_bin rfl rfl rfl rfl (by first | exact bin_neq_f (by first | rfl | assumption | omega) | exact bin_neq_t (by first | rfl | assumption | omega)) ?_
    refine so_then ?_
    refine sx_true rfl ?_
    refine sx_seq ?_
    refine sx_region (E := E) ?_
    refine so_build rfl rfl (by repeat (first | exact Opps.nil | apply Opps.cons rfl)) (by rfl) ?_
    refine so_move rfl rfl rfl ?_
    refine so_storeA rfl (fun h => nomatch h) rfl rfl inf27 (by first | exact cellsOf_length _ _ | rfl) rfl (by repeat (first | exact .zero | apply Upd.succ)) (by first | exact cellsOf_set rfl | exact cellsOf_setr rfl | exact cellsOf_store rfl | exact store_all rfl | rfl) (by first | exact cellsOf_in rfl rfl | exact cellsOf_in rfl (cellsOf_length _ _) | exact cellsOf_le rfl | exact Nat.le_of_ble_eq_true rfl | omega) (fun h => nomatch h) ?_
    refine so_assign rfl rfl rfl ?_
    refine so_then ?_
    refine sx_ret ?_
    refine sk_then_ret ?_
    refine sk_return2 (.cell rfl (by first | exact ld_ownA Tryz.underlying27 rfl inf27 rfl (by repeat (first | exact List.Mem.head _ | apply List.Mem.tail)) (by first | exact cellsOf_le rfl | exact Nat.le_of_ble_eq_true rfl | decide | omega) (by first | exact cellsOf_all | exact take_all rfl | exact cellsOf_part rfl | rfl) | exact ld_dataA Tryz.underlying27 rfl inf27 rfl (by first | assumption | exact InA.add (by assumption) | exact InA.add (InA.add (by assumption))) (by assumption)) (.tmp rfl .nil)) ?_
    exact fun H hH => ⟨hH.kept, rndT_err he⟩

end Go.Proofs.YtljakaaebljiiaaGreatDoor
