/-
  Walks, laid by program.
-/
import Derived.Test.YtaedeadgbojmnaaC1
set_option linter.unusedVariables false
set_option linter.unusedSimpArgs false
set_option maxRecDepth 100000
namespace Go.Proofs.Ytaedeadgbojmnaa
open Go Go.AM
theorem cloneD35_ok {S : AH} {A : Nat → Prop} (hA : ∀ j, A j → j < S.nx) {x : Value} {l : List (List CT)} (hx : CellA A S (.row 8 [.int .i64]) x (.row l)) : XCall Try.prog 35 [x] S fun u H' => Kept S.nx S H' ∧ CellA (fun j => A j ∨ (S.nx ≤ j ∧ j < H'.nx)) H' (.row 8 [.int .i64]) u (.row l) :=
  (clone35_ok hA hx).mono fun u H' _ h => ⟨h.1, h.2.cell h.1 hA (by obtain ⟨l2, _, _, e, _, r⟩ := hx.rowD; cases e; exact r.len) (by obtain ⟨l2, _, _, e, _, r⟩ := hx.rowD; cases e; exact r.bytes)⟩
theorem cloneD36_ok {S : AH} {A : Nat → Prop} (hA : ∀ j, A j → j < S.nx) {x : Value} {l : List (List CT)} (hx : CellA A S (.row 32 k31) x (.row l)) : XCall Try.prog 36 [x] S fun u H' => Kept S.nx S H' ∧ CellA (fun j => A j ∨ (S.nx ≤ j ∧ j < H'.nx)) H' (.row 32 k31) u (.row l) :=
  (clone36_ok hA hx).mono fun u H' _ h => ⟨h.1, h.2.cell h.1 hA (by obtain ⟨l2, _, _, e, _, r⟩ := hx.rowD; cases e; exact r.len) (by obtain ⟨l2, _, _, e, _, r⟩ := hx.rowD; cases e; exact r.bytes)⟩
theorem cloneD37_ok {S : AH} {A : Nat → Prop} (hA : ∀ j, A j → j < S.nx) {x : Value} {l : List (List CT)} (hx : CellA A S (.row 40 k102) x (.row l)) : XCall Try.prog 37 [x] S fun u H' => Kept S.nx S H' ∧ CellA (fun j => A j ∨ (S.nx ≤ j ∧ j < H'.nx)) H' (.row 40 k102) u (.row l) :=
  (clone37_ok hA hx).mono fun u H' _ h => ⟨h.1, h.2.cell h.1 hA (by obtain ⟨l2, _, _, e, _, r⟩ := hx.rowD; cases e; exact r.len) (by obtain ⟨l2, _, _, e, _, r⟩ := hx.rowD; cases e; exact r.bytes)⟩
theorem cloneD38_ok {S : AH} {A : Nat → Prop} (hA : ∀ j, A j → j < S.nx) {x : Value} {l : List (List CT)} (hx : CellA A S (.row 16 k104) x (.row l)) : XCall Try.prog 38 [x] S fun u H' => Kept S.nx S H' ∧ CellA (fun j => A j ∨ (S.nx ≤ j ∧ j < H'.nx)) H' (.row 16 k104) u (.row l) :=
  (clone38_ok hA hx).mono fun u H' _ h => ⟨h.1, h.2.cell h.1 hA (by obtain ⟨l2, _, _, e, _, r⟩ := hx.rowD; cases e; exact r.len) (by obtain ⟨l2, _, _, e, _, r⟩ := hx.rowD; cases e; exact r.bytes)⟩
theorem cloneD39_ok {S : AH} {A : Nat → Prop} (hA : ∀ j, A j → j < S.nx) {x : Value} {l : List (List CT)} (hx : CellA A S (.row 40 k85) x (.row l)) : XCall Try.prog 39 [x] S fun u H' => Kept S.nx S H' ∧ CellA (fun j => A j ∨ (S.nx ≤ j ∧ j < H'.nx)) H' (.row 40 k85) u (.row l) :=
  (clone39_ok hA hx).mono fun u H' _ h => ⟨h.1, h.2.cell h.1 hA (by obtain ⟨l2, _, _, e, _, r⟩ := hx.rowD; cases e; exact r.len) (by obtain ⟨l2, _, _, e, _, r⟩ := hx.rowD; cases e; exact r.bytes)⟩
theorem cloneD28_ok {S : AH} {A : Nat → Prop} (hA : ∀ j, A j → j < S.nx) {x : Value} {l : List (List CT)} (hx : CellA A S (.row 32 k79) x (.row l)) : XCall Try.prog 28 [x] S fun u H' => Kept S.nx S H' ∧ CellA (fun j => A j ∨ (S.nx ≤ j ∧ j < H'.nx)) H' (.row 32 k79) u (.row l) :=
  (clone28_ok hA hx).mono fun u H' _ h => ⟨h.1, h.2.cell h.1 hA (by obtain ⟨l2, _, _, e, _, r⟩ := hx.rowD; cases e; exact r.len) (by obtain ⟨l2, _, _, e, _, r⟩ := hx.rowD; cases e; exact r.bytes)⟩
theorem cloneD52_ok {S : AH} {A : Nat → Prop} (hA : ∀ j, A j → j < S.nx) {x : Value} {l : List (List CT)} (hx : CellA A S (.row 40 k118) x (.row l)) : XCall Try.prog 52 [x] S fun u H' => Kept S.nx S H' ∧ CellA (fun j => A j ∨ (S.nx ≤ j ∧ j < H'.nx)) H' (.row 40 k118) u (.row l) :=
  (clone52_ok hA hx).mono fun u H' _ h => ⟨h.1, h.2.cell h.1 hA (by obtain ⟨l2, _, _, e, _, r⟩ := hx.rowD; cases e; exact r.len) (by obtain ⟨l2, _, _, e, _, r⟩ := hx.rowD; cases e; exact r.bytes)⟩
theorem cloneD53_ok {S : AH} {A : Nat → Prop} (hA : ∀ j, A j → j < S.nx) {x : Value} {l : List (List CT)} (hx : CellA A S (.row 56 k122) x (.row l)) : XCall Try.prog 53 [x] S fun u H' => Kept S.nx S H' ∧ CellA (fun j => A j ∨ (S.nx ≤ j ∧ j < H'.nx)) H' (.row 56 k122) u (.row l) :=
  (clone53_ok hA hx).mono fun u H' _ h => ⟨h.1, h.2.cell h.1 hA (by obtain ⟨l2, _, _, e, _, r⟩ := hx.rowD; cases e; exact r.len) (by obtain ⟨l2, _, _, e, _, r⟩ := hx.rowD; cases e; exact r.bytes)⟩
theorem cloneD54_ok {S : AH} {A : Nat → Prop} (hA : ∀ j, A j → j < S.nx) {x : Value} {l : List (List CT)} (hx : CellA A S (.row 16 k44) x (.row l)) : XCall Try.prog 54 [x] S fun u H' => Kept S.nx S H' ∧ CellA (fun j => A j ∨ (S.nx ≤ j ∧ j < H'.nx)) H' (.row 16 k44) u (.row l) :=
  (clone54_ok hA hx).mono fun u H' _ h => ⟨h.1, h.2.cell h.1 hA (by obtain ⟨l2, _, _, e, _, r⟩ := hx.rowD; cases e; exact r.len) (by obtain ⟨l2, _, _, e, _, r⟩ := hx.rowD; cases e; exact r.bytes)⟩

/-- an own row of parameters, or none -/
def PRow (A : Nat → Prop) (H : AH) (pl : List (List CT)) (v : Value) (L1 : OL) : Prop :=
  (v = .slice none 0 0 ∧ pl = [] ∧ L1 = []) ∨ ∃ M cells ex, v = .slice (some ⟨2 * M + 1, 0, none⟩) pl.length pl.length ∧ L1 = [(M, .cells cells 1 ex)] ∧ cells.length = pl.length * 1 ∧ allOne cells = true ∧ ∀ (i : Nat) c, pl[i]? = some c → CellsA A H [.int .i64] ((cells.drop (i * 1)).take 1) c
theorem PRow.gr {A A' : Nat → Prop} {H H' : AH} {pl : List (List CT)} {v : Value} {L1 : OL} (h : PRow A H pl v L1) (g : Gr A H A' H') : PRow A' H' pl v L1 := by
  rcases h with h | ⟨M, cells, ex, h1, h2, h3, h4, h5⟩
  · exact .inl h
  · exact .inr ⟨M, cells, ex, h1, h2, h3, h4, fun i c hc => CellsA.gr g _ _ _ (h5 i c hc)⟩
def only (n : Nat) : Nat → Bool := fun i => Nat.beq i n
/-- a clone of a struct whose parameters (at place e) are a row of its own -/
def CloneT (ks : List Kd) (n e : Nat) (c : Nat → CT) (pl : List (List CT)) (u : Value) (H' : AH) (A1 : Nat → Prop) (L1 : OL) : Prop := ∃ y, u = .agg ⟨cellsOf n y⟩ ∧ PtsX A1 H' ks (only e) y c ∧ PRow A1 H' pl (y e) L1
def CloneR (ks : List Kd) (n e : Nat) (c : Nat → CT) (pl : List (List CT)) (A : Nat → Prop) (S : AH) (u : Value) (H' : AH) : Prop := Kept S.nx S H' ∧ ∃ A1 L1, (∀ j, A1 j → A j ∨ (S.nx ≤ j ∧ j < H'.nx)) ∧ (∀ j, A j → A1 j) ∧ (∀ p ∈ L1, H'.tr.get p.1 = some p.2 ∧ S.nx ≤ p.1 ∧ p.1 < H'.nx ∧ ¬ A1 p.1) ∧ L1.Pairwise (fun p q => p.1 ≠ q.1) ∧ CloneT ks n e c pl u H' A1 L1
theorem Cloned.prow {A A1 : Nat → Prop} {S H' : AH} {pl : List (List CT)} {u : Value} (h : Cloned A S [.int .i64] pl u H' S.nx) (g : Gr A S A1 H') (hn : ∀ j, S.nx ≤ j → ¬ A1 j) : ∃ L1, (∀ p ∈ L1, H'.tr.get p.1 = some p.2 ∧ S.nx ≤ p.1 ∧ p.1 < H'.nx ∧ ¬ A1 p.1) ∧ L1.Pairwise (fun p q => p.1 ≠ q.1) ∧ PRow A1 H' pl u L1 := by
  rcases h with ⟨h1, h2⟩ | ⟨M, cells, ex, h1, h2, h3, h4, h5, h6, h7⟩
  · exact ⟨[], (fun p hp => by cases hp), List.Pairwise.nil, .inl ⟨h1, h2, rfl⟩⟩
  · refine ⟨[(M, .cells cells 1 ex)], fun p hp => ?_, List.pairwise_singleton .., .inr ⟨M, cells, ex, h1, rfl, h5, h6, fun i c hc => CellsA.gr g _ _ _ (h7 i c hc)⟩⟩
    rw [List.mem_singleton] at hp; subst hp
    exact ⟨h2, h3, h4, hn M h3⟩
theorem cloneP_ok {S : AH} {A : Nat → Prop} (hA : ∀ j, A j → j < S.nx) {x : Value} {l : List (List CT)} (hx : CellA A S (.row 8 [.int .i64]) x (.row l)) : XCall Try.prog 35 [x] S fun u H' => Kept S.nx S H' ∧ ∃ A1 L1, (∀ j, A1 j → A j ∨ (S.nx ≤ j ∧ j < H'.nx)) ∧ (∀ j, A j → A1 j) ∧ (∀ p ∈ L1, H'.tr.get p.1 = some p.2 ∧ S.nx ≤ p.1 ∧ p.1 < H'.nx ∧ ¬ A1 p.1) ∧ L1.Pairwise (fun p q => p.1 ≠ q.1) ∧ PRow A1 H' l u L1 :=
  (clone35_ok hA hx).mono fun u H' hw h => by
    obtain ⟨L1, q1, q2, q3⟩ := Cloned.prow h.2 (A1 := A) ⟨fun _ h => h, fun j hj => h.1.get j (hA j hj), hw⟩ (fun j hj hA' => by have := hA j hA'; omega)
    exact ⟨h.1, A, L1, fun j hj => .inl hj, fun j hj => hj, q1, q2, q3⟩
theorem cloneNode_ok {S : AH} {A : Nat → Prop} (hA : ∀ j, A j → j < S.nx) {x : Nat → Value} {c : Nat → CT} (px0 : Pts A S k38 x c) {pl : List (List CT)} (er3 : c 27 = .row pl) : XCall Try.prog 34 [.agg ⟨cellsOf 43 x⟩] S (CloneR k38 43 27 c pl A S) := by
  obtain ⟨r1, _, _, er1, _, _⟩ := (px0 11 _ rfl).rowD
  obtain ⟨r2, _, _, er2, _, _⟩ := (px0 21 _ rfl).rowD
  obtain ⟨r4, _, _, er4, _, _⟩ := (px0 29 _ rfl).rowD
  obtain ⟨r5, _, _, er5, _, _⟩ := (px0 30 _ rfl).rowD
  obtain ⟨r6, _, _, er6, _, _⟩ := (px0 42 _ rfl).rowD
  have px := px0.toX (only 27)
  have gA := Gr.refl A S
  refine x_enter (E := E) (n := 34) (rs := [.cell 2 38]) (l := [(0, _)]) (fn_own Try.func34 rfl rfl rfl) hA rfl ?_
  refine sx_seq ?_
  refine sx_region (E := E) ?_
  refine so_boxA rfl rfl (fun h => nomatch h) rfl ?_
  intro N1
  refine so_alloc (cs := (.int .i64 0 :: .int .i64 0 :: .int .i64 0 :: .string ⟨#[]⟩ :: .bool false :: .bool false :: .bool false :: .int .i64 0 :: .int .i64 0 :: .int .i64 0 :: .int .i64 0 :: .slice none 0 0 :: .int .i64 0 :: .int .i64 0 :: .int .i64 0 :: .int .i64 0 :: .int .i64 0 :: .int .i64 0 :: .int .i64 0 :: .int .i64 0 :: .int .i64 0 :: .slice none 0 0 :: .int .i64 0 :: .int .i64 0 :: .int .i64 0 :: .int .i64 0 :: .int .i64 0 :: .slice none 0 0 :: .int .i64 0 :: .slice none 0 0 :: .slice none 0 0 :: .int .i64 0 :: .int .i64 0 :: .int .i64 0 :: .int .i64 0 :: .string ⟨#[]⟩ :: .int .i64 0 :: .int .i64 0 :: .int .i64 0 :: .int .i64 0 :: .int .i64 0 :: .int .i64 0 :: .slice none 0 0 :: [])) rfl rfl (fun h => nomatch h) inf38 rfl rfl ?_
  intro N2
  refine so_then ?_
  refine sx_seq ?_
  refine sx_region (E := E) ?_
  refine so_fieldO (o' := 9) rfl rfl rfl Try.underlying38 rfl inf24 rfl rfl ?_
  refine so_fieldO (o' := 11) rfl rfl rfl Try.underlying24 rfl inf22 rfl rfl ?_
  refine so_load rfl rfl rfl (by first | exact ld_own Try.underlying22 rfl (by repeat (first | exact List.Mem.head _ | apply List.Mem.tail)) (by first | exact cellsOf_get rfl | rfl) | exact ld_data Try.underlying22 rfl (by first | assumption | exact InA.add (by assumption) | exact InA.add (InA.add (by assumption))) (by assumption)) ?_
  refine so_callF (fun u H' A' => CellA A' H' (.row 8 [.int .i64]) u (.row r1)) rfl rfl (fun h => nomatch h) rfl has35 (by repeat (first | exact Opvs.nil | apply Opvs.cons rfl)) (fun H hH => cloneD35_ok hH.lt (by rw [← er1]; exact CellA.gr hH.gr _ _ _ (px 11 _ rfl rfl))) ?_
  intro u1 H1 A1 g1 hu1
  replace px := px.gr g1
  replace gA := gA.trans g1
  try replace hpk := hpk.gr g1
  refine so_fieldO (o' := 9) rfl rfl rfl Try.underlying38 rfl inf24 rfl rfl ?_
  refine so_fieldO (o' := 11) rfl rfl rfl Try.underlying24 rfl inf22 rfl rfl ?_
  refine so_storeS rfl (fun h => nomatch h) rfl rfl inf22 rfl (CellA.one hu1) (by repeat (first | exact .zero | apply Upd.succ)) (by first | exact cellsOf_set rfl | exact cellsOf_setr rfl | exact cellsOf_store rfl | exact store_all rfl | rfl) (by first | exact cellsOf_in rfl rfl | exact cellsOf_in rfl (cellsOf_length _ _) | exact cellsOf_le rfl | exact Nat.le_of_ble_eq_true rfl | omega) (fun h => nomatch h) ?_
  replace px := px.updR (o := 11) (v := u1) rfl (by rw [er1]; exact hu1)
  refine so_then ?_
  refine sx_seq ?_
  refine sx_region (E := E) ?_
  refine so_fieldO (o' := 19) rfl rfl rfl Try.underlying38 rfl inf29 rfl rfl ?_
  refine so_fieldO (o' := 21) rfl rfl rfl Try.underlying29 rfl inf27 rfl rfl ?_
  refine so_load rfl rfl rfl (by first | exact ld_own Try.underlying27 rfl (by repeat (first | exact List.Mem.head _ | apply List.Mem.tail)) (by first | exact cellsOf_get rfl | rfl) | exact ld_data Try.underlying27 rfl (by first | assumption | exact InA.add (by assumption) | exact InA.add (InA.add (by assumption))) (by assumption)) ?_
  refine so_callF (fun u H' A' => CellA A' H' (.row 32 k31) u (.row r2)) rfl rfl (fun h => nomatch h) rfl has36 (by repeat (first | exact Opvs.nil | apply Opvs.cons rfl)) (fun H hH => cloneD36_ok hH.lt (by rw [← er2]; exact CellA.gr hH.gr _ _ _ (px 21 _ rfl rfl))) ?_
  intro u2 H2 A2 g2 hu2
  replace px := px.gr g2
  replace gA := gA.trans g2
  try replace hpk := hpk.gr g2
  refine so_fieldO (o' := 19) rfl rfl rfl Try.underlying38 rfl inf29 rfl rfl ?_
  refine so_fieldO (o' := 21) rfl rfl rfl Try.underlying29 rfl inf27 rfl rfl ?_
  refine so_storeS rfl (fun h => nomatch h) rfl rfl inf27 rfl (CellA.one hu2) (by repeat (first | exact .zero | apply Upd.succ)) (by first | exact cellsOf_set rfl | exact cellsOf_setr rfl | exact cellsOf_store rfl | exact store_all rfl | rfl) (by first | exact cellsOf_in rfl rfl | exact cellsOf_in rfl (cellsOf_length _ _) | exact cellsOf_le rfl | exact Nat.le_of_ble_eq_true rfl | omega) (fun h => nomatch h) ?_
  replace px := px.updR (o := 21) (v := u2) rfl (by rw [er2]; exact hu2)
  refine so_then ?_
  refine sx_seq ?_
  refine sx_region (E := E) ?_
  refine so_fieldO (o' := 27) rfl rfl rfl Try.underlying38 rfl inf22 rfl rfl ?_
  refine so_load rfl rfl rfl (by first | exact ld_own Try.underlying22 rfl (by repeat (first | exact List.Mem.head _ | apply List.Mem.tail)) (by first | exact cellsOf_get rfl | rfl) | exact ld_data Try.underlying22 rfl (by first | assumption | exact InA.add (by assumption) | exact InA.add (InA.add (by assumption))) (by assumption)) ?_
  refine so_callL (fun u H' A1 L1 => PRow A1 H' pl u L1) rfl rfl (fun h => nomatch h) rfl has35 (by repeat (first | exact Opvs.nil | apply Opvs.cons rfl)) (fun H hH => cloneP_ok hH.lt (by rw [← er3]; exact CellA.gr hH.gr _ _ _ (by first | exact pp.gr gp | exact CellA.gr gA _ _ _ (px0 27 _ rfl)))) ?_
  intro u3 H3 A3 L3 g3 hpk
  replace px := px.gr g3
  replace gA := gA.trans g3
  have hps := hpk
  rcases hps with ⟨hv3, rfl, rfl⟩ | ⟨M, cells, ex, hv3, rfl, hcl, hone, hce⟩
  · skip
    refine so_fieldO (o' := 27) rfl rfl rfl Try.underlying38 rfl inf22 rfl rfl ?_
    refine so_storeS rfl (fun h => nomatch h) rfl rfl inf22 rfl (by rw [hv3]; rfl) (by repeat (first | exact .zero | apply Upd.succ)) (by first | exact cellsOf_set rfl | exact cellsOf_setr rfl | exact cellsOf_store rfl | exact store_all rfl | rfl) (by first | exact cellsOf_in rfl rfl | exact cellsOf_in rfl (cellsOf_length _ _) | exact cellsOf_le rfl | exact Nat.le_of_ble_eq_true rfl | omega) (fun h => nomatch h) ?_
    replace px := px.updE (o := 27) (v := u3) rfl
    refine so_then ?_
    refine sx_seq ?_
    refine sx_region (E := E) ?_
    refine so_fieldO (o' := 29) rfl rfl rfl Try.underlying38 rfl inf32 rfl rfl ?_
    refine so_load rfl rfl rfl (by first | exact ld_own Try.underlying32 rfl (by repeat (first | exact List.Mem.head _ | apply List.Mem.tail)) (by first | exact cellsOf_get rfl | rfl) | exact ld_data Try.underlying32 rfl (by first | assumption | exact InA.add (by assumption) | exact InA.add (InA.add (by assumption))) (by assumption)) ?_
    refine so_callF (fun u H' A' => CellA A' H' (.row 40 k118) u (.row r4)) rfl rfl (fun h => nomatch h) rfl has52 (by repeat (first | exact Opvs.nil | apply Opvs.cons rfl)) (fun H hH => cloneD52_ok hH.lt (by rw [← er4]; exact CellA.gr hH.gr _ _ _ (px 29 _ rfl rfl))) ?_
    intro u4 H4 A4 g4 hu4
    replace px := px.gr g4
    replace gA := gA.trans g4
    try replace hpk := hpk.gr g4
    refine so_fieldO (o' := 29) rfl rfl rfl Try.underlying38 rfl inf32 rfl rfl ?_
    refine so_storeS rfl (fun h => nomatch h) rfl rfl inf32 rfl (CellA.one hu4) (by repeat (first | exact .zero | apply Upd.succ)) (by first | exact cellsOf_set rfl | exact cellsOf_setr rfl | exact cellsOf_store rfl | exact store_all rfl | rfl) (by first | exact cellsOf_in rfl rfl | exact cellsOf_in rfl (cellsOf_length _ _) | exact cellsOf_le rfl | exact Nat.le_of_ble_eq_true rfl | omega) (fun h => nomatch h) ?_
    replace px := px.updR (o := 29) (v := u4) rfl (by rw [er4]; exact hu4)
    refine so_then ?_
    refine sx_seq ?_
    refine sx_region (E := E) ?_
    refine so_fieldO (o' := 30) rfl rfl rfl Try.underlying38 rfl inf33 rfl rfl ?_
    refine so_load rfl rfl rfl (by first | exact ld_own Try.underlying33 rfl (by repeat (first | exact List.Mem.head _ | apply List.Mem.tail)) (by first | exact cellsOf_get rfl | rfl) | exact ld_data Try.underlying33 rfl (by first | assumption | exact InA.add (by assumption) | exact InA.add (InA.add (by assumption))) (by assumption)) ?_
    refine so_callF (fun u H' A' => CellA A' H' (.row 56 k122) u (.row r5)) rfl rfl (fun h => nomatch h) rfl has53 (by repeat (first | exact Opvs.nil | apply Opvs.cons rfl)) (fun H hH => cloneD53_ok hH.lt (by rw [← er5]; exact CellA.gr hH.gr _ _ _ (px 30 _ rfl rfl))) ?_
    intro u5 H5 A5 g5 hu5
    replace px := px.gr g5
    replace gA := gA.trans g5
    try replace hpk := hpk.gr g5
    refine so_fieldO (o' := 30) rfl rfl rfl Try.underlying38 rfl inf33 rfl rfl ?_
    refine so_storeS rfl (fun h => nomatch h) rfl rfl inf33 rfl (CellA.one hu5) (by repeat (first | exact .zero | apply Upd.succ)) (by first | exact cellsOf_set rfl | exact cellsOf_setr rfl | exact cellsOf_store rfl | exact store_all rfl | rfl) (by first | exact cellsOf_in rfl rfl | exact cellsOf_in rfl (cellsOf_length _ _) | exact cellsOf_le rfl | exact Nat.le_of_ble_eq_true rfl | omega) (fun h => nomatch h) ?_
    replace px := px.updR (o := 30) (v := u5) rfl (by rw [er5]; exact hu5)
    refine so_then ?_
    refine sx_seq ?_
    refine sx_region (E := E) ?_
    refine so_fieldO (o' := 39) rfl rfl rfl Try.underlying38 rfl inf36 rfl rfl ?_
    refine so_fieldO (o' := 42) rfl rfl rfl Try.underlying36 rfl inf34 rfl rfl ?_
    refine so_load rfl rfl rfl (by first | exact ld_own Try.underlying34 rfl (by repeat (first | exact List.Mem.head _ | apply List.Mem.tail)) (by first | exact cellsOf_get rfl | rfl) | exact ld_data Try.underlying34 rfl (by first | assumption | exact InA.add (by assumption) | exact InA.add (InA.add (by assumption))) (by assumption)) ?_
    refine so_callF (fun u H' A' => CellA A' H' (.row 16 k44) u (.row r6)) rfl rfl (fun h => nomatch h) rfl has54 (by repeat (first | exact Opvs.nil | apply Opvs.cons rfl)) (fun H hH => cloneD54_ok hH.lt (by rw [← er6]; exact CellA.gr hH.gr _ _ _ (px 42 _ rfl rfl))) ?_
    intro u6 H6 A6 g6 hu6
    replace px := px.gr g6
    replace gA := gA.trans g6
    try replace hpk := hpk.gr g6
    refine so_fieldO (o' := 39) rfl rfl rfl Try.underlying38 rfl inf36 rfl rfl ?_
    refine so_fieldO (o' := 42) rfl rfl rfl Try.underlying36 rfl inf34 rfl rfl ?_
    refine so_storeS rfl (fun h => nomatch h) rfl rfl inf34 rfl (CellA.one hu6) (by repeat (first | exact .zero | apply Upd.succ)) (by first | exact cellsOf_set rfl | exact cellsOf_setr rfl | exact cellsOf_store rfl | exact store_all rfl | rfl) (by first | exact cellsOf_in rfl rfl | exact cellsOf_in rfl (cellsOf_length _ _) | exact cellsOf_le rfl | exact Nat.le_of_ble_eq_true rfl | omega) (fun h => nomatch h) ?_
    replace px := px.updR (o := 42) (v := u6) rfl (by rw [er6]; exact hu6)
    refine so_then ?_
    refine sx_seq ?_
    refine sx_region (E := E) ?_
    refine so_load rfl rfl rfl (by first | exact ld_ownA Try.underlying38 rfl inf38 rfl (by repeat (first | exact List.Mem.head _ | apply List.Mem.tail)) (by first | exact cellsOf_le rfl | decide | omega) (by first | exact cellsOf_all | exact take_all rfl | exact cellsOf_part rfl | rfl) | exact ld_dataA Try.underlying38 rfl inf38 rfl (by first | assumption | exact InA.add (by assumption) | exact InA.add (InA.add (by assumption))) (by assumption)) ?_
    refine so_storeA rfl (fun h => nomatch h) rfl rfl inf38 (by first | exact cellsOf_length _ _ | rfl) (px.one rfl (fun i hi => by have h9 : i = 27 := Nat.eq_of_beq_eq_true hi; subst h9; show u3.oneCell' = true; rw [hv3]; rfl)) (by repeat (first | exact .zero | apply Upd.succ)) (by first | exact cellsOf_set rfl | exact cellsOf_setr rfl | exact cellsOf_store rfl | exact store_all rfl | rfl) (by first | exact cellsOf_in rfl rfl | exact cellsOf_in rfl (cellsOf_length _ _) | exact cellsOf_le rfl | exact Nat.le_of_ble_eq_true rfl | omega) (fun h => nomatch h) ?_
    refine so_then ?_
    refine sx_ret ?_
    refine sk_return1 (.cell rfl (by first | exact ld_ownA Try.underlying38 rfl inf38 rfl (by repeat (first | exact List.Mem.head _ | apply List.Mem.tail)) (by first | exact cellsOf_le rfl | decide | omega) (by first | exact cellsOf_all | exact take_all rfl | exact cellsOf_part rfl | rfl) | exact ld_dataA Try.underlying38 rfl inf38 rfl (by first | assumption | exact InA.add (by assumption) | exact InA.add (InA.add (by assumption))) (by assumption)) .nil) ?_
    intro H hH
    refine ⟨hH.kept, _, _, (fun j hj => (hH.sub j hj).imp id fun h => ⟨h, hH.lt j hj⟩), gA.sub, ?_, ?_, _, rfl, (px.gr hH.gr), (hpk.gr hH.gr)⟩
    · intro p hp; cases hp
    · exact List.Pairwise.nil
  · skip
    refine so_fieldO (o' := 27) rfl rfl rfl Try.underlying38 rfl inf22 rfl rfl ?_
    refine so_storeS rfl (fun h => nomatch h) rfl rfl inf22 rfl (by rw [hv3]; rfl) (by repeat (first | exact .zero | apply Upd.succ)) (by first | exact cellsOf_set rfl | exact cellsOf_setr rfl | exact cellsOf_store rfl | exact store_all rfl | rfl) (by first | exact cellsOf_in rfl rfl | exact cellsOf_in rfl (cellsOf_length _ _) | exact cellsOf_le rfl | exact Nat.le_of_ble_eq_true rfl | omega) (fun h => nomatch h) ?_
    replace px := px.updE (o := 27) (v := u3) rfl
    refine so_then ?_
    refine sx_seq ?_
    refine sx_region (E := E) ?_
    refine so_fieldO (o' := 29) rfl rfl rfl Try.underlying38 rfl inf32 rfl rfl ?_
    refine so_load rfl rfl rfl (by first | exact ld_own Try.underlying32 rfl (by repeat (first | exact List.Mem.head _ | apply List.Mem.tail)) (by first | exact cellsOf_get rfl | rfl) | exact ld_data Try.underlying32 rfl (by first | assumption | exact InA.add (by assumption) | exact InA.add (InA.add (by assumption))) (by assumption)) ?_
    refine so_callF (fun u H' A' => CellA A' H' (.row 40 k118) u (.row r4)) rfl rfl (fun h => nomatch h) rfl has52 (by repeat (first | exact Opvs.nil | apply Opvs.cons rfl)) (fun H hH => cloneD52_ok hH.lt (by rw [← er4]; exact CellA.gr hH.gr _ _ _ (px 29 _ rfl rfl))) ?_
    intro u4 H4 A4 g4 hu4
    replace px := px.gr g4
    replace gA := gA.trans g4
    try replace hpk := hpk.gr g4
    refine so_fieldO (o' := 29) rfl rfl rfl Try.underlying38 rfl inf32 rfl rfl ?_
    refine so_storeS rfl (fun h => nomatch h) rfl rfl inf32 rfl (CellA.one hu4) (by repeat (first | exact .zero | apply Upd.succ)) (by first | exact cellsOf_set rfl | exact cellsOf_setr rfl | exact cellsOf_store rfl | exact store_all rfl | rfl) (by first | exact cellsOf_in rfl rfl | exact cellsOf_in rfl (cellsOf_length _ _) | exact cellsOf_le rfl | exact Nat.le_of_ble_eq_true rfl | omega) (fun h => nomatch h) ?_
    replace px := px.updR (o := 29) (v := u4) rfl (by rw [er4]; exact hu4)
    refine so_then ?_
    refine sx_seq ?_
    refine sx_region (E := E) ?_
    refine so_fieldO (o' := 30) rfl rfl rfl Try.underlying38 rfl inf33 rfl rfl ?_
    refine so_load rfl rfl rfl (by first | exact ld_own Try.underlying33 rfl (by repeat (first | exact List.Mem.head _ | apply List.Mem.tail)) (by first | exact cellsOf_get rfl | rfl) | exact ld_data Try.underlying33 rfl (by first | assumption | exact InA.add (by assumption) | exact InA.add (InA.add (by assumption))) (by assumption)) ?_
    refine so_callF (fun u H' A' => CellA A' H' (.row 56 k122) u (.row r5)) rfl rfl (fun h => nomatch h) rfl has53 (by repeat (first | exact Opvs.nil | apply Opvs.cons rfl)) (fun H hH => cloneD53_ok hH.lt (by rw [← er5]; exact CellA.gr hH.gr _ _ _ (px 30 _ rfl rfl))) ?_
    intro u5 H5 A5 g5 hu5
    replace px := px.gr g5
    replace gA := gA.trans g5
    try replace hpk := hpk.gr g5
    refine so_fieldO (o' := 30) rfl rfl rfl Try.underlying38 rfl inf33 rfl rfl ?_
    refine so_storeS rfl (fun h => nomatch h) rfl rfl inf33 rfl (CellA.one hu5) (by repeat (first | exact .zero | apply Upd.succ)) (by first | exact cellsOf_set rfl | exact cellsOf_setr rfl | exact cellsOf_store rfl | exact store_all rfl | rfl) (by first | exact cellsOf_in rfl rfl | exact cellsOf_in rfl (cellsOf_length _ _) | exact cellsOf_le rfl | exact Nat.le_of_ble_eq_true rfl | omega) (fun h => nomatch h) ?_
    replace px := px.updR (o := 30) (v := u5) rfl (by rw [er5]; exact hu5)
    refine so_then ?_
    refine sx_seq ?_
    refine sx_region (E := E) ?_
    refine so_fieldO (o' := 39) rfl rfl rfl Try.underlying38 rfl inf36 rfl rfl ?_
    refine so_fieldO (o' := 42) rfl rfl rfl Try.underlying36 rfl inf34 rfl rfl ?_
    refine so_load rfl rfl rfl (by first | exact ld_own Try.underlying34 rfl (by repeat (first | exact List.Mem.head _ | apply List.Mem.tail)) (by first | exact cellsOf_get rfl | rfl) | exact ld_data Try.underlying34 rfl (by first | assumption | exact InA.add (by assumption) | exact InA.add (InA.add (by assumption))) (by assumption)) ?_
    refine so_callF (fun u H' A' => CellA A' H' (.row 16 k44) u (.row r6)) rfl rfl (fun h => nomatch h) rfl has54 (by repeat (first | exact Opvs.nil | apply Opvs.cons rfl)) (fun H hH => cloneD54_ok hH.lt (by rw [← er6]; exact CellA.gr hH.gr _ _ _ (px 42 _ rfl rfl))) ?_
    intro u6 H6 A6 g6 hu6
    replace px := px.gr g6
    replace gA := gA.trans g6
    try replace hpk := hpk.gr g6
    refine so_fieldO (o' := 39) rfl rfl rfl Try.underlying38 rfl inf36 rfl rfl ?_
    refine so_fieldO (o' := 42) rfl rfl rfl Try.underlying36 rfl inf34 rfl rfl ?_
    refine so_storeS rfl (fun h => nomatch h) rfl rfl inf34 rfl (CellA.one hu6) (by repeat (first | exact .zero | apply Upd.succ)) (by first | exact cellsOf_set rfl | exact cellsOf_setr rfl | exact cellsOf_store rfl | exact store_all rfl | rfl) (by first | exact cellsOf_in rfl rfl | exact cellsOf_in rfl (cellsOf_length _ _) | exact cellsOf_le rfl | exact Nat.le_of_ble_eq_true rfl | omega) (fun h => nomatch h) ?_
    replace px := px.updR (o := 42) (v := u6) rfl (by rw [er6]; exact hu6)
    refine so_then ?_
    refine sx_seq ?_
    refine sx_region (E := E) ?_
    refine so_load rfl rfl rfl (by first | exact ld_ownA Try.underlying38 rfl inf38 rfl (by repeat (first | exact List.Mem.head _ | apply List.Mem.tail)) (by first | exact cellsOf_le rfl | decide | omega) (by first | exact cellsOf_all | exact take_all rfl | exact cellsOf_part rfl | rfl) | exact ld_dataA Try.underlying38 rfl inf38 rfl (by first | assumption | exact InA.add (by assumption) | exact InA.add (InA.add (by assumption))) (by assumption)) ?_
    refine so_storeA rfl (fun h => nomatch h) rfl rfl inf38 (by first | exact cellsOf_length _ _ | rfl) (px.one rfl (fun i hi => by have h9 : i = 27 := Nat.eq_of_beq_eq_true hi; subst h9; show u3.oneCell' = true; rw [hv3]; rfl)) (by repeat (first | exact .zero | apply Upd.succ)) (by first | exact cellsOf_set rfl | exact cellsOf_setr rfl | exact cellsOf_store rfl | exact store_all rfl | rfl) (by first | exact cellsOf_in rfl rfl | exact cellsOf_in rfl (cellsOf_length _ _) | exact cellsOf_le rfl | exact Nat.le_of_ble_eq_true rfl | omega) (fun h => nomatch h) ?_
    refine so_then ?_
    refine sx_ret ?_
    refine sk_return1 (.cell rfl (by first | exact ld_ownA Try.underlying38 rfl inf38 rfl (by repeat (first | exact List.Mem.head _ | apply List.Mem.tail)) (by first | exact cellsOf_le rfl | decide | omega) (by first | exact cellsOf_all | exact take_all rfl | exact cellsOf_part rfl | rfl) | exact ld_dataA Try.underlying38 rfl inf38 rfl (by first | assumption | exact InA.add (by assumption) | exact InA.add (InA.add (by assumption))) (by assumption)) .nil) ?_
    intro H hH
    refine ⟨hH.kept, _, _, (fun j hj => (hH.sub j hj).imp id fun h => ⟨h, hH.lt j hj⟩), gA.sub, ?_, ?_, _, rfl, (px.gr hH.gr), (hpk.gr hH.gr)⟩
    · intro p hp; rw [List.mem_singleton] at hp; subst hp; exact hH.own _ (by repeat (first | exact List.Mem.head _ | apply List.Mem.tail))
    · exact List.pairwise_singleton ..

end Go.Proofs.Ytaedeadgbojmnaa
