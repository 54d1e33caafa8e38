/-
  The abstract machine, part 36: calls that turn own objects of the caller.
-/
import Derived.Test.YtgkfobiiebpfhaaGreatDoorAM25
set_option linter.unusedVariables false
set_option linter.unusedSimpArgs false
noncomputable section
namespace Go.AM
open Go.RowKit

/-- L without the objects of the first list -/
inductive Takes : OL → OL → OL → Prop
  | nil {L : OL} : Takes [] L L
  | cons {N : Nat} {o : AObj} {r L L1 L2 : OL} (h : Rem N o L L1) (k : Takes r L1 L2) : Takes ((N, o) :: r) L L2
theorem Takes.sub {T L L0 : OL} (h : Takes T L L0) : L0.Sublist L := by
  induction h with
  | nil => exact List.Sublist.refl _
  | cons h _ ih => exact ih.trans h.sub
theorem Takes.mem {T L L0 : OL} (h : Takes T L L0) : ∀ p ∈ T, p ∈ L := by
  induction h with
  | nil => intro p hp; cases hp
  | cons h _ ih =>
    intro p hp
    rcases List.mem_cons.1 hp with rfl | hp
    · exact h.mem
    · exact h.sub.subset (ih p hp)
def ids (L : OL) (j : Nat) : Prop := ∃ p ∈ L, p.1 = j
theorem Takes.ne {T L L0 : OL} (h : Takes T L L0) : L.Pairwise (fun p q => p.1 ≠ q.1) → ∀ p ∈ L0, ¬ ids T p.1 := by
  induction h with
  | nil => rintro _ p _ ⟨q, hq, _⟩; cases hq
  | @cons N o r L L1 L2 h k ih =>
    rintro hd p hp ⟨q, hq, e⟩
    rcases List.mem_cons.1 hq with rfl | hq
    · exact h.ne hd p (k.sub.subset hp) e.symm
    · exact ih (hd.sublist h.sub) p hp ⟨q, hq, e⟩

/-- from S to H the objects Li have become Lo; all others are as they were -/
structure Turned (Li : OL) (S H : AH) (Lo : OL) : Prop where
  w0 : H.w0 = S.w0
  get : ∀ j, j < S.nx → ¬ ids Li j → H.tr.get j = S.tr.get j
  lt : ∀ j, j < S.nx → ¬ ids Li j → j < H.nx
  out : ∀ p ∈ Lo, H.tr.get p.1 = some p.2 ∧ p.1 < H.nx ∧ (ids Li p.1 ∨ S.nx ≤ p.1)
  dist : Lo.Pairwise (fun p q => p.1 ≠ q.1)
  sv : ∃ p, p ∈ Lo
/-- the caller's data, and what is new and nobody's own -/
def frs (A : Nat → Prop) (H H' : AH) (Lo : OL) : Nat → Prop := fun j => A j ∨ (H.nx ≤ j ∧ j < H'.nx ∧ ¬ ids Lo j)
def zeroH (S : AH) : AH := { S with nx := 0 }
def elseA (S : AH) (Li : OL) : Nat → Prop := fun j => j < S.nx ∧ ¬ ids Li j

section
variable {P : Program} {E : Env P} {G : RG} {i n d : Nat} {r : List Oper} {rs : List ResultVar} {R : Value → AH → Prop} {Q : Fr → AH → Prop} {t : Tr Value} {l : List (Nat × Value)} {S H H0 H1 : AH} {A0 A A1 : Nat → Prop} {L L' Li Lo : OL} {v : Value}
  {ty : TypeId} {ps : String} {af : Array Edge} {gd : Option (Nat × Bool)}
/-- into a function to which objects are lent -/
theorem x_enterT {g : FuncId} {c : Code} {args : List Value} (hg : E.fn g = some ⟨n, rs, c⟩) (hin : ∀ p ∈ Li, S.tr.get p.1 = some p.2 ∧ p.1 < S.nx) (hd : Li.Pairwise (fun p q => p.1 ≠ q.1)) (hf : mkFr args n = fr n .nil l)
    (h : SX P c (retK E rs R) (fr n .nil l) (zeroH S) (elseA S Li) S (elseA S Li) Li) : XCall P g args S R :=
  XCall.body E hg (by
    rw [hf]
    exact h S ⟨⟨rfl, Nat.zero_le _, fun i hi => absurd hi (Nat.not_lt_zero _)⟩, fun _ _ => rfl, rfl, fun _ h => .inl h, fun _ h => h.1, fun p hp => ⟨(hin p hp).1, Nat.zero_le _, (hin p hp).2, fun h => h.2 ⟨p, hp, rfl⟩⟩, hd⟩)
/-- what it has done -/
theorem HS.turned (h : HS (zeroH S) H1 A0 A1 Lo H) (g : Gr (elseA S Li) S A1 H1) (sv : ∃ p, p ∈ Lo) : Turned Li S H Lo := by
  have key : ∀ j, j < S.nx → ¬ ids Li j → H.tr.get j = S.tr.get j ∧ j < H.nx := fun j h1 h2 => by
    have ha := g.sub j ⟨h1, h2⟩
    exact ⟨(h.base j ha).trans (g.get j ⟨h1, h2⟩), h.lt j ha⟩
  refine ⟨h.kept.w0, fun j h1 h2 => (key j h1 h2).1, fun j h1 h2 => (key j h1 h2).2, fun p hp => ?_, h.dist, sv⟩
  obtain ⟨q1, _, q3, q4⟩ := h.own p hp
  refine ⟨q1, q3, ?_⟩
  by_cases e : ids Li p.1
  · exact .inl e
  · rcases Nat.lt_or_ge p.1 S.nx with hl | hl
    · exact absurd (g.sub _ ⟨hl, e⟩) q4
    · exact .inr hl
/-- an own object of such a function that was not lent is new -/
theorem HS.newT (h : HS (zeroH S) H1 A0 A1 Lo H) (g : Gr (elseA S Li) S A1 H1) {N : Nat} {o : AObj} (hN : (N, o) ∈ Lo) (hn : ¬ ids Li N) : S.nx ≤ N := by
  rcases Nat.lt_or_ge N S.nx with hl | hl
  · exact absurd (g.sub _ ⟨hl, hn⟩) (h.own _ hN).2.2.2
  · exact hl

theorem HS.after {Sc Hc : AH} {L0 : OL} (hH : HS Sc H0 A0 A L H) (ht : Takes Li L L0) (k : Turned Li H H1 Lo) : HS Sc H1 A0 (frs A H H1 Lo) (Lo ++ L0) H1 ∧ Gr A H0 (frs A H H1 Lo) H1 := by
  have hown : ∀ j, ids Li j → Sc.nx ≤ j ∧ j < H.nx ∧ ¬ A j := by
    rintro j ⟨p, hp, rfl⟩
    obtain ⟨_, q2, q3, q4⟩ := hH.own p (ht.mem p hp)
    exact ⟨q2, q3, q4⟩
  have hnA : ∀ j, A j → ¬ ids Li j := fun j h e => (hown j e).2.2 h
  have hnx : Sc.nx ≤ H1.nx := by
    obtain ⟨p, hp⟩ := k.sv
    obtain ⟨_, q2, q3⟩ := k.out p hp
    rcases q3 with e | e
    · have := (hown _ e).1; omega
    · have := hH.kept.nx; omega
  have hne := ht.ne hH.dist
  refine ⟨⟨⟨k.w0.trans hH.kept.w0, hnx, fun j hj => ?_⟩, fun _ _ => rfl, rfl, fun j hj => ?_, fun j hj => ?_, fun p hp => ?_, List.pairwise_append.2 ⟨k.dist, hH.dist.sublist ht.sub, fun p hp q hq => ?_⟩⟩, ⟨fun j hj => .inl hj, fun j hj => ?_, k.w0.trans hH.w0.symm⟩⟩
  · have h1 : ¬ ids Li j := fun e => by have := (hown j e).1; omega
    exact (k.get j (Nat.lt_of_lt_of_le hj hH.kept.nx) h1).trans (hH.kept.get j hj)
  · rcases hj with hj | ⟨hj, _⟩
    · exact hH.sub j hj
    · exact .inr (Nat.le_trans hH.kept.nx hj)
  · rcases hj with hj | ⟨_, hj, _⟩
    · exact k.lt j (hH.lt j hj) (hnA j hj)
    · exact hj
  · rcases List.mem_append.1 hp with hp | hp
    · obtain ⟨q1, q2, q3⟩ := k.out p hp
      refine ⟨q1, ?_, q2, ?_⟩
      · rcases q3 with q3 | q3
        · exact (hown _ q3).1
        · exact Nat.le_trans hH.kept.nx q3
      · rintro (h | ⟨_, _, h⟩)
        · rcases q3 with q3 | q3
          · exact hnA _ h q3
          · have := hH.lt _ h; omega
        · exact h ⟨p, hp, rfl⟩
    · obtain ⟨q1, q2, q3, q4⟩ := hH.own p (ht.sub.subset hp)
      refine ⟨(k.get _ q3 (hne p hp)).trans q1, q2, k.lt _ q3 (hne p hp), ?_⟩
      rintro (h | ⟨h, _, _⟩)
      · exact q4 h
      · omega
  · intro e
    rcases (k.out p hp).2.2 with h | h
    · exact hne q hq (e ▸ h)
    · have := (hH.own q (ht.sub.subset hq)).2.2.1; omega
  · exact (k.get j (hH.lt j hj) (hnA j hj)).trans (hH.base j hj)

/-- a call to which own objects are lent -/
theorem so_callT {c : Call} {g : FuncId} {vs : List Value} {L0 : OL} (T : Value → AH → (Nat → Prop) → OL → Prop) (hw : gok G.ops l gd = true) (hdn : Nat.ble (d + 1) n = true) (hm : G.D = true → i ∈ G.ms) (hc : c.callee = .value (.func g)) (hg : ∃ fn, E.fn g = some fn) (ha : Opvs l c.args.toList vs) (ht : Takes Li L L0) (hDs : G.D = true → G.Lw.Sublist L0)
    (hk : ∀ H, HS G.S H0 G.A0 A L H → XCall P g vs H fun u H' => ∃ Lo, Turned Li H H' Lo ∧ T u H' (frs A H H' Lo) Lo)
    (h : ∀ u H1 A1 Lo, Gr A H0 A1 H1 → T u H1 A1 Lo → SO E G (i + 1) r Q (fr n t ((d, u) :: l)) H1 A1 (Lo ++ L0)) : SO E G i (⟨some d, .call c, ty, ps, af, gd⟩ :: r) Q (fr n t l) H0 A L :=
  so_any hw rfl hdn hm fun hD H hH => by
    obtain ⟨fn, hg⟩ := hg
    obtain ⟨u, H', ⟨Lo, hT, hu⟩, hw0, hcall⟩ := hk H hH
    obtain ⟨q1, q2⟩ := hH.after (Hc := H) ht hT
    refine ⟨u, H', H', _, Lo ++ L0, .inr ⟨hw0, g, vs, ?_, hcall⟩, q1, ((hD.list hDs).fresh (H := H) q2).list fun hD => (hDs hD).trans (List.sublist_append_right _ _), h u H' _ Lo q2 hu⟩
    simp only [acallee, hc, aval_func, hg, ha.ok, List.append_nil, List.nil_append]
theorem HS.perm (h : HS S H0 A0 A L H) (hp : L'.Perm L) : HS S H0 A0 A L' H :=
  ⟨h.kept, h.base, h.w0, h.sub, h.lt, fun p q => h.own p (hp.subset q), (List.Perm.pairwise_iff (fun {a b} (q : a.1 ≠ b.1) => q.symm) hp).2 h.dist⟩
theorem HS.after0 {Sc Hc : AH} {L0 : OL} (hH : HS Sc H0 A0 A L H) (ht : Takes Li L L0) (k : Turned Li H H1 Lo) : HS Sc H0 A0 A (Lo ++ L0) H1 := by
  obtain ⟨hs, g⟩ := hH.after (Hc := H) ht k
  exact ⟨hs.kept, fun j hj => g.get j hj, g.w0.symm, fun j hj => hs.sub j (.inl hj), fun j hj => hs.lt j (.inl hj), fun p hp => by
    obtain ⟨q1, q2, q3, q4⟩ := hs.own p hp
    exact ⟨q1, q2, q3, fun h => q4 (.inl h)⟩, hs.dist⟩
/-- .. that makes no data -/
theorem so_callT0 {c : Call} {g : FuncId} {vs : List Value} {L0 : OL} (T : Value → OL → Prop) (hw : gok G.ops l gd = true) (hdn : Nat.ble (d + 1) n = true) (hm : G.D = true → i ∈ G.ms) (hc : c.callee = .value (.func g)) (hg : ∃ fn, E.fn g = some fn) (ha : Opvs l c.args.toList vs) (ht : Takes Li L L0) (hDs : G.D = true → G.Lw.Sublist L0)
    (hk : ∀ H, HS G.S H0 G.A0 A L H → XCall P g vs H fun u H' => ∃ Lo, Turned Li H H' Lo ∧ T u Lo)
    (h : ∀ u Lo, T u Lo → SO E G (i + 1) r Q (fr n t ((d, u) :: l)) H0 A (Lo ++ L0)) : SO E G i (⟨some d, .call c, ty, ps, af, gd⟩ :: r) Q (fr n t l) H0 A L :=
  so_any hw rfl hdn hm fun hD H hH => by
    obtain ⟨fn, hg⟩ := hg
    obtain ⟨u, H', ⟨Lo, hT, hu⟩, hw0, hcall⟩ := hk H hH
    refine ⟨u, H', H0, A, Lo ++ L0, .inr ⟨hw0, g, vs, ?_, hcall⟩, hH.after0 (Hc := H) ht hT, hD.list fun hD => (hDs hD).trans (List.sublist_append_right _ _), h u Lo hu⟩
    simp only [acallee, hc, aval_func, hg, ha.ok, List.append_nil, List.nil_append]
/-- the objects are there -/
theorem HS.have (hH : HS S H0 A0 A L H) (hs : ∀ p ∈ Li, p ∈ L) : ∀ p ∈ Li, H.tr.get p.1 = some p.2 ∧ p.1 < H.nx := fun p hp => ⟨(hH.own p (hs p hp)).1, (hH.own p (hs p hp)).2.2.1⟩
theorem HS.ne {N M : Nat} {o o' : AObj} (hH : HS S H0 A0 A L H) (h : L.Pairwise (fun p q => p.1 ≠ q.1) → N ≠ M) : N ≠ M := h hH.dist
end
end Go.AM
