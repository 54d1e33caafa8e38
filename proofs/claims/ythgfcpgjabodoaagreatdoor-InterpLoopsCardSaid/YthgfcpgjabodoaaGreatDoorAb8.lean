/-
  An abstract machine that runs a program of the given form, and its soundness, part 8.
-/
import Derived.Test.YthgfcpgjabodoaaGreatDoorAb7
set_option linter.unusedVariables false
set_option linter.unusedSimpArgs false
set_option linter.unusedSectionVars false
noncomputable section
namespace Go.AM
open Go.RowKit
def kJ (js : List Nat) (r : Option (Value × AH × List Prop)) : Option (Value × Nat × List AObj × List Prop) :=
 match r with
 | some (v, H, L) => (match zE H js with
  | some l => some (v, H.nx, l, L)
  | none => none)
 | none => none
section
variable {P : Program} {σ0 σ : Sg}
theorem XCall.frame {cc : cE} {g : FuncId} {L : List Prop} {args0 args : List Value} {os0 os1 : List AObj} {ids js : List Nat} {n1 : Nat} {v0 : Value} {Li : OL} {S : AH} (ρ : Nat → Value) (hρ : Fits σ σ0 ρ) (hcall : bY (σ := σ0) P cc)
 (run : kJ js (cc g args0 ⟨S.w0, ids.length, oH os0 0 .nil⟩) = some (v0, n1, os1, L)) (hL : ∀ p ∈ L, p) (hin : ∀ p ∈ Li, S.tr.get p.1 = some p.2 ∧ p.1 < S.nx) (hd : Li.Pairwise fun p q => p.1 ≠ q.1)
 (hids : Li.map (·.1) = ids) (hos : Li.map (·.2) = os0.map (rnO ρ (fJ ids S.nx))) (ha : args = rnL ρ (fJ ids S.nx) args0) (hn : ids.length ≤ n1) (hjs : js.Nodup) :
 XCall (σ := σ) P g args S fun u H' => u = rn ρ (fJ ids S.nx) v0 ∧ (js ≠ [] → Turned Li S H' (dK ρ (fJ ids S.nx) js os1)) ∧ (ids = [] → Kept S.nx S H') ∧ S.nx + (n1 - ids.length) = H'.nx ∧ ∀ p ∈ dK ρ (fJ ids S.nx) js os1, H'.tr.get p.1 = some p.2 ∧ p.1 < H'.nx := by
 subst ha
 have hr := run
 unfold kJ at hr
 split at hr
 ·rename_i v K L' hc
  split at hr
  ·rename_i l hl
   obtain ⟨w1, n, t1⟩ := K
   simp only [Option.some.injEq, Prod.mk.injEq] at hr
   obtain ⟨rfl, rfl, rfl, rfl⟩ := hr
   obtain ⟨hw, hac⟩ := hcall _ _ _ _ _ _ hc hL
   simp only at hw
   subst hw
   have hlen : os0.length = ids.length := by
    have h1 := congrArg List.length hos
    have h2 := congrArg List.length hids
    simp at h1 h2; omega
   have hnd : ids.Nodup := by
    rw [← hids]
    exact (List.pairwise_map.2 hd)
   have hmem : ∀ i ∈ ids, ∃ o, (i, o) ∈ Li := by
    intro i hi
    rw [← hids] at hi
    obtain ⟨p, hp, rfl⟩ := List.mem_map.1 hi
    exact ⟨p.2, hp⟩
   have hlt : ∀ i ∈ ids, i < S.nx := fun i hi => by
    obtain ⟨o, ho⟩ := hmem i hi
    exact (hin _ ho).2
   have hinj : ∀ i j, fJ ids S.nx i = fJ ids S.nx j → i = j := fun i j h => aAv hnd hlt h
   have h0 : ∀ j o, (oH os0 0 .nil).get j = some o → j < ids.length := by
    intro j o h
    rw [vB, if_neg (by omega)] at h
    rcases Nat.lt_or_ge j os0.length with hj | hj
    ·omega
    ·rw [List.getElem?_eq_none (by omega)] at h; simp [Tr.get_nil] at h
   have hobj : ∀ j (h : j < ids.length), ∃ o, (oH os0 0 .nil).get j = some o ∧ S.tr.get ids[j] = some (rnO ρ (fJ ids S.nx) o) := by
    intro j hj
    have hj0 : j < os0.length := by omega
    have hjL : j < Li.length := by have := congrArg List.length hids; simp at this; omega
    refine ⟨os0[j], ?_, ?_⟩
    ·rw [vB, if_neg (by omega)]
     simp [hj0]
    ·have e1 : ids[j] = (Li[j]).1 := by simp [← hids]
     have e2 : rnO ρ (fJ ids S.nx) os0[j] = (Li[j]).2 := by
      have h1 : (Li.map (·.2))[j]? = (os0.map (rnO ρ (fJ ids S.nx)))[j]? := by rw [hos]
      simp [hj0, hjL] at h1
      exact h1.symm
     rw [e1, e2]
     exact (hin _ (List.getElem_mem hjL)).1
   obtain ⟨hjl, hget⟩ := vW hl
   have hmg : ∀ p ∈ dK ρ (fJ ids S.nx) js l, (mrg ρ (fJ ids S.nx) t1 n S.tr).get p.1 = some p.2 ∧ p.1 < S.nx + (n - ids.length) ∧ (ids.length ≤ 0 ∨ True) ∧ (AM.ids Li p.1 ∨ S.nx ≤ p.1) := by
    intro p hp
    obtain ⟨k, j, o, h1, h2, rfl⟩ := pT hp
    obtain ⟨h3, h4⟩ := hget k j o h1 h2
    simp only at h3 h4
    refine ⟨?_, ?_, .inr trivial, ?_⟩
    ·rw [yY ρ (fJ ids S.nx) t1 S.tr n (fun a b _ _ => hinj a b) j h4, h3]; rfl
    ·rcases Nat.lt_or_ge j ids.length with hj | hj
     ·simp only [fL hj]; have := hlt _ (List.getElem_mem hj); omega
     ·simp only [iV hj]; omega
    ·rcases Nat.lt_or_ge j ids.length with hj | hj
     ·obtain ⟨o', ho'⟩ := hmem _ (List.getElem_mem hj)
      exact .inl ⟨_, ho', by simp only [fL hj]⟩
     ·exact .inr (by simp only [iV hj]; omega)
   have hold : ∀ j, j < S.nx → ¬ AM.ids Li j → (mrg ρ (fJ ids S.nx) t1 n S.tr).get j = S.tr.get j := by
    intro j hj hni
    refine aEi _ _ _ _ _ _ fun k hk e => ?_
    rcases Nat.lt_or_ge k ids.length with hk' | hk'
    ·rw [fL hk'] at e
     obtain ⟨o, ho⟩ := hmem _ (List.getElem_mem hk')
     exact hni ⟨_, ho, e⟩
    ·rw [iV hk'] at e; omega
   refine ⟨_, _, ?_, ?_, ACalls.frame (σ0 := σ0) (σ := σ) ρ hρ S hac hnd hlt hn h0 hobj⟩
   ·refine ⟨rfl, fun hne => ?_, fun he => ?_, rfl, fun p hp => ?_⟩
    ·refine ⟨rfl, hold, fun j hj _ => by simp only; omega, fun p hp => ?_, tO hinj hjs, ?_⟩
     ·obtain ⟨q1, q2, _, q3⟩ := hmg p hp
      exact ⟨q1, q2, q3⟩
     ·cases js with
      | nil => exact absurd rfl hne
      | cons j r =>
       cases l with
       | nil => simp at hjl
       | cons o os => exact ⟨_, List.mem_cons_self ..⟩
    ·refine ⟨rfl, by simp only; omega, fun j hj => hold j hj ?_⟩
     rintro ⟨p, hp, _⟩
     have : Li = [] := by
      cases Li with
      | nil => rfl
      | cons a b => rw [he] at hids; simp at hids
     rw [this] at hp; cases hp
    ·obtain ⟨q1, q2, _⟩ := hmg p hp
     exact ⟨q1, q2⟩
   ·rfl
  ·cases hr
 ·cases hr
end
end Go.AM
namespace Go.AM
open Go.RowKit
def Tr.mapT {α β : Type} (f : α → β) : Tr α → Tr β
 | .nil => .nil
 | .node v l r => .node (v.map f) (l.mapT f) (r.mapT f)
theorem Tr.get_mapT {α β : Type} (f : α → β) : ∀ (t : Tr α) (i : Nat), (t.mapT f).get i = (t.get i).map f
 | .nil, i => rfl
 | .node v l r, i => by
  simp only [Tr.mapT, Tr.get_node, cond_eq_ite, Nat.beq_eq]
  split
  ·rfl
  ·split
   ·exact Tr.get_mapT f l _
   ·exact Tr.get_mapT f r _
def kU (ρ : Nat → Value) (S : AH) : AH := { S with tr := S.tr.mapT (rnO ρ id) }
theorem iK {ρ : Nat → Value} {S : AH} {j : Nat} {o : AObj} (h : S.tr.get j = some o) : (kU ρ S).tr.get j = some (rnO ρ id o) := by
 unfold kU; simp only; rw [Tr.get_mapT, h]; rfl
def scA (n : Nat) (a : Addr) : Bool := Nat.beq (a.block % 2) 0 || Nat.blt (a.block / 2) n
mutual
def scV (n : Nat) : Value → Bool
 | .pointer (some a) => scA n a
 | .slice (some a) _ _ => scA n a
 | .map (some r) => Nat.beq (r % 2) 0 || Nat.blt (r / 2) n
 | .func _ ⟨a⟩ ⟨b⟩ => scL n a && scL n b
 | .iface _ v => scV n v
 | .agg ⟨a⟩ => scL n a
 | .tuple ⟨a⟩ => scL n a
 | _ => true
def scL (n : Nat) : List Value → Bool
 | [] => true
 | v :: r => scV n v && scL n r
end
def scE (n : Nat) : List (Value × Value × Nat) → Bool
 | [] => true
 | e :: r => scV n e.1 && (scV n e.2.1 && scE n r)
def scO (n : Nat) : AObj → Bool
 | .cells cs _ _ => scL n cs
 | .map es _ => scE n es
 | .iter _ _ => true
section
variable {ρ : Nat → Value} {n : Nat} {ι : Nat → Nat}
theorem aKi (hι : ∀ j, j < n → ι j = j) {a : Addr} (h : scA n a = true) : rnA ι a = rnA id a := by
 unfold rnA
 unfold scA at h
 rcases Bool.or_eq_true_iff.1 h with h | h
 ·rw [h]; rfl
 ·have := hι _ (Nat.le_of_ble_eq_true h)
  rw [this]; rfl
mutual
theorem zN (hι : ∀ j, j < n → ι j = j) : ∀ v : Value, scV n v = true → rn ρ ι v = rn ρ id v
 | .bool b, _ => by rw [rn, rn]
 | .int k m, _ => by rw [rn, rn]
 | .float k m, _ => by rw [rn, rn]
 | .complex k m m', _ => by rw [rn, rn]
 | .string s, _ => by rw [rn, rn]
 | .pointer none, _ => by rw [rn, rn]
 | .pointer (some a), h => by rw [rn, rn, aKi hι (by simpa only [scV] using h)]
 | .slice none l c, _ => by rw [rn, rn]
 | .slice (some a) l c, h => by rw [rn, rn, aKi hι (by simpa only [scV] using h)]
 | .map none, _ => by rw [rn, rn]
 | .map (some r), h => by
  rw [rn, rn]
  unfold rnB
  simp only [scV] at h
  rcases Bool.or_eq_true_iff.1 h with h | h
  ·rw [h]; rfl
  ·have := hι _ (Nat.le_of_ble_eq_true h)
   rw [this]; rfl
 | .chan none, _ => by rw [rn, rn]
 | .chan (some r), _ => by rw [rn, rn]
 | .func fn ⟨a⟩ ⟨b⟩, h => by
  simp only [scV, Bool.and_eq_true] at h
  rw [rn, rn, rM hι a h.1, rM hι b h.2]
 | .nilFunc, _ => by rw [rn, rn]
 | .iface t v, h => by rw [rn, rn, zN hι v (by simpa only [scV] using h)]
 | .nilIface, _ => by rw [rn, rn]
 | .agg ⟨a⟩, h => by rw [rn, rn, rM hι a (by simpa only [scV] using h)]
 | .tuple ⟨a⟩, h => by rw [rn, rn, rM hι a (by simpa only [scV] using h)]
theorem rM (hι : ∀ j, j < n → ι j = j) : ∀ l : List Value, scL n l = true → rnL ρ ι l = rnL ρ id l
 | [], _ => by rw [rnL, rnL]
 | v :: r, h => by
  simp only [scL, Bool.and_eq_true] at h
  rw [rnL, rnL, zN hι v h.1, rM hι r h.2]
end
theorem aLn (hι : ∀ j, j < n → ι j = j) : ∀ l : List (Value × Value × Nat), scE n l = true → l.map (fun e => (rn ρ ι e.1, rn ρ ι e.2.1, e.2.2)) = l.map (fun e => (rn ρ id e.1, rn ρ id e.2.1, e.2.2))
 | [], _ => rfl
 | e :: r, h => by
  simp only [scE, Bool.and_eq_true] at h
  rw [List.map_cons, List.map_cons, zN hι _ h.1, zN hι _ h.2.1, aLn hι r h.2.2]
theorem wG (hι : ∀ j, j < n → ι j = j) : ∀ o : AObj, scO n o = true → rnO ρ ι o = rnO ρ id o
 | .cells cs _ _, h => by rw [rnO, rnO, rM hι cs h]
 | .map es _, h => by rw [rnO, rnO, aLn hι es h]
 | .iter _ _, _ => by rw [rnO, rnO]
end
section
variable {P : Program} {σ0 σ : Sg}
theorem ACalls.pull {g : FuncId} {args : List Value} {S S' : AH} {v : Value} (ρ : Nat → Value) (hρ : Fits σ σ0 ρ) (hw : S'.w0 = S.w0) (hn : S.nx ≤ S'.nx)
 (hc : WF S → XCall (σ := σ) P g (rnL ρ id args) (kU ρ S) fun u K => ∃ ι : Nat → Nat, (∀ j, j < S.nx → ι j = j) ∧ (∀ j, S'.nx ≤ j → K.nx ≤ ι j) ∧ (∀ j, j < S'.nx → ι j < K.nx) ∧ (∀ i j, i < S'.nx → j < S'.nx → ι i = ι j → i = j) ∧ u = rn ρ ι v ∧
  ∀ j o, S'.tr.get j = some o → j < S'.nx ∧ K.tr.get (ι j) = some (rnO ρ ι o)) :
 ACalls (σ := σ0) P g args S fun u K => u = v ∧ K = S' := by
 intro π φ args' w hv hR
 obtain ⟨u, K, ⟨ι, i1, i2, i3, i4, rfl, i5⟩, kw, hcall⟩ := hc (@Rel.wf σ0 π _ _ _ hR)
 have hφid : ∀ j : Nat, φ[j]? = φ[id j]? := fun _ => rfl
 have R0 : Rel (σ := σ) φ (kU ρ S) w := by
  refine @Rel.mk σ π φ (kU ρ S) w (@Rel.below σ0 π φ S w hR) (@Rel.len σ0 π φ S w hR) ?_ ?_ (@Rel.pin σ0 π φ S w hR) (@Rel.lt σ0 π φ S w hR)
  ·intro j o hj
   unfold kU at hj
   simp only at hj
   rw [Tr.get_mapT] at hj
   obtain ⟨o1, h1, rfl⟩ := Option.map_eq_some_iff.1 hj
   obtain ⟨p, r1, r2, r3⟩ := @Rel.obj σ0 π _ _ _ hR _ _ h1
   exact ⟨p, r1, r2, aGn (σ0 := σ0) (σ := σ) hρ hφid r3⟩
  ·intro i j o o' p q h1 h2 h3 h4 he
   unfold kU at h1 h2
   simp only at h1 h2
   rw [Tr.get_mapT] at h1 h2
   obtain ⟨o1, k1, _⟩ := Option.map_eq_some_iff.1 h1
   obtain ⟨o2, k2, _⟩ := Option.map_eq_some_iff.1 h2
   exact @Rel.inj σ0 π _ _ _ hR _ _ _ _ p q k1 k2 h3 h4 he
 have V0 : VRs (σ := σ) φ (rnL ρ id args) args' := aIz (σ0 := σ0) (σ := σ) hρ hφid hv
 refine (hcall π φ args' w V0 R0).mono ?_
 rintro e w' ⟨φ1, u, v', K', p1, rfl, hvr, R1, hwk, rfl, rfl⟩
 have hlen : φ.length = S.nx := @Rel.len σ0 π _ _ _ hR
 have hlen1 : φ1.length = K'.nx := @Rel.len σ π _ _ _ R1
 let φ' : List Place := (List.range S'.nx).map fun j => φ1.getD (ι j) ⟨0, 0, 0, 0⟩
 have hφ' : ∀ j : Nat, φ'[j]? = φ1[ι j]? := by
  intro j
  show ((List.range S'.nx).map _)[j]? = _
  rw [List.getElem?_map]
  rcases Nat.lt_or_ge j S'.nx with hj | hj
  ·have h3 := i3 j hj
   rw [List.getElem?_range hj]
   simp only [Option.map_some, List.getD_eq_getElem?_getD]
   rw [List.getElem?_eq_getElem (by omega)]; rfl
  ·have h2 := i2 j hj
   rw [List.getElem?_eq_none (by simpa using hj), List.getElem?_eq_none (by omega)]; rfl
 have hlen' : φ'.length = S'.nx := by simp [φ']
 have pre : φ <+: φ' := by
  have hle : φ.length ≤ φ'.length := by omega
  rw [List.prefix_iff_eq_take]
  apply List.ext_getElem?
  intro j
  rw [List.getElem?_take]
  rcases Nat.lt_or_ge j φ.length with hj | hj
  ·rw [if_pos hj, hφ' j, i1 j (by omega)]
   obtain ⟨t, rfl⟩ := p1
   rw [List.getElem?_append_left hj]
  ·rw [if_neg (by omega), List.getElem?_eq_none hj]
 refine ⟨φ', v, v', S', pre, rfl, aBb (σ0 := σ0) (σ := σ) hρ hφ' _ _ hvr, ?_, hw, rfl, rfl⟩
 have bel : Below S.w0.heap.size S.w0 w' := by
  have := @Rel.below σ π φ1 K' w' R1
  rw [hwk] at this
  exact this
 refine @Rel.mk σ0 π _ _ _ (by rw [hw]; exact bel) hlen' ?_ ?_ ?_ ?_
 ·intro j o hj
  obtain ⟨hjn, hg⟩ := i5 j o hj
  obtain ⟨p, r1, r2, r3⟩ := @Rel.obj σ π _ _ _ R1 _ _ hg
  refine ⟨p, by rw [hφ']; exact r1, ?_, aFe (σ0 := σ0) (σ := σ) hρ hφ' r3⟩
  rw [hw]
  rw [hwk] at r2
  exact r2
 ·intro i j o o' p q h1 h2 h3 h4 he
  obtain ⟨hi, g1⟩ := i5 i o h1
  obtain ⟨hj, g2⟩ := i5 j o' h2
  rw [hφ'] at h3 h4
  exact i4 i j hi hj (@Rel.inj σ π _ _ _ R1 _ _ _ _ p q g1 g2 h3 h4 he)
 ·intro b x hb
  obtain ⟨q1, q2⟩ := @Rel.pin σ π _ _ _ R1 b x hb
  exact ⟨q1, fun i p hp => q2 _ p (by rw [← hφ']; exact hp)⟩
 ·intro i p hp
  rw [hφ'] at hp
  exact @Rel.lt σ π _ _ _ R1 _ p hp
end
end Go.AM
namespace Go.AM
open Go.RowKit
section
variable {P : Program} {σ : Sg}
theorem ACalls.less {g : FuncId} {args : List Value} {H K K' : AH} {v : Value} (h : ACalls P g args H fun u K0 => u = v ∧ K0 = K) (h0 : K'.w0 = K.w0) (hn : K'.nx = K.nx) (hg : ∀ i o, K'.tr.get i = some o → K.tr.get i = some o) : ACalls P g args H fun u K0 => u = v ∧ K0 = K' := by
 intro π φ args' w hv hR
 refine (h π φ args' w hv hR).mono ?_
 rintro e w' ⟨φ', u, v', K0, p1, rfl, q1, q2, q3, rfl, rfl⟩
 exact ⟨φ', _, v', K', p1, rfl, q1, q2.less h0 hn hg, h0.trans q3, rfl, rfl⟩
def yZ (n : Nat) : List Nat → List AObj → Tr AObj → Tr AObj
 | j :: js, o :: os, t => (yZ n js os t).set (n + j) (some (rnO phs (fun k => n + k) o))
 | _, _, t => t
theorem wZ (n : Nat) : ∀ (js : List Nat) (os : List AObj) (t : Tr AObj) (i : Nat) (o : AObj), (yZ n js os t).get i = some o → t.get i = some o ∨ ∃ p ∈ dK phs (fun k => n + k) js os, p = (i, o)
 | j :: js, o' :: os, t, i, o, h => by
  have h : ((yZ n js os t).set (n + j) (some (rnO phs (fun k => n + k) o'))).get i = some o := h
  rw [Tr.get_set] at h
  by_cases e : i = n + j
  ·rw [if_pos e] at h; cases h; subst e
   exact .inr ⟨_, List.mem_cons_self .., rfl⟩
  ·rw [if_neg e] at h
   rcases wZ n js os t i o h with q | ⟨p, q1, q2⟩
   ·exact .inl q
   ·exact .inr ⟨p, List.mem_cons_of_mem _ q1, q2⟩
 | [], _, t, i, o, h => .inl h
 | _ :: _, [], t, i, o, h => .inl h
def aEk (S : AH) (n1 : Nat) (js : List Nat) (os : List AObj) : AH := ⟨S.w0, S.nx + n1, yZ S.nx js os S.tr⟩
theorem aJj (N : Nat) : fJ [] N = fun k => N + k := by
 funext k
 rw [iV (by simp)]; simp
theorem ACalls.paste {cc : cE} {g : FuncId} {args : List Value} {L : List Prop} {js : List Nat} {n1 : Nat} {v0 : Value} {os1 : List AObj} (hcc : bY P cc) (S : AH) (run : ∀ w0 : World, kJ js (cc g args ⟨w0, 0, .nil⟩) = some (v0, n1, os1, L)) (hL : ∀ p ∈ L, p) (ha : ∀ ι, rnL phs ι args = args) (hjs : js.Nodup) :
 ACalls P g args S fun u K => u = rn phs (fun k => S.nx + k) v0 ∧ K = aEk S n1 js os1 := by
 obtain ⟨u, K, ⟨h1, _, h3, h4, h5⟩, hw, hc⟩ := XCall.frame (σ0 := σ) (σ := σ) (Li := []) (ids := []) (os0 := []) (S := S) phs Fits.same hcc (run S.w0) hL (fun p hp => by cases hp) List.Pairwise.nil rfl rfl (ha _).symm (Nat.zero_le _) hjs
 rw [aJj] at h1 h5
 subst h1
 intro π φ args' w hv hR
 have wf := hR.wf
 refine ACalls.less (K' := aEk S n1 js os1) hc hw.symm ?_ ?_ π φ args' w hv hR
 ·show S.nx + n1 = _
  rw [← h4]; simp
 ·intro i o hi
  rcases wZ S.nx js os1 S.tr i o hi with q | ⟨p, q1, rfl⟩
  ·rw [(h3 rfl).get i (wf i o q)]
   exact q
  ·exact (h5 _ q1).1
end
end Go.AM
namespace Go.AM
open Go.RowKit
def jY : Value → Bool
 | .int _ _ => true
 | .bool _ => true
 | .string _ => true
 | .chan (some r) => Nat.beq (r % 2) 1
 | _ => false
section
variable [σ : Sg]
def lA : Value → Value
 | .chan (some r) => bif Nat.beq (r % 2) 1 then Sg.at σ (r / 2) else .chan (some r)
 | v => v
theorem zG {φ : List Place} {x x' : Value} (hs : jY x = true) (h : VR φ x x') : x' = lA x := by
 cases x with
 | int k n => cases h; rfl
 | bool b => cases h; rfl
 | string s => cases h; rfl
 | chan r =>
  cases r with
  | none => simp [jY] at hs
  | some r =>
   have hr : Nat.beq (r % 2) 1 = true := by simpa only [jY] using hs
   have : r % 2 = 1 := Nat.eq_of_beq_eq_true hr
   obtain ⟨k, rfl⟩ : ∃ k, r = 2 * k + 1 := ⟨r / 2, by omega⟩
   have e := (Fits.same φ k x').1 h
   subst e
   simp only [lA, hr, cond_true]
   congr 1; omega
 | _ => simp [jY] at hs
theorem xV {φ : List Place} {x : Value} (hs : jY x = true) : VR φ x (lA x) := by
 cases x with
 | int k n => exact .int _ _
 | bool b => exact .bool _
 | string s => exact .string _
 | chan r =>
  cases r with
  | none => simp [jY] at hs
  | some r =>
   have hr : Nat.beq (r % 2) 1 = true := by simpa only [jY] using hs
   have : r % 2 = 1 := Nat.eq_of_beq_eq_true hr
   obtain ⟨k, rfl⟩ : ∃ k, r = 2 * k + 1 := ⟨r / 2, by omega⟩
   simp only [lA, hr, cond_true]
   have e : (2 * k + 1) / 2 = k := by omega
   rw [e]; exact .ph k
 | _ => simp [jY] at hs
theorem pE {x : Value} (hs : jY x = true) : VR (σ := noSg) [] (lA x) (lA x) := by
 cases x with
 | int k n => exact VR.int (σ := noSg) _ _
 | bool b => exact VR.bool (σ := noSg) _
 | string s => exact VR.string (σ := noSg) _
 | chan r =>
  cases r with
  | none => simp [jY] at hs
  | some r =>
   have hr : Nat.beq (r % 2) 1 = true := by simpa only [jY] using hs
   simp only [lA, hr, cond_true]
   rcases Sg.kind σ (r / 2) with ⟨c, n, e⟩ | ⟨s, e⟩ <;> rw [e]
   ·exact VR.int (σ := noSg) _ _
   ·exact VR.string (σ := noSg) _
 | _ => simp [jY] at hs
end
theorem aDv [σ : Sg] {x : Value} (hs : jY x = true) : (∃ k n, lA x = .int k n) ∨ (∃ b, lA x = .bool b) ∨ ∃ s, lA x = .string s := by
 cases x with
 | int k n => exact .inl ⟨_, _, rfl⟩
 | bool b => exact .inr (.inl ⟨_, rfl⟩)
 | string s => exact .inr (.inr ⟨_, rfl⟩)
 | chan r =>
  cases r with
  | none => simp [jY] at hs
  | some r =>
   have hr : Nat.beq (r % 2) 1 = true := by simpa only [jY] using hs
   simp only [lA, hr, cond_true]
   rcases Sg.kind σ (r / 2) with ⟨c, n, e⟩ | ⟨s, e⟩
   ·exact .inl ⟨_, _, e⟩
   ·exact .inr (.inr ⟨_, e⟩)
 | _ => simp [jY] at hs
theorem xZ [σ : Sg] {x v' : Value} {ψ : List Place} (hs : jY x = true) (h : VR (σ := noSg) ψ (lA x) v') : v' = lA x := by
 rcases aDv hs with ⟨k, n, e⟩ | ⟨b, e⟩ | ⟨s, e⟩ <;> rw [e] at h ⊢ <;> cases h <;> rfl
def aBp : Value → Value → Bool
 | .int k n, .int k' n' => decide (k = k') && decide (n = n')
 | .bool b, .bool b' => b == b'
 | .chan (some r), .chan (some r') => Nat.beq r r'
 | .string s, .string s' => decide (s.data.toList = s'.data.toList)
 | _, _ => false
theorem zR {x y : Value} (h : aBp x y = true) : x = y := by
 unfold aBp at h
 split at h
 ·simp only [Bool.and_eq_true, decide_eq_true_eq] at h; rw [h.1, h.2]
 ·rw [eq_of_beq h]
 ·rw [Nat.eq_of_beq_eq_true h]
 ·have h := of_decide_eq_true h
  congr 1
  exact ByteArray.ext (Array.toList_inj.1 h)
 ·cases h
structure OE where
 op : BinOp
 x : Value
 y : Value
 v : Value
def opEq : BinOp → BinOp → Bool := fun a b => decide (a = b)
def obL (l : List OE) (op : BinOp) (t : TypeId) (x y : Value) : Option Value :=
 match l with
 | [] => none
 | e :: r => bif opEq e.op op && (aBp e.x x && aBp e.y y) then some e.v else obL r op t x y
structure OU where
 op : UnOp
 x : Value
 v : Value
def ouL (l : List OU) (op : UnOp) (x : Value) : Option Value :=
 match l with
 | [] => none
 | e :: r => bif decide (e.op = op) && aBp e.x x then some e.v else ouL r op x
section
variable [σ : Sg]
def OE.Ok {P : Program} (E : Env (σ := noSg) P) (e : OE) : Prop := jY e.x = true ∧ jY e.y = true ∧ jY e.v = true ∧ ∀ t, cT (σ := noSg) E e.op t (lA e.x) (lA e.y) = some (lA e.v)
def OU.Ok (e : OU) : Prop := jY e.x = true ∧ jY e.v = true ∧ aun e.op (lA e.x) = some (lA e.v)
theorem aLw {P : Program} (E : Env (σ := noSg) P) : ∀ (l : List OE), (∀ e ∈ l, e.Ok E) → ∀ (φ : List Place) op t x y v x' y', obL l op t x y = some v → VR φ x x' → VR φ y y' → ∀ (p q : Operand) (w : World), ∃ v', VR φ v v' ∧ (do eqGuard op t p q x' y'; binOp op t x' y').run P w = .ok v' w
 | [], _, φ, op, t, x, y, v, x', y', h, _, _, p, q, w => by cases h
 | e :: r, hl, φ, op, t, x, y, v, x', y', h, hx, hy, p, q, w => by
  unfold obL at h
  cases hc : (opEq e.op op && (aBp e.x x && aBp e.y y)) with
  | false => rw [hc, cond_false] at h; exact aLw E r (fun e he => hl e (List.mem_cons_of_mem _ he)) φ op t x y v x' y' h hx hy p q w
  | true =>
   rw [hc, cond_true] at h
   cases h
   simp only [Bool.and_eq_true] at hc
   obtain ⟨h1, h2, h3⟩ := hc
   have h1 : e.op = op := of_decide_eq_true h1
   have h2 := zR h2
   have h3 := zR h3
   subst h1 h2 h3
   obtain ⟨o1, o2, o3, o4⟩ := hl e (List.mem_cons_self ..)
   obtain rfl := zG o1 hx
   obtain rfl := zG o2 hy
   obtain ⟨v', q1, q2⟩ := aAk (σ := noSg) E (φ := []) (pE o1) (pE o2) (o4 t) p q w
   have e2 : v' = lA e.v := xZ o3 q1
   subst e2
   exact ⟨_, xV o3, q2⟩
theorem aNl {P : Program} : ∀ (l : List OU), (∀ e ∈ l, e.Ok) → ∀ (φ : List Place) op x v x', ouL l op x = some v → VR φ x x' → ∀ (w : World), ∃ v', VR φ v v' ∧ (Op.unary op x').run P w = .ok v' w
 | [], _, φ, op, x, v, x', h, _, w => by cases h
 | e :: r, hl, φ, op, x, v, x', h, hx, w => by
  unfold ouL at h
  cases hc : (decide (e.op = op) && aBp e.x x) with
  | false => rw [hc, cond_false] at h; exact aNl r (fun e he => hl e (List.mem_cons_of_mem _ he)) φ op x v x' h hx w
  | true =>
   rw [hc, cond_true] at h
   cases h
   simp only [Bool.and_eq_true] at hc
   obtain ⟨h1, h2⟩ := hc
   have h1 : e.op = op := of_decide_eq_true h1
   have h2 := zR h2
   subst h1 h2
   obtain ⟨o1, o2, o3⟩ := hl e (List.mem_cons_self ..)
   obtain rfl := zG o1 hx
   obtain ⟨v', q1, q2⟩ := aNp (σ := noSg) (P := P) (φ := []) (pE o1) o3 w
   have e2 : v' = lA e.v := xZ o2 q1
   subst e2
   exact ⟨_, xV o2, q2⟩
end
def Env.lists {P : Program} [σ : Sg] (E : Env (σ := noSg) P) (lb : List OE) (lu : List OU) (hb : ∀ e ∈ lb, e.Ok E) (hu : ∀ e ∈ lu, e.Ok) : Env P := Env.with E (obL lb) (aLw E lb hb) (ouL lu) (aNl lu hu)
end Go.AM
namespace Go.AM
open Go.RowKit
def lV : Value → Bool
 | .int _ _ => true
 | .string _ => true
 | _ => false
theorem aOv {v : Value} (h : lV v = true) : Plain v := by
 cases v with
 | int k n => exact Plain.int _ _
 | string s => exact Plain.string _
 | _ => simp [lV] at h
def aR : List Value → Nat → Value
 | [], _ => .int .i64 0
 | v :: _, 0 => v
 | _ :: r, k + 1 => aR r k
theorem fA : ∀ {l : List Value}, l.all lV = true → ∀ k, Plain (aR l k)
 | [], _, k => Plain.int _ _
 | v :: r, h, 0 => by simp only [List.all_cons, Bool.and_eq_true] at h; exact aOv h.1
 | v :: r, h, k + 1 => by simp only [List.all_cons, Bool.and_eq_true] at h; exact fA h.2 k
abbrev sgL (l : List Value) (h : l.all lV = true) : Sg := sgOf (aR l) (fA h)
def fS {P : Program} (E : Env (σ := noSg) P) (lv : List Value) (hv : lv.all lV = true) (lb : List OE) (lu : List OU) (hb : ∀ e ∈ lb, @OE.Ok (sgL lv hv) P E e) (hu : ∀ e ∈ lu, @OU.Ok (sgL lv hv) e) : @Env (sgL lv hv) P := @Env.lists P (sgL lv hv) E lb lu hb hu
theorem XCall.lent {P : Program} (E : Env (σ := noSg) P) {lv : List Value} {hv : lv.all lV = true} {cc : cE} (hcc : bY (σ := sgL lv hv) P cc) {g : FuncId} {L : World → List Prop} {args0 args : List Value} {os0 os1 : List AObj} {ids js : List Nat} {n1 : Nat} {v0 : Value} {Li : OL} {S : AH}
 (run : ∀ w0 : World, kJ js (cc g args0 ⟨w0, ids.length, oH os0 0 .nil⟩) = some (v0, n1, os1, L w0)) (hL : ∀ p ∈ L S.w0, p) (hin : ∀ p ∈ Li, S.tr.get p.1 = some p.2 ∧ p.1 < S.nx) (hd : Li.Pairwise fun p q => p.1 ≠ q.1)
 (hids : Li.map (·.1) = ids) (hos : Li.map (·.2) = os0.map (rnO (aR lv) (fJ ids S.nx))) (ha : args = rnL (aR lv) (fJ ids S.nx) args0) (hn : ids.length ≤ n1) (hjs : js.Nodup) (hne : js ≠ []) :
 XCall (σ := noSg) P g args S fun u H' => ∃ Lo, Turned Li S H' Lo ∧ u = rn (aR lv) (fJ ids S.nx) v0 ∧ Lo = dK (aR lv) (fJ ids S.nx) js os1 :=
 (XCall.frame (σ0 := sgL lv hv) (σ := noSg) (aR lv) (Fits.plain (fA hv)) hcc (run S.w0) hL hin hd hids hos ha hn hjs).mono fun u H' _ ⟨h1, h2, _⟩ => ⟨_, h2 hne, h1, rfl⟩
end Go.AM
