/-
  The walks through the codec, part 3.
-/
import Derived.Test.YteklajiaicmogaaGreatDoorK2
set_option linter.unusedVariables false
set_option linter.unusedSimpArgs false
set_option maxRecDepth 100000
namespace Go.Proofs.YteklajiaicmogaaGreatDoor
open Go Go.AM
/-- numbers written at aAf -/
def wr : List Value → List Nat → List Int → List Value
 | cs, j :: js, n :: ns => wr (cs.set j (.int .i64 n)) js ns
 | cs, _, _ => cs
theorem aDl : ∀ {cs : List Value} {js : List Nat} {ns : List Int} {k j : Nat} {n : Int}, js[k]? = some j → ns[k]? = some n → wr cs (js.take (k + 1)) (ns.take (k + 1)) = (wr cs (js.take k) (ns.take k)).set j (.int .i64 n)
 | cs, a :: js, b :: ns, 0, j, n, h1, h2 => by
  simp only [List.getElem?_cons_zero, Option.some.injEq] at h1 h2
  subst h1 h2
  simp [wr]
 | cs, a :: js, b :: ns, k + 1, j, n, h1, h2 => by
  simp only [List.getElem?_cons_succ] at h1 h2
  simp only [List.take_succ_cons, wr]
  exact aDl h1 h2
 | _, [], _, _, _, _, h, _ => by simp at h
 | _, _ :: _, [], _, _, _, _, h => by simp at h
theorem kN : ∀ (cs : List Value) (js : List Nat) (ns : List Int), (wr cs js ns).length = cs.length
 | cs, j :: js, n :: ns => by rw [wr, kN, List.length_set]
 | cs, [], _ => by rw [wr]; simp
 | cs, _ :: _, [] => by rw [wr]; simp
theorem vC {cs : List Value} {j : Nat} {v : Value} (h : j < cs.length) : cs.take j ++ ([v] ++ cs.drop (j + 1)) = cs.set j v := by
 rw [List.set_eq_take_append_cons_drop, if_pos h]; rfl
def pts (B : Nat) (js : List Nat) : List Value := js.map fun j => .pointer (some ⟨2 * B + 1, j, none⟩)
set_option maxHeartbeats 1000000 in
theorem aRx {S : AH} {N B K a sz m : Nat} {q : ByteArray} {cs : List Value} {js : List Nat} {ns : List Int} {z : List UInt8} (hm : m = js.length) (hl : ns.length = js.length) (hj : ∀ j ∈ js, j < cs.length) (h64 : ∀ n ∈ ns, I64 n) (hs : js.length ≤ 1000) (hq : q.data.toList.length ≤ 1099511627776) (hz : q.data.toList.drop a = ns.flatMap bO ++ z) (hin : ∀ p ∈ rd N q a ++ [(B, AObj.cells cs sz true), (K, AObj.cells (pts B js) 1 true)], S.tr.get p.1 = some p.2 ∧ p.1 < S.nx) (hd : (rd N q a ++ [(B, AObj.cells cs sz true), (K, AObj.cells (pts B js) 1 true)]).Pairwise (fun p q => p.1 ≠ q.1)) : XCall Tryz.prog 57 [.pointer (some ⟨2 * N + 1, 0, none⟩), .slice (some ⟨2 * K + 1, 0, none⟩) m m] S fun u H' => ∃ Lo, Turned (rd N q a ++ [(B, AObj.cells cs sz true), (K, AObj.cells (pts B js) 1 true)]) S H' Lo ∧ (u = .tuple ⟨[]⟩ ∧ Lo = rd N q (a + (ns.flatMap bO).length) ++ [(B, AObj.cells (wr cs js ns) sz true), (K, AObj.cells (pts B js) 1 true)]) := by
 subst hm
 refine cX (E := E) (Li := rd N q a ++ [(B, AObj.cells cs sz true), (K, AObj.cells (pts B js) 1 true)]) (n := 17) (rs := []) (l := [(1, _), (0, _)]) (aQ Tryz.func57 rfl rfl rfl) hin hd rfl ?_
 refine rB <| om rfl <| ll rfl lI <| om rfl <| aB <| aK ?_
 refine bK (σ := Nat) (fun k => js.length - k) (fun k => [(0, .pointer (some ⟨2 * N + 1, 0, none⟩)), (6, .slice (some ⟨2 * K + 1, 0, none⟩) js.length js.length), (7, .int .i64 ((js.length : Nat) : Int)), (8, .int .i64 ((k : Nat) : Int))]) (fun _ => S) (fun _ => fY S (rd N q a ++ [(B, AObj.cells cs sz true), (K, AObj.cells (pts B js) 1 true)])) (fun k => rd N q (a + ((ns.take k).flatMap bO).length) ++ [(B, AObj.cells (wr cs (js.take k) (ns.take k)) sz true), (K, AObj.cells (pts B js) 1 true)]) (fun k => k ≤ js.length ∧ q.data.toList.drop (a + ((ns.take k).flatMap bO).length) = (ns.drop k).flatMap bO ++ z) (0) (⟨Nat.zero_le _, by simpa using hz⟩) pK rfl rfl (List.Sublist.refl _) ?_
 intro k hJ2 t1
 obtain ⟨hk0, hdr⟩ := hJ2
 refine aH ?_
 rcases Nat.lt_or_ge k js.length with hk | hk
 ·obtain ⟨j, hjk⟩ : ∃ j, js[k]? = some j := ⟨_, List.getElem?_eq_getElem hk⟩
  obtain ⟨n, hnk⟩ : ∃ n, ns[k]? = some n := ⟨_, List.getElem?_eq_getElem (by omega)⟩
  have hn := h64 n (List.mem_of_getElem? hnk)
  have hjl := hj j (List.mem_of_getElem? hjk)
  have hP : a + ((ns.take (k + 1)).flatMap bO).length = a + ((ns.take k).flatMap bO).length + (bO n).length := by rw [hG hnk, List.flatMap_append, List.length_append]; simp; omega
  have hdr2 : q.data.toList.drop (a + ((ns.take k).flatMap bO).length) = bO n ++ ((ns.drop (k + 1)).flatMap bO ++ z) := by
   obtain ⟨hk2, rfl⟩ := List.getElem?_eq_some_iff.1 hnk
   rw [hdr, List.drop_eq_getElem_cons hk2, List.flatMap_cons, List.append_assoc]
  refine rA <| ob rfl (by exact aX (by omega)) ?_
  refine tq <| aO rfl <| aJ <| aD <| aH <| aK <| rB <| dP rfl rfl rfl rfl lI fO rfl (by omega) rfl ?_
  refine aV rfl rfl rfl (by exact gC aXm rfl mA (show (pts B js)[0 + k * 1]? = _ by rw [Nat.zero_add, Nat.mul_one, pts, List.getElem?_map, hjk]; rfl)) ?_
  refine oa rfl <| rD <| om rfl <| om rfl <| ot (rd N q (a + ((ns.take k).flatMap bO).length)) (fun u Lo => u = .int .i64 n ∧ Lo = rd N q (a + ((ns.take k).flatMap bO).length + (bO n).length)) aKg oV (fun H hH => yO (hH.have fun p hp => List.mem_append_left _ hp) hn hq hdr2) ?_
  rintro _ _ ⟨rfl, rfl⟩
  refine nc rfl <| dC rfl nM rfl rfl aI rfl rfl uP (vC (by rw [kN]; exact hjl)) (by rw [kN]; exact hjl) nM ?_
  refine aZ <| bA <| aD <| rA <| ob rfl (by exact aY (by omega)) ?_
  refine om rfl <| aZ ?_
  refine cN (k + 1) (show js.length - (k + 1) < js.length - k by omega) ⟨by omega, by rw [hP, ← List.drop_drop, hdr2, List.drop_left]⟩ pK rfl rfl ?_
  rw [hP, aDl hjk hnk]
  exact List.Sublist.refl _
 ·obtain rfl : k = js.length := by omega
  refine rA <| ob rfl (by exact aW (by omega)) ?_
  refine tq <| aG rfl <| bJ <| aR <| aS <| aN <| lZ .nil rfl ?_
  exact fun H hH => ⟨_, hH.turned (Gr.refl _ _) ⟨_, List.Mem.head _⟩, rfl, by rw [List.take_length, ← hl, List.take_length]⟩
set_option maxHeartbeats 1000000 in
theorem aQq {S : AH} {N B K a sz m : Nat} {q : ByteArray} {cs : List Value} {js : List Nat} {ns : List Int} {z : List UInt8} (hm : m = js.length) (hl : ns.length = js.length) (hj : ∀ j ∈ js, j < cs.length) (h64 : ∀ n ∈ ns, I64 n) (hs : js.length ≤ 1000) (hq : q.data.toList.length ≤ 1099511627776) (hz : q.data.toList.drop a = ns.flatMap bO ++ z) (hin : ∀ p ∈ rd N q a ++ [(B, AObj.cells cs sz true), (K, AObj.cells (pts B js) 1 true)], S.tr.get p.1 = some p.2 ∧ p.1 < S.nx) (hd : (rd N q a ++ [(B, AObj.cells cs sz true), (K, AObj.cells (pts B js) 1 true)]).Pairwise (fun p q => p.1 ≠ q.1)) : XCall Tryz.prog 88 [.pointer (some ⟨2 * N + 1, 0, none⟩), .slice (some ⟨2 * K + 1, 0, none⟩) m m] S fun u H' => ∃ Lo, Turned (rd N q a ++ [(B, AObj.cells cs sz true), (K, AObj.cells (pts B js) 1 true)]) S H' Lo ∧ (u = .tuple ⟨[]⟩ ∧ Lo = rd N q (a + (ns.flatMap bO).length) ++ [(B, AObj.cells (wr cs js ns) sz true), (K, AObj.cells (pts B js) 1 true)]) := by
 subst hm
 refine cX (E := E) (Li := rd N q a ++ [(B, AObj.cells cs sz true), (K, AObj.cells (pts B js) 1 true)]) (n := 17) (rs := []) (l := [(1, _), (0, _)]) (aQ Tryz.func88 rfl rfl rfl) hin hd rfl ?_
 refine rB <| om rfl <| ll rfl lI <| om rfl <| aB <| aK ?_
 refine bK (σ := Nat) (fun k => js.length - k) (fun k => [(0, .pointer (some ⟨2 * N + 1, 0, none⟩)), (6, .slice (some ⟨2 * K + 1, 0, none⟩) js.length js.length), (7, .int .i64 ((js.length : Nat) : Int)), (8, .int .i64 ((k : Nat) : Int))]) (fun _ => S) (fun _ => fY S (rd N q a ++ [(B, AObj.cells cs sz true), (K, AObj.cells (pts B js) 1 true)])) (fun k => rd N q (a + ((ns.take k).flatMap bO).length) ++ [(B, AObj.cells (wr cs (js.take k) (ns.take k)) sz true), (K, AObj.cells (pts B js) 1 true)]) (fun k => k ≤ js.length ∧ q.data.toList.drop (a + ((ns.take k).flatMap bO).length) = (ns.drop k).flatMap bO ++ z) (0) (⟨Nat.zero_le _, by simpa using hz⟩) pK rfl rfl (List.Sublist.refl _) ?_
 intro k hJ2 t1
 obtain ⟨hk0, hdr⟩ := hJ2
 refine aH ?_
 rcases Nat.lt_or_ge k js.length with hk | hk
 ·obtain ⟨j, hjk⟩ : ∃ j, js[k]? = some j := ⟨_, List.getElem?_eq_getElem hk⟩
  obtain ⟨n, hnk⟩ : ∃ n, ns[k]? = some n := ⟨_, List.getElem?_eq_getElem (by omega)⟩
  have hn := h64 n (List.mem_of_getElem? hnk)
  have hjl := hj j (List.mem_of_getElem? hjk)
  have hP : a + ((ns.take (k + 1)).flatMap bO).length = a + ((ns.take k).flatMap bO).length + (bO n).length := by rw [hG hnk, List.flatMap_append, List.length_append]; simp; omega
  have hdr2 : q.data.toList.drop (a + ((ns.take k).flatMap bO).length) = bO n ++ ((ns.drop (k + 1)).flatMap bO ++ z) := by
   obtain ⟨hk2, rfl⟩ := List.getElem?_eq_some_iff.1 hnk
   rw [hdr, List.drop_eq_getElem_cons hk2, List.flatMap_cons, List.append_assoc]
  refine rA <| ob rfl (by exact aX (by omega)) ?_
  refine tq <| aO rfl <| aJ <| aD <| aH <| aK <| rB <| dP rfl rfl rfl rfl lI fO rfl (by omega) rfl ?_
  refine aV rfl rfl rfl (by exact gC aXm rfl mA (show (pts B js)[0 + k * 1]? = _ by rw [Nat.zero_add, Nat.mul_one, pts, List.getElem?_map, hjk]; rfl)) ?_
  refine oa rfl <| rD <| om rfl <| om rfl <| ot (rd N q (a + ((ns.take k).flatMap bO).length)) (fun u Lo => u = .int .i64 n ∧ Lo = rd N q (a + ((ns.take k).flatMap bO).length + (bO n).length)) aKg oV (fun H hH => yO (hH.have fun p hp => List.mem_append_left _ hp) hn hq hdr2) ?_
  rintro _ _ ⟨rfl, rfl⟩
  refine nc rfl <| dC rfl nM rfl rfl aI rfl rfl uP (vC (by rw [kN]; exact hjl)) (by rw [kN]; exact hjl) nM ?_
  refine aZ <| bA <| aD <| rA <| ob rfl (by exact aY (by omega)) ?_
  refine om rfl <| aZ ?_
  refine cN (k + 1) (show js.length - (k + 1) < js.length - k by omega) ⟨by omega, by rw [hP, ← List.drop_drop, hdr2, List.drop_left]⟩ pK rfl rfl ?_
  rw [hP, aDl hjk hnk]
  exact List.Sublist.refl _
 ·obtain rfl : k = js.length := by omega
  refine rA <| ob rfl (by exact aW (by omega)) ?_
  refine tq <| aG rfl <| bJ <| aR <| aS <| aN <| lZ .nil rfl ?_
  exact fun H hH => ⟨_, hH.turned (Gr.refl _ _) ⟨_, List.Mem.head _⟩, rfl, by rw [List.take_length, ← hl, List.take_length]⟩
end Go.Proofs.YteklajiaicmogaaGreatDoor
namespace Go.Proofs.YteklajiaicmogaaGreatDoor
open Go Go.AM
def wrV : List Value → List Nat → List Value → List Value
 | cs, j :: js, v :: vs => wrV (cs.set j v) js vs
 | cs, _, _ => cs
theorem aXu : ∀ (cs : List Value) (js : List Nat) (ns : List Int), wr cs js ns = wrV cs js (ns.map (.int .i64))
 | cs, j :: js, n :: ns => by rw [wr, List.map_cons, wrV, aXu]
 | cs, [], _ => by rw [wr, wrV] <;> simp
 | cs, _ :: _, [] => by rw [wr, List.map_nil, wrV] <;> simp
theorem uO : ∀ {cs : List Value} {js : List Nat} {ns : List Value} {k j : Nat} {n : Value}, js[k]? = some j → ns[k]? = some n → wrV cs (js.take (k + 1)) (ns.take (k + 1)) = (wrV cs (js.take k) (ns.take k)).set j n
 | cs, a :: js, b :: ns, 0, j, n, h1, h2 => by
  simp only [List.getElem?_cons_zero, Option.some.injEq] at h1 h2
  subst h1 h2
  simp [wrV]
 | cs, a :: js, b :: ns, k + 1, j, n, h1, h2 => by
  simp only [List.getElem?_cons_succ] at h1 h2
  simp only [List.take_succ_cons, wrV]
  exact uO h1 h2
 | _, [], _, _, _, _, h, _ => by simp at h
 | _, _ :: _, [], _, _, _, _, h => by simp at h
theorem kD : ∀ (cs : List Value) (js : List Nat) (ns : List Value), (wrV cs js ns).length = cs.length
 | cs, j :: js, n :: ns => by rw [wrV, kD, List.length_set]
 | cs, [], _ => by rw [wrV]; simp
 | cs, _ :: _, [] => by rw [wrV]; simp
theorem aEe (f : Nat → Value) : ∀ (js : List Nat) (cs : List Value) (i : Nat), (wrV cs js (js.map f))[i]? = if i < cs.length then (if i ∈ js then some (f i) else cs[i]?) else none
 | [], cs, i => by
  simp only [List.map_nil, wrV, List.not_mem_nil, if_false]
  split
  ·rfl
  ·rename_i h; exact List.getElem?_eq_none (by omega)
 | j :: js, cs, i => by
  simp only [List.map_cons, wrV]
  rw [aEe f js, List.length_set]
  split
  ·rename_i h
   by_cases e : i ∈ js
   ·simp [e]
   ·by_cases e2 : i = j
    ·subst e2; simp [e, h]
    ·simp [e, e2, List.getElem?_set_ne (Ne.symm e2)]
  ·rfl
def aFs (y : Nat → Value) (js : List Nat) (f : Nat → Value) : Nat → Value := fun i => if i ∈ js then f i else y i
theorem aCs {n : Nat} (y : Nat → Value) (js : List Nat) (f : Nat → Value) : wrV (cellsOf n y) js (js.map f) = cellsOf n (aFs y js f) := by
 apply List.ext_getElem?
 intro i
 rw [aEe, aU]
 split
 ·rename_i h
  have hb : Nat.blt i n = true := Nat.ble_eq_true_of_le h
  rw [cB hb, cB hb, aFs]
  split <;> rfl
 ·rename_i h
  rw [List.getElem?_eq_none (by rw [aU]; omega)]
theorem aTm {n : Nat} {zs : List Value} (hz : zs.length = n) {e : Nat → CT} {f : Nat → Value} (he : ∀ i, i < n → (e i).val = f i) : wrV zs (List.range n) ((List.range n).map f) = (dJ n e).map CT.val := by
 apply List.ext_getElem?
 intro i
 rw [aEe, hz, List.getElem?_map]
 split
 ·rename_i h
  rw [jL h, if_pos (List.mem_range.2 h), ← he i h]; rfl
 ·rename_i h
  rw [List.getElem?_eq_none (by rw [pV]; omega)]; rfl
/-! aAf -/
section
variable {X z : List UInt8} {a : Nat} {c : Nat → CT} {its : List Item}
theorem aXl (hz : X.drop a = aA its c ++ z) (k : Nat) : X.drop (a + (aA (its.take k) c).length) = aA (its.drop k) c ++ z := by
 have e : aA its c = aA (its.take k) c ++ aA (its.drop k) c := (bT (List.take_append_drop ..)).symm
 rw [← List.drop_drop, hz, e, List.append_assoc, List.drop_left]
theorem aCa (hz : X.drop a = aA its c ++ z) (k : Nat) (J : List Item) (h : its.drop k = J ++ its.drop (k + J.length)) : X.drop (a + (aA (its.take k) c).length) = aA J c ++ (aA (its.drop (k + J.length)) c ++ z) ∧ a + (aA (its.take k) c).length + (aA J c).length = a + (aA (its.take (k + J.length)) c).length := by
 have e2 : its.take (k + J.length) = its.take k ++ J := by rw [List.take_add, h, List.take_left]
 refine ⟨?_, ?_⟩
 ·rw [aXl hz k, h, ← bT (l1 := J) rfl, List.append_assoc]
 ·rw [e2, ← bT (l1 := its.take k) rfl, List.length_append]; omega
theorem lU (hz : X.drop a = aA its c ++ z) (k : Nat) (js : List Nat) (h : its.drop k = js.map .i ++ its.drop (k + js.length)) : X.drop (a + (aA (its.take k) c).length) = (js.map fun j => iv (c j)).flatMap bO ++ (aA (its.drop (k + js.length)) c ++ z) ∧ a + (aA (its.take k) c).length + ((js.map fun j => iv (c j)).flatMap bO).length = a + (aA (its.take (k + js.length)) c).length := by
 have := aCa hz k (js.map .i) (by rw [List.length_map]; exact h)
 rw [jM, List.length_map] at this
 exact this
theorem pos_b (hz : X.drop a = aA its c ++ z) (k : Nat) (js : List Nat) (h : its.drop k = js.map .b ++ its.drop (k + js.length)) : X.drop (a + (aA (its.take k) c).length) = (js.map fun j => bv (c j)).flatMap iJ ++ (aA (its.drop (k + js.length)) c ++ z) ∧ a + (aA (its.take k) c).length + ((js.map fun j => bv (c j)).flatMap iJ).length = a + (aA (its.take (k + js.length)) c).length := by
 have := aCa hz k (js.map .b) (by rw [List.length_map]; exact h)
 rw [wP, List.length_map] at this
 exact this
theorem oB (hz : X.drop a = aA its c ++ z) (k : Nat) (it : Item) (h : its.drop k = it :: its.drop (k + 1)) : X.drop (a + (aA (its.take k) c).length) = bB it c ++ (aA (its.drop (k + 1)) c ++ z) ∧ a + (aA (its.take k) c).length + (bB it c).length = a + (aA (its.take (k + 1)) c).length := by
 have := aCa hz k [it] h
 rw [pS] at this
 exact this
theorem sI {sub : List Item} {l : List (List CT)} (hz : X.drop a = aL sub l ++ z) {k : Nat} {d : List CT} (hd : l[k]? = some d) : X.drop (a + (aL sub (l.take k)).length) = aA sub (cfn d) ++ (aL sub (l.drop (k + 1)) ++ z) ∧ a + (aL sub (l.take k)).length + (aA sub (cfn d)).length = a + (aL sub (l.take (k + 1))).length := by
 have e : aL sub l = aL sub (l.take k) ++ (aA sub (cfn d) ++ aL sub (l.drop (k + 1))) := by
  rw [← List.append_assoc, dN hd, ← qY, List.take_append_drop]
 refine ⟨?_, ?_⟩
 ·rw [← List.drop_drop, hz, e, List.append_assoc, List.drop_left, List.append_assoc]
 ·rw [← dN hd, List.length_append]; omega
theorem rF (hz : X.drop a = aA (its) c ++ z) (js : List Nat) (h : its = js.map .i) : X.drop a = (js.map fun j => iv (c j)).flatMap bO ++ z ∧ a + ((js.map fun j => iv (c j)).flatMap bO).length = a + (aA its c).length := by
 subst h
 rw [jM] at hz ⊢
 exact ⟨hz, rfl⟩
theorem pos_len (hz : X.drop a = aA its c ++ z) : a + (aA its c).length ≤ X.length ∨ aA its c = [] := by
 rcases Nat.lt_or_ge X.length a with h | h
 ·right
  rw [List.drop_of_length_le (by omega)] at hz
  exact (List.append_eq_nil_iff.1 hz.symm).1
 ·left
  have := congrArg List.length hz
  rw [List.length_drop, List.length_append] at this
  omega
end
theorem nW {N a b j : Nat} {q : ByteArray} {L : OL} (h : ids (rd N q a) j) : ids (rd N q b ++ L) j := by
 obtain ⟨p, hp, e⟩ := h
 simp only [rd, List.mem_singleton] at hp
 subst hp
 exact ⟨_, List.Mem.head _, e⟩
theorem aSg {N a b j : Nat} {q : ByteArray} (h : ids (rd N q a) j) : ids (rd N q b) j := by
 have := nW (b := b) (L := []) h
 rwa [List.append_nil] at this
/-! what has been read -/
/-- the first m cells hold what they shall, the others are as at the start -/
def Got (B : Nat → Prop) (H : AH) (ks : List Kd) (z : Nat → Value) (c : Nat → CT) (m : Nat) (y : Nat → Value) : Prop := (∀ i k, i < m → ks[i]? = some k → CellA B H k (y i) (c i)) ∧ ∀ i, m ≤ i → y i = z i
/-- the content suits the kinds -/
def Wel (ks : List Kd) (c : Nat → CT) : Prop := ∃ A H x, Pts A H ks x c
section
variable {B B' : Nat → Prop} {H H' : AH} {ks : List Kd} {zf : Nat → Value} {c : Nat → CT} {m : Nat} {y : Nat → Value}
theorem Got.gr (h : Got B H ks zf c m y) (g : Gr B H B' H') : Got B' H' ks zf c m y := ⟨fun i k hi hk => CellA.gr g _ _ _ (h.1 i k hi hk), h.2⟩
theorem Got.zero (e : ∀ i, y i = zf i) : Got B H ks zf c 0 y := ⟨fun i k hi => absurd hi (Nat.not_lt_zero _), fun i _ => e i⟩
theorem Wel.iw (w : Wel ks c) {i : Nat} (hk : ks[i]? = some (.int .i64)) : I64 (iv (c i)) := by obtain ⟨A, H, x, p⟩ := w; exact nH p hk
theorem Wel.ic (w : Wel ks c) {i : Nat} (hk : ks[i]? = some (.int .i64)) : c i = .v (.int .i64 (iv (c i))) := by
 obtain ⟨A, H, x, p⟩ := w
 obtain ⟨n, h1, h2, _⟩ := (p i _ hk).int
 rw [h2]; rfl
theorem Wel.bc (w : Wel ks c) {i : Nat} (hk : ks[i]? = some .bool) : c i = .v (.bool (bv (c i))) := by
 obtain ⟨A, H, x, p⟩ := w
 obtain ⟨n, h1, h2⟩ := (p i _ hk).bool
 rw [h2]; rfl
theorem Wel.sc (w : Wel ks c) {i : Nat} (hk : ks[i]? = some .str) : c i = .v (.string ⟨⟨tv (c i)⟩⟩) ∧ (⟨⟨tv (c i)⟩⟩ : ByteArray).size ≤ maxLen := by
 obtain ⟨A, H, x, p⟩ := w
 obtain ⟨n, h1, h2, h3⟩ := (p i _ hk).str
 rw [h2]; exact ⟨rfl, h3⟩
theorem Wel.rc (w : Wel ks c) {i b : Nat} {ks' : List Kd} (hk : ks[i]? = some (.row b ks')) : c i = .row (rv (c i)) := by
 obtain ⟨A, H, x, p⟩ := w
 obtain ⟨l, e, _⟩ := (p i _ hk).row
 rw [e]; rfl
theorem Wel.ok (w : Wel ks c) {i b : Nat} {ks' : List Kd} (hk : ks[i]? = some (.row b ks')) (hf : ks'.all Kd.isFlat = true) : ∀ d ∈ rv (c i), OkC ks' d := by
 obtain ⟨A, H, x, p⟩ := w
 have h := kY p hk
 obtain ⟨l, a, cap, e, _, r⟩ := h.rowD
 cases e
 exact r.okC hf
theorem Wel.sub (w : Wel ks c) {i b : Nat} {ks' : List Kd} (hk : ks[i]? = some (.row b ks')) : ∀ d ∈ rv (c i), Wel ks' (cfn d) := by
 obtain ⟨A, H, x, p⟩ := w
 have h := kY p hk
 obtain ⟨l, a, cap, e, _, r⟩ := h.rowD
 cases e
 intro d hd
 obtain ⟨j, hj, rfl⟩ := List.getElem_of_mem hd
 obtain ⟨_, xs, d', _, _, h1, _, h2⟩ := r.at' j hj
 have e2 : (rv (c i))[j] = d' := by rw [List.getElem?_eq_getElem hj] at h1; exact Option.some.inj h1
 rw [e2]
 obtain ⟨x', c', rfl, rfl, pp⟩ := h2.fn (n := ks'.length) rfl
 refine ⟨A, H, x', fun k kd hk => ?_⟩
 rw [cfn, jL (lt_of_getElem? hk)]
 exact pp k kd hk
theorem Wel.shift {ks2 : List Kd} (w : Wel ks c) (off : Nat) (e : (ks.drop off).take ks2.length = ks2) : Wel ks2 (fun i => c (off + i)) := by
 obtain ⟨A, H, x, p⟩ := w
 exact ⟨A, H, _, nN p off e⟩
theorem Got.nums (h : Got B H ks zf c m y) (w : Wel ks c) {n m' : Nat} (js : List Nat) (e1 : js = List.range' m js.length) (e2 : m + js.length = m') (hk : js.all (fun j => oW ks[j]?) = true) : ∃ y', wr (cellsOf n y) js (js.map fun k => iv (c k)) = cellsOf n y' ∧ Got B H ks zf c m' y' := by
 subst e2
 have hm : ∀ i, i ∈ js ↔ m ≤ i ∧ i < m + js.length := fun i => by rw [e1, List.mem_range'_1, List.length_range']
 refine ⟨aFs y js fun i => .int .i64 (iv (c i)), by rw [aXu, List.map_map]; exact aCs y js fun i => .int .i64 (iv (c i)), fun i k hi hk' => ?_, fun i hi => ?_⟩
 ·simp only [aFs]
  by_cases e : i ∈ js
  ·rw [if_pos e]
   have hk2 := pB (List.all_eq_true.1 hk i e)
   rw [hk2] at hk'
   cases hk'
   rw [w.ic hk2]
   simp only [CellA, iv]
   exact ⟨trivial, _, rfl, yY (w.iw hk2)⟩
  ·rw [if_neg e]
   exact h.1 i k (Nat.lt_of_not_le fun hge => e ((hm i).2 ⟨hge, hi⟩)) hk'
 ·simp only [aFs]
  rw [if_neg (by rw [hm]; omega)]
  exact h.2 i (by omega)
theorem Got.bools (h : Got B H ks zf c m y) (w : Wel ks c) {n m' : Nat} (js : List Nat) (e1 : js = List.range' m js.length) (e2 : m + js.length = m') (hk : js.all (fun j => aWg ks[j]?) = true) : ∃ y', wrV (cellsOf n y) js ((js.map fun k => bv (c k)).map .bool) = cellsOf n y' ∧ Got B H ks zf c m' y' := by
 subst e2
 have hm : ∀ i, i ∈ js ↔ m ≤ i ∧ i < m + js.length := fun i => by rw [e1, List.mem_range'_1, List.length_range']
 refine ⟨aFs y js fun i => .bool (bv (c i)), by rw [List.map_map]; exact aCs y js fun i => .bool (bv (c i)), fun i k hi hk' => ?_, fun i hi => ?_⟩
 ·simp only [aFs]
  by_cases e : i ∈ js
  ·rw [if_pos e]
   have hk2 := aUl (List.all_eq_true.1 hk i e)
   rw [hk2] at hk'
   cases hk'
   rw [w.bc hk2]
   simp only [CellA, bv]
   exact ⟨trivial, _, rfl⟩
  ·rw [if_neg e]
   exact h.1 i k (Nat.lt_of_not_le fun hge => e ((hm i).2 ⟨hge, hi⟩)) hk'
 ·simp only [aFs]
  rw [if_neg (by rw [hm]; omega)]
  exact h.2 i (by omega)
/-- a cell is stored -/
theorem Got.put (h : Got B H ks zf c m y) {k : Kd} {v : Value} {n : Nat} (hk : ks[m]? = some k) (hv : CellA B H k v (c m)) (hn : Nat.blt m n = true) : ∃ y', (cellsOf n y).take m ++ ([v] ++ (cellsOf n y).drop (m + 1)) = cellsOf n y' ∧ Got B H ks zf c (m + 1) y' := by
 refine ⟨gX y m v, jF hn, fun i k' hi hk' => ?_, fun i hi => ?_⟩
 ·by_cases e : i = m
  ·subst e
   rw [hk] at hk'; cases hk'
   rw [iR]; exact hv
  ·rw [mV y v e]
   exact h.1 i k' (by omega) hk'
 ·rw [mV y v (by omega)]
  exact h.2 i (by omega)
theorem Got.txt (h : Got B H ks zf c m y) (w : Wel ks c) {n : Nat} (hk : ks[m]? = some .str) (hn : Nat.blt m n = true) : ∃ y', (cellsOf n y).take m ++ ([.string ⟨⟨tv (c m)⟩⟩] ++ (cellsOf n y).drop (m + 1)) = cellsOf n y' ∧ Got B H ks zf c (m + 1) y' := by
 refine h.put hk ?_ hn
 obtain ⟨e, hs⟩ := w.sc hk
 rw [e]
 simp only [CellA]
 exact ⟨rfl, _, rfl, hs⟩
/-- a struct is stored -/
theorem Got.putr (h : Got B H ks zf c m y) {ks2 : List Kd} {f : Nat → Value} {n m2 : Nat} (p : Pts B H ks2 f (fun i => c (m + i))) (hk : (ks.drop m).take ks2.length = ks2) (h2 : ks2.length = m2) (hn : Nat.ble (m + m2) n = true) : ∃ y', (cellsOf n y).take m ++ (cellsOf m2 f ++ (cellsOf n y).drop (m + (cellsOf m2 f).length)) = cellsOf n y' ∧ Got B H ks zf c (m + m2) y' := by
 subst h2
 refine ⟨aHe y m ks2.length f, aEk hn, fun i k' hi hk' => ?_, fun i hi => ?_⟩
 ·by_cases e : m ≤ i
  ·rw [aUr y f ⟨e, hi⟩]
   have hg : ks2[i - m]? = some k' := by
    rw [← hk, List.getElem?_take, if_pos (by omega), List.getElem?_drop, show m + (i - m) = i by omega]; exact hk'
   have : CellA B H k' (f (i - m)) (c (m + (i - m))) := p (i - m) k' hg
   rwa [show m + (i - m) = i by omega] at this
  ·rw [aFg y f (by omega)]
   exact h.1 i k' (by omega) hk'
 ·rw [aFg y f (by omega)]
  exact h.2 i (by omega)
theorem Got.pts (h : Got B H ks zf c m y) (hm : ks.length = m) : Pts B H ks y c := fun i k hk => h.1 i k (by have := lt_of_getElem? hk; omega) hk
end
end Go.Proofs.YteklajiaicmogaaGreatDoor
namespace Go.Proofs.YteklajiaicmogaaGreatDoor
open Go Go.AM
theorem aOp : E.inf 146 = some ⟨1, 8, some (.pointer none)⟩ := by kernel_rfl
theorem has89 : ∃ fn, E.fn 89 = some fn := ⟨_, aQ Tryz.func89 rfl rfl rfl⟩
set_option maxHeartbeats 1000000 in
theorem aNc {S : AH} {N B K a sz m : Nat} {q : ByteArray} {cs : List Value} {js : List Nat} {ns : List Bool} {z : List UInt8} (hm : m = js.length) (hl : ns.length = js.length) (hj : ∀ j ∈ js, j < cs.length) (hs : js.length ≤ 1000) (hq : q.data.toList.length ≤ 1099511627776) (hz : q.data.toList.drop a = ns.flatMap iJ ++ z) (hin : ∀ p ∈ rd N q a ++ [(B, AObj.cells cs sz true), (K, AObj.cells (pts B js) 1 true)], S.tr.get p.1 = some p.2 ∧ p.1 < S.nx) (hd : (rd N q a ++ [(B, AObj.cells cs sz true), (K, AObj.cells (pts B js) 1 true)]).Pairwise (fun p q => p.1 ≠ q.1)) : XCall Tryz.prog 89 [.pointer (some ⟨2 * N + 1, 0, none⟩), .slice (some ⟨2 * K + 1, 0, none⟩) m m] S fun u H' => ∃ Lo, Turned (rd N q a ++ [(B, AObj.cells cs sz true), (K, AObj.cells (pts B js) 1 true)]) S H' Lo ∧ (u = .tuple ⟨[]⟩ ∧ Lo = rd N q (a + (ns.flatMap iJ).length) ++ [(B, AObj.cells (wrV cs js (ns.map .bool)) sz true), (K, AObj.cells (pts B js) 1 true)]) := by
 subst hm
 refine cX (E := E) (Li := rd N q a ++ [(B, AObj.cells cs sz true), (K, AObj.cells (pts B js) 1 true)]) (n := 24) (rs := []) (l := [(1, _), (0, _)]) (aQ Tryz.func89 rfl rfl rfl) hin hd rfl ?_
 refine rB <| om rfl <| ll rfl aXo <| om rfl <| aB <| aK ?_
 refine bK (σ := Nat) (fun k => js.length - k) (fun k => [(0, .pointer (some ⟨2 * N + 1, 0, none⟩)), (7, .slice (some ⟨2 * K + 1, 0, none⟩) js.length js.length), (8, .int .i64 ((js.length : Nat) : Int)), (9, .int .i64 ((k : Nat) : Int))]) (fun _ => S) (fun _ => fY S (rd N q a ++ [(B, AObj.cells cs sz true), (K, AObj.cells (pts B js) 1 true)])) (fun k => rd N q (a + ((ns.take k).flatMap iJ).length) ++ [(B, AObj.cells (wrV cs (js.take k) ((ns.map .bool).take k)) sz true), (K, AObj.cells (pts B js) 1 true)]) (fun k => k ≤ js.length ∧ q.data.toList.drop (a + ((ns.take k).flatMap iJ).length) = (ns.drop k).flatMap iJ ++ z) (0) (⟨Nat.zero_le _, by simpa using hz⟩) pK rfl rfl (List.Sublist.refl _) ?_
 intro k hJ2 t1
 obtain ⟨hk0, hdr⟩ := hJ2
 refine aH ?_
 rcases Nat.lt_or_ge k js.length with hk | hk
 ·obtain ⟨j, hjk⟩ : ∃ j, js[k]? = some j := ⟨_, List.getElem?_eq_getElem hk⟩
  obtain ⟨n, hnk⟩ : ∃ n, ns[k]? = some n := ⟨_, List.getElem?_eq_getElem (by omega)⟩
  have hnk2 : (ns.map Value.bool)[k]? = some (.bool n) := by rw [List.getElem?_map, hnk]; rfl
  have hjl := hj j (List.mem_of_getElem? hjk)
  have hP : a + ((ns.take (k + 1)).flatMap iJ).length = a + ((ns.take k).flatMap iJ).length + (iJ n).length := by rw [hG hnk, List.flatMap_append, List.length_append]; simp; omega
  have hdr2 : q.data.toList.drop (a + ((ns.take k).flatMap iJ).length) = iJ n ++ ((ns.drop (k + 1)).flatMap iJ ++ z) := by
   obtain ⟨hk2, rfl⟩ := List.getElem?_eq_some_iff.1 hnk
   rw [hdr, List.drop_eq_getElem_cons hk2, List.flatMap_cons, List.append_assoc]
  rw [iJ] at hdr2 hP
  refine rA <| ob rfl (by exact aX (by omega)) ?_
  refine tq <| aO rfl <| aJ <| aD <| aH <| aK <| rB <| dP rfl rfl rfl rfl aXo aOp rfl (by omega) rfl ?_
  refine aV rfl rfl rfl (by exact gC V146 rfl mA (show (pts B js)[0 + k * 1]? = _ by rw [Nat.zero_add, Nat.mul_one, pts, List.getElem?_map, hjk]; rfl)) ?_
  refine oa rfl <| rC <| om rfl <| ot (rd N q (a + ((ns.take k).flatMap iJ).length)) (fun u Lo => u = .int .u64 (((if n = true then 1 else 0 : Nat)) : Int) ∧ Lo = rd N q (a + ((ns.take k).flatMap iJ).length + (aF (if n = true then 1 else 0)).length)) aSh oV (fun H hH => zE (hH.have fun p hp => List.mem_append_left _ hp) (by split <;> decide) hq hdr2) ?_
  rintro _ _ ⟨rfl, rfl⟩
  refine oa rfl <| tq <| aH ?_
  cases n
  ·refine rA <| om rfl <| ob rfl (by exact bW (by decide)) ?_
   refine aB <| aG rfl <| aJ <| aD <| rA <| om rfl <| om rfl <| ob rfl (by exact cL (by decide)) ?_
   refine nc rfl <| dC rfl nM rfl rfl lR rfl rfl uP (vC (by rw [kD]; exact hjl)) (by rw [kD]; exact hjl) nM ?_
   refine aZ <| bA <| aD <| rA <| ob rfl (by exact aY (by omega)) ?_
   refine om rfl <| aZ ?_
   refine cN (k + 1) (show js.length - (k + 1) < js.length - k by omega) ⟨by omega, by rw [hP, ← List.drop_drop, hdr2, List.drop_left]⟩ pK rfl rfl ?_
   rw [hP, uO hjk hnk2]
   exact List.Sublist.refl _
  ·refine rA <| om rfl <| ob rfl (by exact bW (by decide)) ?_
   refine aB <| aG rfl <| aJ <| aD <| rA <| om rfl <| om rfl <| ob rfl (by exact cM (by decide)) ?_
   refine nc rfl <| dC rfl nM rfl rfl lR rfl rfl uP (vC (by rw [kD]; exact hjl)) (by rw [kD]; exact hjl) nM ?_
   refine aZ <| bA <| aD <| rA <| ob rfl (by exact aY (by omega)) ?_
   refine om rfl <| aZ ?_
   refine cN (k + 1) (show js.length - (k + 1) < js.length - k by omega) ⟨by omega, by rw [hP, ← List.drop_drop, hdr2, List.drop_left]⟩ pK rfl rfl ?_
   rw [hP, uO hjk hnk2]
   exact List.Sublist.refl _
 ·obtain rfl : k = js.length := by omega
  refine rA <| ob rfl (by exact aW (by omega)) ?_
  refine tq <| aG rfl <| bJ <| aR <| aS <| aN <| lZ .nil rfl ?_
  exact fun H hH => ⟨_, hH.turned (Gr.refl _ _) ⟨_, List.Mem.head _⟩, rfl, by rw [List.take_length, ← hl, List.take_length, show ns.length = (ns.map Value.bool).length by simp, List.take_length]⟩
theorem pX {G : RG} {i n d : Nat} {r : List Oper} {Q : Fr → AH → Prop} {t : Tr Value} {l : List (Nat × Value)} {H0 : AH} {A : Nat → Prop} {Lr : OL} {ty : TypeId} {ps : String} {af : Array Edge} {gd : Option (Nat × Bool)} {c : Call} {N B K a b sz m : Nat} {q : ByteArray} {cs : List Value} {js : List Nat} {ns : List Int} {z : List UInt8}
 (hw : gok G.ops l gd = true) (hdn : Nat.ble (d + 1) n = true) (hm : G.D = true → i ∈ G.ms) (hc : c.callee = .value (.func 57)) (ha : Opvs l c.args.toList [.pointer (some ⟨2 * N + 1, 0, none⟩), .slice (some ⟨2 * K + 1, 0, none⟩) m m]) (hD : G.D = true → G.Lw.Sublist Lr)
 (hm' : m = js.length) (hl : ns.length = js.length) (hj : ∀ j ∈ js, j < cs.length) (h64 : ∀ n ∈ ns, I64 n) (hs : js.length ≤ 1000) (hq : q.data.toList.length ≤ 1099511627776) (hz : q.data.toList.drop a = ns.flatMap bO ++ z ∧ a + (ns.flatMap bO).length = b)
 (h : SO E G (i + 1) r Q (fr n t ((d, .tuple ⟨[]⟩) :: l)) H0 A (rd N q b ++ ((B, .cells (wr cs js ns) sz true) :: Lr))) : SO E G i (⟨some d, .call c, ty, ps, af, gd⟩ :: r) Q (fr n t l) H0 A ((K, .cells (pts B js) 1 true) :: (rd N q a ++ ((B, .cells cs sz true) :: Lr))) := by
 obtain ⟨hz, rfl⟩ := hz
 refine kO (Li := rd N q a ++ [(B, AObj.cells cs sz true), (K, AObj.cells (pts B js) 1 true)]) (L0 := Lr) (fun u Lo => u = .tuple ⟨[]⟩ ∧ Lo = rd N q (a + (ns.flatMap bO).length) ++ [(B, AObj.cells (wr cs js ns) sz true), (K, AObj.cells (pts B js) 1 true)]) hw hdn hm hc has57 ha (.cons (.succ .zero) (.cons (.succ .zero) (.cons .zero .nil))) hD (fun H hH => aRx hm' hl hj h64 hs hq hz (hH.have fun p hp => ?_) ?_) ?_
 ·simp only [rd, List.cons_append, List.nil_append, List.mem_cons, List.not_mem_nil, or_false] at hp ⊢
  rcases hp with rfl | rfl | rfl
  ·exact .inr (.inl rfl)
  ·exact .inr (.inr (.inl rfl))
  ·exact .inl rfl
 ·have hd := hH.dist
  simp only [rd, List.cons_append, List.nil_append, List.pairwise_cons, List.mem_cons, List.not_mem_nil, or_false, forall_eq_or_imp, forall_eq] at hd ⊢
  exact ⟨⟨hd.2.1.1, hd.1.1.symm⟩, hd.1.2.1.symm, fun _ h => h.elim, List.Pairwise.nil⟩
 ·rintro _ _ ⟨rfl, rfl⟩
  exact eU (by simp only [rd, List.cons_append, List.nil_append]; exact ((List.Sublist.cons _ (List.Sublist.refl _)).cons_cons _).cons_cons _) (fun hDt => (hD hDt).trans (by simp only [rd, List.cons_append, List.nil_append]; exact (List.Sublist.cons _ (List.Sublist.cons _ (List.Sublist.refl _))))) h
theorem lX {G : RG} {i n d : Nat} {r : List Oper} {Q : Fr → AH → Prop} {t : Tr Value} {l : List (Nat × Value)} {H0 : AH} {A : Nat → Prop} {Lr : OL} {ty : TypeId} {ps : String} {af : Array Edge} {gd : Option (Nat × Bool)} {c : Call} {N B K a b sz m : Nat} {q : ByteArray} {cs : List Value} {js : List Nat} {ns : List Int} {z : List UInt8}
 (hw : gok G.ops l gd = true) (hdn : Nat.ble (d + 1) n = true) (hm : G.D = true → i ∈ G.ms) (hc : c.callee = .value (.func 88)) (ha : Opvs l c.args.toList [.pointer (some ⟨2 * N + 1, 0, none⟩), .slice (some ⟨2 * K + 1, 0, none⟩) m m]) (hD : G.D = true → G.Lw.Sublist Lr)
 (hm' : m = js.length) (hl : ns.length = js.length) (hj : ∀ j ∈ js, j < cs.length) (h64 : ∀ n ∈ ns, I64 n) (hs : js.length ≤ 1000) (hq : q.data.toList.length ≤ 1099511627776) (hz : q.data.toList.drop a = ns.flatMap bO ++ z ∧ a + (ns.flatMap bO).length = b)
 (h : SO E G (i + 1) r Q (fr n t ((d, .tuple ⟨[]⟩) :: l)) H0 A (rd N q b ++ ((B, .cells (wr cs js ns) sz true) :: Lr))) : SO E G i (⟨some d, .call c, ty, ps, af, gd⟩ :: r) Q (fr n t l) H0 A ((K, .cells (pts B js) 1 true) :: (rd N q a ++ ((B, .cells cs sz true) :: Lr))) := by
 obtain ⟨hz, rfl⟩ := hz
 refine kO (Li := rd N q a ++ [(B, AObj.cells cs sz true), (K, AObj.cells (pts B js) 1 true)]) (L0 := Lr) (fun u Lo => u = .tuple ⟨[]⟩ ∧ Lo = rd N q (a + (ns.flatMap bO).length) ++ [(B, AObj.cells (wr cs js ns) sz true), (K, AObj.cells (pts B js) 1 true)]) hw hdn hm hc has88 ha (.cons (.succ .zero) (.cons (.succ .zero) (.cons .zero .nil))) hD (fun H hH => aQq hm' hl hj h64 hs hq hz (hH.have fun p hp => ?_) ?_) ?_
 ·simp only [rd, List.cons_append, List.nil_append, List.mem_cons, List.not_mem_nil, or_false] at hp ⊢
  rcases hp with rfl | rfl | rfl
  ·exact .inr (.inl rfl)
  ·exact .inr (.inr (.inl rfl))
  ·exact .inl rfl
 ·have hd := hH.dist
  simp only [rd, List.cons_append, List.nil_append, List.pairwise_cons, List.mem_cons, List.not_mem_nil, or_false, forall_eq_or_imp, forall_eq] at hd ⊢
  exact ⟨⟨hd.2.1.1, hd.1.1.symm⟩, hd.1.2.1.symm, fun _ h => h.elim, List.Pairwise.nil⟩
 ·rintro _ _ ⟨rfl, rfl⟩
  exact eU (by simp only [rd, List.cons_append, List.nil_append]; exact ((List.Sublist.cons _ (List.Sublist.refl _)).cons_cons _).cons_cons _) (fun hDt => (hD hDt).trans (by simp only [rd, List.cons_append, List.nil_append]; exact (List.Sublist.cons _ (List.Sublist.cons _ (List.Sublist.refl _))))) h
theorem aXs {G : RG} {i n d : Nat} {r : List Oper} {Q : Fr → AH → Prop} {t : Tr Value} {l : List (Nat × Value)} {H0 : AH} {A : Nat → Prop} {Lr : OL} {ty : TypeId} {ps : String} {af : Array Edge} {gd : Option (Nat × Bool)} {c : Call} {N B K a b sz m : Nat} {q : ByteArray} {cs : List Value} {js : List Nat} {ns : List Bool} {z : List UInt8}
 (hw : gok G.ops l gd = true) (hdn : Nat.ble (d + 1) n = true) (hm : G.D = true → i ∈ G.ms) (hc : c.callee = .value (.func 89)) (ha : Opvs l c.args.toList [.pointer (some ⟨2 * N + 1, 0, none⟩), .slice (some ⟨2 * K + 1, 0, none⟩) m m]) (hD : G.D = true → G.Lw.Sublist Lr)
 (hm' : m = js.length) (hl : ns.length = js.length) (hj : ∀ j ∈ js, j < cs.length) (hs : js.length ≤ 1000) (hq : q.data.toList.length ≤ 1099511627776) (hz : q.data.toList.drop a = ns.flatMap iJ ++ z ∧ a + (ns.flatMap iJ).length = b)
 (h : SO E G (i + 1) r Q (fr n t ((d, .tuple ⟨[]⟩) :: l)) H0 A (rd N q b ++ ((B, .cells (wrV cs js (ns.map .bool)) sz true) :: Lr))) : SO E G i (⟨some d, .call c, ty, ps, af, gd⟩ :: r) Q (fr n t l) H0 A ((K, .cells (pts B js) 1 true) :: (rd N q a ++ ((B, .cells cs sz true) :: Lr))) := by
 obtain ⟨hz, rfl⟩ := hz
 refine kO (Li := rd N q a ++ [(B, AObj.cells cs sz true), (K, AObj.cells (pts B js) 1 true)]) (L0 := Lr) (fun u Lo => u = .tuple ⟨[]⟩ ∧ Lo = rd N q (a + (ns.flatMap iJ).length) ++ [(B, AObj.cells (wrV cs js (ns.map .bool)) sz true), (K, AObj.cells (pts B js) 1 true)]) hw hdn hm hc has89 ha (.cons (.succ .zero) (.cons (.succ .zero) (.cons .zero .nil))) hD (fun H hH => aNc hm' hl hj hs hq hz (hH.have fun p hp => ?_) ?_) ?_
 ·simp only [rd, List.cons_append, List.nil_append, List.mem_cons, List.not_mem_nil, or_false] at hp ⊢
  rcases hp with rfl | rfl | rfl
  ·exact .inr (.inl rfl)
  ·exact .inr (.inr (.inl rfl))
  ·exact .inl rfl
 ·have hd := hH.dist
  simp only [rd, List.cons_append, List.nil_append, List.pairwise_cons, List.mem_cons, List.not_mem_nil, or_false, forall_eq_or_imp, forall_eq] at hd ⊢
  exact ⟨⟨hd.2.1.1, hd.1.1.symm⟩, hd.1.2.1.symm, fun _ h => h.elim, List.Pairwise.nil⟩
 ·rintro _ _ ⟨rfl, rfl⟩
  exact eU (by simp only [rd, List.cons_append, List.nil_append]; exact ((List.Sublist.cons _ (List.Sublist.refl _)).cons_cons _).cons_cons _) (fun hDt => (hD hDt).trans (by simp only [rd, List.cons_append, List.nil_append]; exact (List.Sublist.cons _ (List.Sublist.cons _ (List.Sublist.refl _))))) h
end Go.Proofs.YteklajiaicmogaaGreatDoor
namespace Go.Proofs.YteklajiaicmogaaGreatDoor
open Go Go.AM
set_option maxHeartbeats 1000000 in
theorem aRo {S : AH} {N a : Nat} {q : ByteArray} (hin : ∀ p ∈ rd N q a, S.tr.get p.1 = some p.2 ∧ p.1 < S.nx) {ns : List Int} {m : Int} {z : List UInt8} (hm : (ns.length : Int) ≤ m) (hm2 : m ≤ 1000) (h64 : ∀ n ∈ ns, I64 n) (hq : q.data.toList.length ≤ 1099511627776) (hz : q.data.toList.drop a = (aF ns.length ++ ns.flatMap bO) ++ z) : XCall Tryz.prog 90 [.pointer (some ⟨2 * N + 1, 0, none⟩), .int .i64 m] S fun u H' => ∃ Lo, Turned (rd N q a) S H' Lo ∧ (CellA (nu S H' Lo) H' (.row 8 [.int .i64]) u (.row (hU ns)) ∧ Lo = rd N q (a + (aF ns.length ++ ns.flatMap bO).length)) := by
 rw [List.append_assoc] at hz
 have hz2 : q.data.toList.drop (a + (aF ns.length).length) = ns.flatMap bO ++ z := by rw [← List.drop_drop, hz, List.drop_left]
 have hlE : (hU ns).length = ns.length := by simp [hU]
 refine cX (E := E) (Li := rd N q a) (n := 25) (rs := [.tmp 4]) (l := [(1, _), (0, _)]) (aQ Tryz.func90 rfl rfl rfl) (fun p hp => hin p hp) (List.pairwise_singleton _ _) rfl ?_
 refine rB <| oa rfl <| rC <| om rfl <| om rfl <| ot (rd N q a) (fun u Lo => u = .int .i64 (ns.length : Int) ∧ Lo = rd N q (a + (aF ns.length).length)) mO oV (fun H hH => fE (hH.have fun p hp => by repeat (first | exact hp | exact List.mem_append_left _ hp | apply List.mem_append_right | apply List.mem_cons_of_mem)) hm (by omega) hq hz) ?_
 rintro _ _ ⟨rfl, rfl⟩
 refine oa rfl <| rC <| oa rfl <| tq <| rB <| om rfl <| om rfl <| aB <| aK ?_
 refine bK (σ := Nat × Nat) (fun x => ns.length - x.2) (fun x => [(0, .pointer (some ⟨2 * N + 1, 0, none⟩)), (6, gsl x.1 x.2), (11, .int .i64 ((ns.length : Nat) : Int)), (12, .int .i64 ((x.2 : Nat) : Int))]) (fun _ => S) (fun _ => fY S (rd N q a)) (fun x => rd N q (a + (aF ns.length).length + ((ns.take x.2).flatMap bO).length) ++ fK x.1 1 ((ns.take x.2).map (.int .i64)) x.2) (fun x => x.2 ≤ ns.length ∧ q.data.toList.drop (a + (aF ns.length).length + ((ns.take x.2).flatMap bO).length) = (ns.drop x.2).flatMap bO ++ z) ((0, 0)) (⟨Nat.zero_le _, by simpa using hz2⟩) pK rfl rfl (List.Sublist.refl _) ?_
 intro st hJ2 t1
 obtain ⟨M1, k⟩ := st
 dsimp only at hJ2 ⊢
 obtain ⟨hk0, hdr⟩ := hJ2
 refine aH ?_
 rcases Nat.lt_or_ge k ns.length with hk | hk
 ·obtain ⟨n, hnk⟩ : ∃ n, ns[k]? = some n := ⟨_, List.getElem?_eq_getElem (by omega)⟩
  have hn := h64 n (List.mem_of_getElem? hnk)
  have hP : a + (aF ns.length).length + ((ns.take (k + 1)).flatMap bO).length = a + (aF ns.length).length + ((ns.take k).flatMap bO).length + (bO n).length := by rw [hG hnk, List.flatMap_append, List.length_append]; simp; omega
  have hdr2 : q.data.toList.drop (a + (aF ns.length).length + ((ns.take k).flatMap bO).length) = bO n ++ ((ns.drop (k + 1)).flatMap bO ++ z) := by
   obtain ⟨hk2, rfl⟩ := List.getElem?_eq_some_iff.1 hnk
   rw [hdr, List.drop_eq_getElem_cons hk2, List.flatMap_cons, List.append_assoc]
  refine rA <| ob rfl (by exact aX (by omega)) ?_
  refine tq <| aO rfl <| aJ <| aD <| aH <| aK <| rB <| om rfl <| ot (rd N q (a + (aF ns.length).length + ((ns.take k).flatMap bO).length)) (fun u Lo => u = .int .i64 n ∧ Lo = rd N q (a + (aF ns.length).length + ((ns.take k).flatMap bO).length + (bO n).length)) aKg oV (fun H hH => yO (hH.have fun p hp => by repeat (first | exact hp | exact List.mem_append_left _ hp | apply List.mem_append_right | apply List.mem_cons_of_mem)) hn hq hdr2) ?_
  rintro _ _ ⟨rfl, rfl⟩
  refine oa rfl <| tq <| rB <| om rfl <| ot (rd N q (a + (aF ns.length).length + ((ns.take k).flatMap bO).length + (bO n).length)) (fun u Lo => u = .bool true ∧ Lo = rd N q (a + (aF ns.length).length + ((ns.take k).flatMap bO).length + (bO n).length)) aHf oV (fun H hH => rZ (hH.have fun p hp => by repeat (first | exact hp | exact List.mem_append_left _ hp | apply List.mem_append_right | apply List.mem_cons_of_mem))) ?_
  rintro _ _ ⟨rfl, rfl⟩
  refine eZ rfl rfl rfl rfl <| aB <| aG rfl <| aJ <| aD <| rA <| om rfl <| om rfl <| aM (out := [.int .i64 n]) rfl rfl nM oP V22 aI rfl rfl (by kernel_rfl) rfl rfl ?_
  intro N21
  refine iW (bt := 8) (sz := 1) (L1 := _ :: rd N q _) (cs' := (ns.take (k + 1)).map (.int .i64)) rfl rfl nM rfl rfl rfl rfl rfl V22 V22 (by rfl) aI rfl rfl (by decide) rfl (eL (List.mem_append_left _ mA) rfl) (by rw [List.length_map, List.length_take]; omega) rfl (by omega) (by omega) (by rw [hG hnk, List.map_append]; rfl) nM ?_
  intro M2
  refine oa rfl <| aZ <| bA <| aD <| rA <| ob rfl (by exact aY (by omega)) ?_
  refine om rfl <| aZ ?_
  refine cN (M2, k + 1) (show ns.length - (k + 1) < ns.length - k by omega) ⟨show k + 1 ≤ ns.length by omega, by rw [hP, ← List.drop_drop, hdr2, List.drop_left]⟩ pK rfl rfl ?_
  rw [hP]
  exact (List.Sublist.cons _ (List.Sublist.refl _))
 ·obtain rfl : k = ns.length := by omega
  refine rA <| ob rfl (by exact aW (by omega)) ?_
  refine tq <| aG rfl <| bJ <| aR <| aS <| aN <| aD <| rB <| om rfl <| oa rfl <| aB <| aT <| aE (.tmp rfl .nil) ?_
  rw [List.take_length]
  intro H hH
  have hh := hH.subl (L' := rd N q (a + (aF ns.length).length + (ns.flatMap bO).length)) (List.sublist_append_left _ _)
  refine ⟨_, hh.turned (Gr.refl _ _) ⟨_, List.Mem.head _⟩, ?_, by rw [List.length_append, Nat.add_assoc]⟩
  refine hH.giveG (sz := 1) (Gr.refl _ _) (by cases ns.length with | zero => simp only [fK, List.append_nil]; exact .nil | succ k => exact .cons (.succ .zero) .nil) (fun j h => aSg h) rfl hlE.symm (by rw [List.length_map, Nat.mul_one]) (fun j d hd => ?_) (by rw [hlE]; omega) (by rw [hlE]; omega)
  rw [hU, List.getElem?_map] at hd
  cases hj : ns[j]? with
  | none => rw [hj] at hd; simp at hd
  | some u =>
   rw [hj] at hd
   simp at hd
   subst hd
   have e2 : ((ns.map (Value.int .i64)).drop (j * 1)).take 1 = [.int .i64 u] := by
    rw [Nat.mul_one]
    apply List.ext_getElem?
    intro k
    cases k with
    | zero => simp [List.getElem?_take, List.getElem?_drop, hj]
    | succ k => simp [List.getElem?_take]
   rw [e2]
   simp only [CellsA, CellA]
   exact ⟨⟨trivial, u, rfl, yY (h64 u (List.mem_of_getElem? hj))⟩, trivial⟩
end Go.Proofs.YteklajiaicmogaaGreatDoor
namespace Go.Proofs.YteklajiaicmogaaGreatDoor
open Go Go.AM
/-- what a number, a pixel is in the machine -/
def vsM (n : Nat) : List Value := [.int .i64 (n : Int)]
def vsP (p : Nat × Nat × Nat × Nat) : List Value := [.int .i64 (p.1 : Int), .int .i64 (p.2.1 : Int), .int .i64 (p.2.2.1 : Int), .int .i64 (p.2.2.2 : Int)]
def ms4 (p : Nat × Nat × Nat × Nat) : List Nat := [p.1, p.2.1, p.2.2.1, p.2.2.2]
def LeM (n : Nat) : Prop := n ≤ 65535
def LeP (p : Nat × Nat × Nat × Nat) : Prop := p.1 ≤ 65535 ∧ p.2.1 ≤ 65535 ∧ p.2.2.1 ≤ 65535 ∧ p.2.2.2 ≤ 65535
theorem aUw (n : Nat) : eX n = aF n := by simp [eX, cT]
theorem aWx {a b : Nat} (h : a ≠ b) : (a : Int) ≠ (b : Int) := by omega
theorem aXk {p r : Nat × Nat × Nat × Nat} (h : p ≠ r) : ((((p.1 : Nat) : Int) == (r.1 : Int)) && ((((p.2.1 : Nat) : Int) == (r.2.1 : Int)) && ((((p.2.2.1 : Nat) : Int) == (r.2.2.1 : Int)) && (((p.2.2.2 : Nat) : Int) == (r.2.2.2 : Int))))) = false := by
 rw [Bool.eq_false_iff]
 intro hq
 simp only [Bool.and_eq_true, beq_iff_eq] at hq
 apply h
 obtain ⟨a, b, c, d⟩ := p
 obtain ⟨a', b', c', d'⟩ := r
 simp only [Prod.mk.injEq]
 simp only at hq
 omega
/-- where a run ends -/
theorem aKn {α : Type} [DecidableEq α] {L : List α} {i : Nat} (hi : i < L.length) : ∃ j a, L[i]? = some a ∧ i < j ∧ j ≤ L.length ∧ (∀ k b, i ≤ k → k < j → L[k]? = some b → b = a) ∧ (∀ b, L[j]? = some b → b ≠ a) := by
 have key : ∀ d j, L.length - j = d → i < j → j ≤ L.length → (∀ k b, i ≤ k → k < j → L[k]? = some b → b = L[i]) → ∃ j, i < j ∧ j ≤ L.length ∧ (∀ k b, i ≤ k → k < j → L[k]? = some b → b = L[i]) ∧ (∀ b, L[j]? = some b → b ≠ L[i]) := by
  intro d
  induction d with
  | zero =>
   intro j hd h1 h2 h3
   exact ⟨j, h1, h2, h3, fun b hb => by rw [List.getElem?_eq_none (by omega)] at hb; cases hb⟩
  | succ d ih =>
   intro j hd h1 h2 h3
   have hj : j < L.length := by omega
   by_cases e : L[j] = L[i]
   ·refine ih (j + 1) (by omega) (by omega) (by omega) fun k b k1 k2 hb => ?_
    by_cases ek : k = j
    ·subst ek
     rw [List.getElem?_eq_getElem hj] at hb
     rw [← Option.some.inj hb, e]
    ·exact h3 k b k1 (by omega) hb
   ·exact ⟨j, h1, h2, h3, fun b hb hbe => e (by rw [List.getElem?_eq_getElem hj] at hb; rw [Option.some.inj hb, hbe])⟩
 obtain ⟨j, h1, h2, h3, h4⟩ := key _ (i + 1) rfl (by omega) (by omega) (fun k b k1 k2 hb => by
  obtain rfl : k = i := by omega
  rw [List.getElem?_eq_getElem hi] at hb
  exact (Option.some.inj hb).symm)
 exact ⟨j, L[i], List.getElem?_eq_getElem hi, h1, h2, h3, h4⟩
theorem kH {α : Type} {f : α → List Value} {s : Nat} (hf : ∀ a, (f a).length = s) : ∀ l : List α, (l.flatMap f).length = l.length * s
 | [] => by simp
 | a :: l => by rw [List.flatMap_cons, List.length_append, hf, kH hf l, List.length_cons, Nat.add_mul, Nat.one_mul, Nat.add_comm]
theorem vD {α : Type} {f : α → List Value} {s : Nat} (hf : ∀ a, (f a).length = s) : ∀ {l : List α} {j : Nat} {a : α}, l[j]? = some a → ((l.flatMap f).drop (j * s)).take s = f a
 | [], j, a, h => by simp at h
 | b :: l, 0, a, h => by
  simp at h; subst h
  rw [Nat.zero_mul, List.drop_zero, List.flatMap_cons, List.take_left' (hf _)]
 | b :: l, j + 1, a, h => by
  simp at h
  rw [List.flatMap_cons, show (j + 1) * s = (f b).length + j * s by rw [hf, Nat.add_mul, Nat.one_mul, Nat.add_comm], ← List.drop_drop, List.drop_left]
  exact vD hf h
theorem aCd : ∀ {L : List Nat} {j v : Nat}, L[j]? = some v → (L.flatMap vsM)[j]? = some (.int .i64 (v : Int))
 | [], j, v, h => by simp at h
 | b :: l, 0, v, h => by
  simp at h; subst h; rfl
 | b :: l, j + 1, v, h => by
  simp at h
  exact aCd (L := l) h
theorem qI {α : Type} {f : α → List Value} {l : List α} {k : Nat} {a : α} (h : l[k]? = some a) : (l.take k).flatMap f ++ f a = (l.take (k + 1)).flatMap f := by
 obtain ⟨hk, rfl⟩ := List.getElem?_eq_some_iff.1 h
 rw [List.take_succ_eq_append_getElem hk, List.flatMap_append]; simp
theorem aMc {α : Type} {f : α → List Value} (h : ∀ a, eF (f a) = true) : ∀ l : List α, eF (l.flatMap f) = true
 | [] => rfl
 | a :: l => by rw [List.flatMap_cons]; exact aHx (h a) (aMc h l)
theorem aYa {S : AH} {N B a sb : Nat} {q : ByteArray} {z : List UInt8} {v : Nat} (hv : LeM v) (hq : q.data.toList.length ≤ 1099511627776) (hin : ∀ p ∈ rd N q a ++ [(B, AObj.cells [.pointer (some ⟨2 * N + 1, 0, none⟩)] sb true)], S.tr.get p.1 = some p.2 ∧ p.1 < S.nx) (hd : (rd N q a ++ [(B, AObj.cells [.pointer (some ⟨2 * N + 1, 0, none⟩)] sb true)]).Pairwise (fun p q => p.1 ≠ q.1)) (hz : q.data.toList.drop a = eX v ++ z) : XCall Tryz.prog 93 [.pointer (some ⟨2 * B + 1, 0, none⟩)] S fun u H' => ∃ Lo, Turned (rd N q a ++ [(B, AObj.cells [.pointer (some ⟨2 * N + 1, 0, none⟩)] sb true)]) S H' Lo ∧ (u = .int .i64 (v : Int) ∧ Lo = rd N q (a + (eX v).length) ++ [(B, AObj.cells [.pointer (some ⟨2 * N + 1, 0, none⟩)] sb true)]) := by
 rw [aUw] at hz ⊢
 unfold LeM at hv
 refine cX (E := E) (Li := rd N q a ++ [(B, AObj.cells [.pointer (some ⟨2 * N + 1, 0, none⟩)] sb true)]) (n := 4) (rs := [.tmp 1]) (l := [(0, _)]) (aQ Tryz.func93 rfl rfl rfl) hin hd rfl ?_
 refine rB <| oa rfl <| rC <| aV rfl rfl rfl (by exact gC V74 rfl mA rfl) ?_
 refine ot (rd N q a) (fun u Lo => u = .int .i64 (v : Int) ∧ Lo = rd N q (a + (aF v).length)) mO oV (fun H hH => fE (hH.have fun p hp => by repeat (first | exact hp | exact List.mem_append_left _ hp | exact List.mem_append_left _ (List.mem_append_left _ hp) | apply List.mem_append_right | apply List.mem_cons_of_mem)) (by omega) (by omega) hq hz) ?_
 rintro _ _ ⟨rfl, rfl⟩
 refine oa rfl <| aB <| aT <| aE (.tmp rfl .nil) ?_
 exact fun H hH => ⟨_, hH.turned (Gr.refl _ _) ⟨_, List.Mem.head _⟩, rfl, rfl⟩
set_option maxHeartbeats 1000000 in
theorem aXh {S : AH} {N B a sb : Nat} {q : ByteArray} {z : List UInt8} {v : Nat × Nat × Nat × Nat} (hv : LeP v) (hq : q.data.toList.length ≤ 1099511627776) (hin : ∀ p ∈ rd N q a ++ [(B, AObj.cells [.pointer (some ⟨2 * N + 1, 0, none⟩)] sb true)], S.tr.get p.1 = some p.2 ∧ p.1 < S.nx) (hd : (rd N q a ++ [(B, AObj.cells [.pointer (some ⟨2 * N + 1, 0, none⟩)] sb true)]).Pairwise (fun p q => p.1 ≠ q.1)) (hz : q.data.toList.drop a = eY v ++ z) : XCall Tryz.prog 95 [.pointer (some ⟨2 * B + 1, 0, none⟩)] S fun u H' => ∃ Lo, Turned (rd N q a ++ [(B, AObj.cells [.pointer (some ⟨2 * N + 1, 0, none⟩)] sb true)]) S H' Lo ∧ (u = .agg ⟨vsP v⟩ ∧ Lo = rd N q (a + (eY v).length) ++ [(B, AObj.cells [.pointer (some ⟨2 * N + 1, 0, none⟩)] sb true)]) := by
 refine cX (E := E) (Li := rd N q a ++ [(B, AObj.cells [.pointer (some ⟨2 * N + 1, 0, none⟩)] sb true)]) (n := 21) (rs := [.cell 1 31]) (l := [(0, _)]) (aQ Tryz.func95 rfl rfl rfl) hin hd rfl ?_
 refine rB <| bR (cs := (.int .i64 0 :: .int .i64 0 :: .int .i64 0 :: .int .i64 0 :: [])) rfl rfl nM bL rfl rfl ?_
 intro N1
 refine rC <| bR (cs := (.int .i64 0 :: .int .i64 0 :: .int .i64 0 :: .int .i64 0 :: [])) rfl rfl nM bL rfl rfl ?_
 intro N2
 refine tq <| rB <| fo 0 V31 aI rfl <| fo 1 V31 aI rfl <| fo 2 V31 aI rfl <| fo 3 V31 aI rfl <| aM (out := pts N2 [0, 1, 2, 3]) rfl rfl nM oP lI fO rfl rfl (by kernel_rfl) rfl rfl ?_
 intro N9
 refine ll rfl lI <| om rfl <| aB <| aK <| fZ (aSc (T := rd N q _) (L1 := [_, _, _])) ?_
 refine bK (σ := Nat) (fun k => 4 - k) (fun k => [(0, .pointer (some ⟨2 * B + 1, 0, none⟩)), (1, .pointer (some ⟨2 * N1 + 1, 0, none⟩)), (2, .pointer (some ⟨2 * N2 + 1, 0, none⟩)), (9, .slice (some ⟨2 * N9 + 1, 0, none⟩) 4 4), (10, .int .i64 ((4 : Nat) : Int)), (11, .int .i64 ((k : Nat) : Int))]) (fun _ => S) (fun _ => fY S (rd N q a ++ [(B, AObj.cells [.pointer (some ⟨2 * N + 1, 0, none⟩)] sb true)])) (fun k => rd N q (a + (cT ((ms4 v).take k)).length) ++ ((N9, AObj.cells (pts N2 [0, 1, 2, 3]) 1 true) :: (N2, AObj.cells (wrV [.int .i64 0, .int .i64 0, .int .i64 0, .int .i64 0] ([0, 1, 2, 3].take k) (((ms4 v).map fun n : Nat => Value.int .i64 (n : Int)).take k)) (cI E 31) true) :: (N1, AObj.cells [.int .i64 0, .int .i64 0, .int .i64 0, .int .i64 0] (cI E 31) true) :: [(B, AObj.cells [.pointer (some ⟨2 * N + 1, 0, none⟩)] sb true)])) (fun k => k ≤ 4 ∧ q.data.toList.drop (a + (cT ((ms4 v).take k)).length) = cT ((ms4 v).drop k) ++ z) (0) (⟨Nat.zero_le _, by simpa [cT, eY, ms4] using hz⟩) pK rfl rfl (List.Sublist.refl _) ?_
 intro k hJ2 t1
 obtain ⟨hk0, hdr⟩ := hJ2
 refine aH ?_
 rcases Nat.lt_or_ge k 4 with hk | hk
 ·obtain ⟨j, hjk, hjl⟩ : ∃ j, [0, 1, 2, 3][k]? = some j ∧ j < 4 := by rcases (show k = 0 ∨ k = 1 ∨ k = 2 ∨ k = 3 by omega) with rfl | rfl | rfl | rfl <;> exact ⟨_, rfl, by omega⟩
  obtain ⟨n, hnk⟩ : ∃ n, (ms4 v)[k]? = some n := ⟨_, List.getElem?_eq_getElem (by show k < 4; omega)⟩
  have hn : n ≤ 65535 := by
   have := List.mem_of_getElem? hnk
   obtain ⟨z1, z2, z3, z4⟩ := hv
   simp only [ms4, List.mem_cons, List.not_mem_nil, or_false] at this
   omega
  have hnk2 : ((ms4 v).map fun n : Nat => Value.int .i64 (n : Int))[k]? = some (.int .i64 (n : Int)) := by rw [List.getElem?_map, hnk]; rfl
  have hP : a + (cT ((ms4 v).take (k + 1))).length = a + (cT ((ms4 v).take k)).length + (aF n).length := by rw [hG hnk, cT, cT, List.flatMap_append, List.length_append]; simp; omega
  have hdr2 : q.data.toList.drop (a + (cT ((ms4 v).take k)).length) = aF n ++ (cT ((ms4 v).drop (k + 1)) ++ z) := by
   obtain ⟨hk2, rfl⟩ := List.getElem?_eq_some_iff.1 hnk
   rw [hdr, List.drop_eq_getElem_cons hk2, cT, List.flatMap_cons, List.append_assoc]; rfl
  refine rA <| ob rfl (by exact aX (by omega)) ?_
  refine tq <| aO rfl <| aJ <| aD <| aH <| aK <| rB <| dP rfl rfl rfl rfl lI fO rfl (by omega) rfl ?_
  refine aV rfl rfl rfl (by exact gC aXm rfl (List.Mem.tail _ (List.Mem.head _)) (show (pts N2 [0, 1, 2, 3])[0 + k * 1]? = _ by rw [Nat.zero_add, Nat.mul_one, pts, List.getElem?_map, hjk]; rfl)) ?_
  refine oa rfl <| rD <| om rfl <| aV rfl rfl rfl (by exact gC V74 rfl mA rfl) ?_
  refine ot (rd N q (a + (cT ((ms4 v).take k)).length)) (fun u Lo => u = .int .i64 (n : Int) ∧ Lo = rd N q (a + (cT ((ms4 v).take k)).length + (aF n).length)) mO oV (fun H hH => fE (hH.have fun p hp => List.mem_append_left _ hp) (by omega) (by omega) hq hdr2) ?_
  rintro _ _ ⟨rfl, rfl⟩
  refine nc rfl <| dC rfl nM rfl rfl aI rfl rfl uP (vC (by rw [kD]; exact hjl)) (by rw [kD]; exact hjl) nM ?_
  refine aZ <| bA <| aD <| rA <| ob rfl (by exact aY (by omega)) ?_
  refine om rfl <| aZ ?_
  refine cN (k + 1) (show 4 - (k + 1) < 4 - k by omega) ⟨by omega, by rw [hP, ← List.drop_drop, hdr2, List.drop_left]⟩ pK rfl rfl ?_
  rw [hP, uO hjk hnk2]
  exact List.Sublist.refl _
 ·obtain rfl : k = 4 := by omega
  rw [show wrV [.int .i64 0, .int .i64 0, .int .i64 0, .int .i64 0] ([0, 1, 2, 3].take 4) (((ms4 v).map fun n : Nat => Value.int .i64 (n : Int)).take 4) = vsP v from rfl, show (ms4 v).take 4 = ms4 v from rfl, show cT (ms4 v) = eY v from rfl]
  refine rA <| ob rfl (by exact aW (by omega)) ?_
  refine tq <| aG rfl <| bJ <| aR <| aS <| aN <| aD <| rB <| aV rfl rfl rfl (by exact bV V31 rfl bL rfl mA (by exact Nat.le_of_ble_eq_true rfl) (by rfl)) ?_
  refine bX rfl nM rfl rfl bL (by rfl) rfl uP (by exact fS rfl) (by exact Nat.le_of_ble_eq_true rfl) nM ?_
  refine aB <| aT <| aE (.cell rfl (by exact bV V31 rfl bL rfl mA (by exact Nat.le_of_ble_eq_true rfl) (by rfl)) .nil) ?_
  exact fun H hH => ⟨_, (hH.subl (L' := rd N q _ ++ [(B, AObj.cells [.pointer (some ⟨2 * N + 1, 0, none⟩)] sb true)]) (List.Sublist.cons_cons _ (List.Sublist.cons _ (List.Sublist.cons _ (List.Sublist.cons _ (List.Sublist.refl _)))))).turned (Gr.refl _ _) ⟨_, List.Mem.head _⟩, rfl, rfl⟩
end Go.Proofs.YteklajiaicmogaaGreatDoor
namespace Go.Proofs.YteklajiaicmogaaGreatDoor
open Go Go.AM
theorem has93 : ∃ fn, E.fn 93 = some fn := ⟨_, aQ Tryz.func93 rfl rfl rfl⟩
theorem has95 : ∃ fn, E.fn 95 = some fn := ⟨_, aQ Tryz.func95 rfl rfl rfl⟩
set_option maxHeartbeats 4000000 in
theorem aQx {S : AH} {N B a sb w h : Nat} {q : ByteArray} {L : List Nat} {z : List UInt8} (hw : w ≤ 256) (hh : h ≤ 256) (hwh : w = 0 ↔ h = 0) (hL : L.length = w * h) (hv : ∀ v ∈ L, LeM v) (hq : q.data.toList.length ≤ 1099511627776) (hin : ∀ p ∈ rd N q a ++ [(B, AObj.cells [.pointer (some ⟨2 * N + 1, 0, none⟩)] sb true)], S.tr.get p.1 = some p.2 ∧ p.1 < S.nx) (hd : (rd N q a ++ [(B, AObj.cells [.pointer (some ⟨2 * N + 1, 0, none⟩)] sb true)]).Pairwise (fun p q => p.1 ≠ q.1)) (hz : q.data.toList.drop a = (aF w ++ aF h ++ eE eX L) ++ z) : XCall Tryz.prog 92 [.pointer (some ⟨2 * N + 1, 0, none⟩), .func (.func 93) ⟨[]⟩ ⟨[.pointer (some ⟨2 * B + 1, 0, none⟩)]⟩] S fun u H' => ∃ Lo, Turned (rd N q a ++ [(B, AObj.cells [.pointer (some ⟨2 * N + 1, 0, none⟩)] sb true)]) S H' Lo ∧ ∃ M, u = .tuple ⟨[.int .i64 (w : Int), .int .i64 (h : Int), gsl M L.length]⟩ ∧ Lo = rd N q (a + (aF w ++ aF h ++ eE eX L).length) ++ ([(B, AObj.cells [.pointer (some ⟨2 * N + 1, 0, none⟩)] sb true)] ++ fK M 1 (L.flatMap vsM) L.length) := by
 have hwl : (w : Int) * (h : Int) = ((L.length : Nat) : Int) := by rw [hL]; exact (Int.natCast_mul w h).symm
 have hL6 : L.length ≤ 65536 := by rw [hL]; exact Nat.mul_le_mul hw hh
 have hbb : (((w : Nat) : Int) == 0) = (((h : Nat) : Int) == 0) := by rw [Bool.eq_iff_iff]; simp only [beq_iff_eq]; omega
 rw [List.append_assoc, List.append_assoc] at hz
 have hz2 : q.data.toList.drop (a + (aF w).length) = aF h ++ (eE eX L ++ z) := by rw [← List.drop_drop, hz, List.drop_left]
 have hz3 : q.data.toList.drop (a + (aF w).length + (aF h).length) = eE eX L ++ z := by rw [← List.drop_drop, hz2, List.drop_left]
 refine cX (E := E) (Li := rd N q a ++ [(B, AObj.cells [.pointer (some ⟨2 * N + 1, 0, none⟩)] sb true)]) (n := 75) (rs := [.tmp 4, .tmp 5, .tmp 6]) (l := [(1, _), (0, _)]) (aQ Tryz.func92 rfl rfl rfl) hin hd rfl ?_
 refine rB <| oa rfl <| oa rfl <| oa rfl <| rC <| om rfl <| ot (rd N q (a)) (fun u Lo => u = .int .i64 (w : Int) ∧ Lo = rd N q (a + (aF w).length)) mO oV (fun H hH => fE (hH.have fun p hp => by repeat (first | exact hp | exact List.mem_append_left _ hp | exact List.mem_append_left _ (List.mem_append_left _ hp) | apply List.mem_append_right | apply List.mem_cons_of_mem)) (by omega) (by omega) hq hz) ?_
 rintro _ _ ⟨rfl, rfl⟩
 refine oa rfl <| rC <| om rfl <| ot (rd N q (a + (aF w).length)) (fun u Lo => u = .int .i64 (h : Int) ∧ Lo = rd N q (a + (aF w).length + (aF h).length)) mO oV (fun H hH => fE (hH.have fun p hp => by repeat (first | exact hp | exact List.mem_append_left _ hp | exact List.mem_append_left _ (List.mem_append_left _ hp) | apply List.mem_append_right | apply List.mem_cons_of_mem)) (by omega) (by omega) hq hz2) ?_
 rintro _ _ ⟨rfl, rfl⟩
 refine oa rfl <| tq <| rB <| om rfl <| ob rfl (by exact sJ) ?_
 refine om rfl <| ob rfl (by exact sJ) ?_
 refine ob rfl (by exact (gT V4).trans (by rw [hbb, bne_self_eq_false])) ?_
 refine aB <| aG rfl <| aJ <| aD <| aH <| aK ?_
 refine bK (σ := Nat × Nat × Nat) (fun x => L.length - x.1) (fun x => [(0, .pointer (some ⟨2 * N + 1, 0, none⟩)), (1, .func (.func 93) ⟨[]⟩ ⟨[.pointer (some ⟨2 * B + 1, 0, none⟩)]⟩), (4, .int .i64 (w : Int)), (5, .int .i64 (h : Int)), (6, gsl x.2.1 x.1)]) (fun _ => S) (fun _ => fY S (rd N q a ++ [(B, AObj.cells [.pointer (some ⟨2 * N + 1, 0, none⟩)] sb true)])) (fun x => rd N q x.2.2 ++ ([(B, AObj.cells [.pointer (some ⟨2 * N + 1, 0, none⟩)] sb true)] ++ fK x.2.1 1 ((L.take x.1).flatMap vsM) x.1)) (fun x => x.1 ≤ L.length ∧ q.data.toList.drop x.2.2 = eE eX (L.drop x.1) ++ z ∧ x.2.2 + (eE eX (L.drop x.1)).length = a + (aF w ++ aF h ++ eE eX L).length ∧ (x.1 = 0 ∨ x.1 = L.length ∨ ∀ pv v, L[x.1 - 1]? = some pv → L[x.1]? = some v → pv ≠ v)) ((0, 0, a + (aF w).length + (aF h).length)) (⟨Nat.zero_le _, hz3, (by simp only [List.drop_zero, List.length_append]; omega), .inl rfl⟩) pK rfl rfl (List.Sublist.refl _) ?_
 intro st hJ2 t1
 obtain ⟨i, M1, p⟩ := st
 dsimp only at hJ2 ⊢
 obtain ⟨hi, hp, hpe, hrun⟩ := hJ2
 refine aH <| aH ?_
 rcases Nat.lt_or_ge i L.length with hk | hk
 ·obtain ⟨j, v, hiv, hij, hjl, hall, hend⟩ := aKn hk
  have hstep := iS (val := eX) hiv hij hjl hall hend
  have hlv : LeM v := hv v (List.mem_of_getElem? hiv)
  have hn1 : q.data.toList.drop p = aF (j - i - 1) ++ (eX v ++ (eE eX (L.drop j) ++ z)) := by rw [hp, hstep]; simp only [List.append_assoc]
  have hn2 : q.data.toList.drop (p + (aF (j - i - 1)).length) = eX v ++ (eE eX (L.drop j) ++ z) := by rw [← List.drop_drop, hn1, List.drop_left]
  have hn3 : q.data.toList.drop (p + (aF (j - i - 1)).length + (eX v).length) = eE eX (L.drop j) ++ z := by rw [← List.drop_drop, hn2, List.drop_left]
  refine rA <| om rfl <| jZ rfl rfl rfl rfl rfl rfl V22 ?_
  refine om rfl <| om rfl <| ob rfl (by exact gE (c := ((L.length : Nat) : Int)) (by rw [hwl]; exact cO (by omega) (by omega))) ?_
  refine ob rfl (by exact aX (by omega)) ?_
  refine om rfl <| om rfl ?_
  (refine kO (Li := rd N q (p)) (fun u Lo => u = .int .i64 0 ∧ Lo = rd N q (p)) rfl rfl (fun h => nomatch h) rfl qX oV tK (fun h => nomatch h) (fun H hH => nL (hH.have fun p hp => by repeat (first | exact hp | exact List.mem_append_left _ hp | exact List.mem_append_left _ (List.mem_append_left _ hp) | apply List.mem_append_right | apply List.mem_cons_of_mem))) ?_; rintro _ _ ⟨rfl, rfl⟩)
  refine ob rfl (by exact cM (by rfl)) ?_
  refine pt rfl <| aB <| aO rfl <| aJ <| aD <| aK <| rB <| om rfl <| om rfl <| om rfl <| ob rfl (by exact gE (c := ((L.length : Nat) : Int)) (by rw [hwl]; exact cO (by omega) (by omega))) ?_
  refine om rfl <| jZ rfl rfl rfl rfl rfl rfl V22 ?_
  refine ob rfl (by exact fR (c := ((L.length - i : Nat) : Int)) (by rw [cO (by omega) (by omega)]; omega)) ?_
  refine ob rfl (by exact fR (c := ((L.length - i - 1 : Nat) : Int)) (by rw [cO (by omega) (by omega)]; omega)) ?_
  refine ot (rd N q (p)) (fun u Lo => u = .int .i64 ((j - i - 1 : Nat) : Int) ∧ Lo = rd N q (p + (aF (j - i - 1)).length)) mO oV (fun H hH => fE (hH.have fun p hp => by repeat (first | exact hp | exact List.mem_append_left _ hp | exact List.mem_append_left _ (List.mem_append_left _ hp) | apply List.mem_append_right | apply List.mem_cons_of_mem)) (m := ((L.length - i - 1 : Nat) : Int)) (n := j - i - 1) (by omega) (by omega) hq hn1) ?_
  rintro _ _ ⟨rfl, rfl⟩
  refine oa rfl <| rC <| om rfl <| nC (Li := rd N q (p + (aF (j - i - 1)).length) ++ [(B, AObj.cells [.pointer (some ⟨2 * N + 1, 0, none⟩)] sb true)]) (fun u Lo => u = .int .i64 ((v : Nat) : Int) ∧ Lo = rd N q (p + (aF (j - i - 1)).length + (eX v).length) ++ [(B, AObj.cells [.pointer (some ⟨2 * N + 1, 0, none⟩)] sb true)]) rfl rfl nM rfl rfl has93 oV rfl (by exact Takes.app) nM (fun H hH => aYa (hv v (List.mem_of_getElem? hiv)) hq (hH.have fun p hp => (List.mem_append.1 hp).elim (fun h => List.mem_append_left _ h) (fun h => List.mem_append_right _ (List.mem_append_left _ h))) (hH.dist.sublist (List.Sublist.append_left (List.sublist_append_left _ _) _)) hn2) ?_
  rintro _ _ ⟨rfl, rfl⟩
  refine oa rfl <| tq <| aH ?_
  rcases Nat.eq_zero_or_pos i with hi0 | hi0
  ·refine rA <| om rfl <| jZ rfl rfl rfl rfl rfl rfl V22 ?_
   refine ob rfl (by exact bW (by omega)) ?_
   refine om rfl <| aC rfl rfl rfl <| aC rfl rfl rfl <| aC rfl rfl rfl <| aC rfl rfl rfl <| aC rfl rfl rfl <| aC rfl rfl rfl <| aC rfl rfl rfl <| aC rfl rfl rfl <| pQ rfl <| aB <| aG rfl <| aJ <| aD <| aH <| rB <| om rfl <| ot (rd N q ((p + (aF (j - i - 1)).length + (eX v).length))) (fun u Lo => u = .int .i64 0 ∧ Lo = rd N q ((p + (aF (j - i - 1)).length + (eX v).length))) qX oV (fun H hH => nL (hH.have fun p hp => by repeat (first | exact hp | exact List.mem_append_left _ hp | exact List.mem_append_left _ (List.mem_append_left _ hp) | apply List.mem_append_right | apply List.mem_cons_of_mem))) ?_
   rintro _ _ ⟨rfl, rfl⟩
   refine ob rfl (by exact bP (by rfl)) ?_
   refine aB <| aG rfl <| aJ <| aD <| rB <| om rfl <| ob rfl (by exact jW (c := ((j - i : Nat) : Int)) (by rw [cO (by omega) (by omega)]; omega)) ?_
   refine om rfl <| aB <| aK ?_
   refine bK (σ := Nat × Nat) (fun x => j - i - x.1) (fun x => [(0, .pointer (some ⟨2 * N + 1, 0, none⟩)), (1, .func (.func 93) ⟨[]⟩ ⟨[.pointer (some ⟨2 * B + 1, 0, none⟩)]⟩), (4, .int .i64 (w : Int)), (5, .int .i64 (h : Int)), (6, gsl x.2 (i + x.1)), (8, .int .i64 ((v : Nat) : Int)), (61, .int .i64 ((j - i : Nat) : Int)), (62, .int .i64 ((x.1 : Nat) : Int))]) (fun _ => S) (fun _ => fY S (rd N q a ++ [(B, AObj.cells [.pointer (some ⟨2 * N + 1, 0, none⟩)] sb true)])) (fun x => rd N q (p + (aF (j - i - 1)).length + (eX v).length) ++ ([(B, AObj.cells [.pointer (some ⟨2 * N + 1, 0, none⟩)] sb true)] ++ fK x.2 1 ((L.take (i + x.1)).flatMap vsM) (i + x.1))) (fun x => x.1 ≤ j - i) ((0, M1)) ((Nat.zero_le _)) pK rfl rfl (List.Sublist.refl _) ?_
   intro st2 hJ2 t2
   obtain ⟨s, M2⟩ := st2
   dsimp only at hJ2 ⊢
   refine aH ?_
   rcases Nat.lt_or_ge s (j - i) with hs | hs
   ·have hsv : L[i + s]? = some v := by
     obtain ⟨b, hb⟩ : ∃ b, L[i + s]? = some b := ⟨_, List.getElem?_eq_getElem (by omega)⟩
     rw [hb, hall _ b (by omega) (by omega) hb]
    refine rA <| ob rfl (by exact aX (by omega)) ?_
    refine tq <| aO rfl <| aJ <| aD <| aH <| aK <| rA <| om rfl <| om rfl <| aM (out := vsM v) rfl rfl nM oP V22 aI rfl rfl (by kernel_rfl) rfl rfl ?_
    intro N66
    refine iW (bt := 8) (sz := 1) (L1 := _ :: (rd N q _ ++ [(B, AObj.cells [.pointer (some ⟨2 * N + 1, 0, none⟩)] sb true)])) (cs' := ((L.take (i + s + 1)).flatMap vsM)) rfl rfl nM rfl rfl rfl rfl rfl V22 V22 (by rfl) aI rfl rfl (by decide) rfl (eL (List.mem_append_left _ mA) rfl) (by rw [kH (f := vsM) (s := 1) (fun _ => rfl), List.length_take]; omega) rfl (by omega) (by omega) (qI hsv) nM ?_
    intro M3
    refine oa rfl <| aZ <| bA <| aD <| rA <| ob rfl (by exact aY (by omega)) ?_
    refine om rfl <| aZ ?_
    refine cN (s + 1, M3) (show j - i - (s + 1) < j - i - s by omega) (show s + 1 ≤ j - i by omega) pK rfl rfl ?_
    exact List.Sublist.cons _ (by show List.Sublist _ ((_ ++ _) ++ _); rw [List.append_assoc]; exact List.Sublist.refl _)
   ·obtain rfl : s = j - i := by omega
    rw [show i + (j - i) = j by omega]
    refine rA <| ob rfl (by exact aW (by omega)) ?_
    refine tq <| aG rfl <| bJ <| aR <| aS <| aN <| bA ?_
    refine cN (j, M2, (p + (aF (j - i - 1)).length + (eX v).length)) (show L.length - j < L.length - i by omega) ⟨(show j ≤ L.length by omega), hn3, (show (p + (aF (j - i - 1)).length + (eX v).length) + (eE eX (L.drop j)).length = _ by rw [← hpe, hstep]; simp only [List.length_append]; omega), .inr ?_⟩ pK rfl rfl (List.Sublist.refl _)
    rcases Nat.lt_or_ge j L.length with h9 | h9
    ·exact .inr fun pv w2 h1 h2 e => by rw [e] at h1; exact hend w2 h2 (hall (j - 1) w2 (by omega) (by omega) h1)
    ·exact .inl (by show j = L.length; omega)
  ·obtain ⟨pv, hpv⟩ : ∃ pv, L[i - 1]? = some pv := ⟨_, List.getElem?_eq_getElem (by omega)⟩
   have hne : pv ≠ v := by
    rcases hrun with h9 | h9 | h9
    ·exact absurd h9 (by omega)
    ·omega
    ·exact h9 pv v hpv hiv
   have hpv : (L.take i)[i - 1]? = some pv := by rw [List.getElem?_take, if_pos (by omega)]; exact hpv
   refine rA <| om rfl <| jZ rfl rfl rfl rfl rfl rfl V22 ?_
   refine ob rfl (by exact cR (by omega)) ?_
   refine om rfl <| om rfl <| om rfl <| jZ rfl rfl rfl rfl rfl rfl V22 ?_
   refine ob rfl (by exact fR (c := ((i - 1 : Nat) : Int)) (by rw [cO (by omega) (by omega)]; omega)) ?_
   refine aCf (s := 1) (o' := (i - 1) * 1) rfl rfl rfl rfl V22 aI rfl (by omega) (Nat.zero_add _) ?_
   refine aV rfl rfl rfl (by exact gC V3 rfl (List.mem_append_right _ (aGy hi0)) (show (((L.take i).flatMap vsM))[(i - 1) * 1]? = some (.int .i64 ((pv : Nat) : Int)) by rw [Nat.mul_one]; exact aCd hpv)) ?_
   refine om rfl <| ob rfl (by exact cL (aWx hne)) ?_
   refine pt rfl <| aB <| aG rfl <| aJ <| aD <| aH <| rB <| om rfl <| ot (rd N q ((p + (aF (j - i - 1)).length + (eX v).length))) (fun u Lo => u = .int .i64 0 ∧ Lo = rd N q ((p + (aF (j - i - 1)).length + (eX v).length))) qX oV (fun H hH => nL (hH.have fun p hp => by repeat (first | exact hp | exact List.mem_append_left _ hp | exact List.mem_append_left _ (List.mem_append_left _ hp) | apply List.mem_append_right | apply List.mem_cons_of_mem))) ?_
   rintro _ _ ⟨rfl, rfl⟩
   refine ob rfl (by exact bP (by rfl)) ?_
   refine aB <| aG rfl <| aJ <| aD <| rB <| om rfl <| ob rfl (by exact jW (c := ((j - i : Nat) : Int)) (by rw [cO (by omega) (by omega)]; omega)) ?_
   refine om rfl <| aB <| aK ?_
   refine bK (σ := Nat × Nat) (fun x => j - i - x.1) (fun x => [(0, .pointer (some ⟨2 * N + 1, 0, none⟩)), (1, .func (.func 93) ⟨[]⟩ ⟨[.pointer (some ⟨2 * B + 1, 0, none⟩)]⟩), (4, .int .i64 (w : Int)), (5, .int .i64 (h : Int)), (6, gsl x.2 (i + x.1)), (8, .int .i64 ((v : Nat) : Int)), (61, .int .i64 ((j - i : Nat) : Int)), (62, .int .i64 ((x.1 : Nat) : Int))]) (fun _ => S) (fun _ => fY S (rd N q a ++ [(B, AObj.cells [.pointer (some ⟨2 * N + 1, 0, none⟩)] sb true)])) (fun x => rd N q (p + (aF (j - i - 1)).length + (eX v).length) ++ ([(B, AObj.cells [.pointer (some ⟨2 * N + 1, 0, none⟩)] sb true)] ++ fK x.2 1 ((L.take (i + x.1)).flatMap vsM) (i + x.1))) (fun x => x.1 ≤ j - i) ((0, M1)) ((Nat.zero_le _)) pK rfl rfl (List.Sublist.refl _) ?_
   intro st2 hJ2 t2
   obtain ⟨s, M2⟩ := st2
   dsimp only at hJ2 ⊢
   refine aH ?_
   rcases Nat.lt_or_ge s (j - i) with hs | hs
   ·have hsv : L[i + s]? = some v := by
     obtain ⟨b, hb⟩ : ∃ b, L[i + s]? = some b := ⟨_, List.getElem?_eq_getElem (by omega)⟩
     rw [hb, hall _ b (by omega) (by omega) hb]
    refine rA <| ob rfl (by exact aX (by omega)) ?_
    refine tq <| aO rfl <| aJ <| aD <| aH <| aK <| rA <| om rfl <| om rfl <| aM (out := vsM v) rfl rfl nM oP V22 aI rfl rfl (by kernel_rfl) rfl rfl ?_
    intro N66
    refine iW (bt := 8) (sz := 1) (L1 := _ :: (rd N q _ ++ [(B, AObj.cells [.pointer (some ⟨2 * N + 1, 0, none⟩)] sb true)])) (cs' := ((L.take (i + s + 1)).flatMap vsM)) rfl rfl nM rfl rfl rfl rfl rfl V22 V22 (by rfl) aI rfl rfl (by decide) rfl (eL (List.mem_append_left _ mA) rfl) (by rw [kH (f := vsM) (s := 1) (fun _ => rfl), List.length_take]; omega) rfl (by omega) (by omega) (qI hsv) nM ?_
    intro M3
    refine oa rfl <| aZ <| bA <| aD <| rA <| ob rfl (by exact aY (by omega)) ?_
    refine om rfl <| aZ ?_
    refine cN (s + 1, M3) (show j - i - (s + 1) < j - i - s by omega) (show s + 1 ≤ j - i by omega) pK rfl rfl ?_
    exact List.Sublist.cons _ (by show List.Sublist _ ((_ ++ _) ++ _); rw [List.append_assoc]; exact List.Sublist.refl _)
   ·obtain rfl : s = j - i := by omega
    rw [show i + (j - i) = j by omega]
    refine rA <| ob rfl (by exact aW (by omega)) ?_
    refine tq <| aG rfl <| bJ <| aR <| aS <| aN <| bA ?_
    refine cN (j, M2, (p + (aF (j - i - 1)).length + (eX v).length)) (show L.length - j < L.length - i by omega) ⟨(show j ≤ L.length by omega), hn3, (show (p + (aF (j - i - 1)).length + (eX v).length) + (eE eX (L.drop j)).length = _ by rw [← hpe, hstep]; simp only [List.length_append]; omega), .inr ?_⟩ pK rfl rfl (List.Sublist.refl _)
    rcases Nat.lt_or_ge j L.length with h9 | h9
    ·exact .inr fun pv w2 h1 h2 e => by rw [e] at h1; exact hend w2 h2 (hall (j - 1) w2 (by omega) (by omega) h1)
    ·exact .inl (by show j = L.length; omega)
 ·obtain rfl : i = L.length := by omega
  have hend : p = a + (aF w ++ aF h ++ eE eX L).length := by rw [oH] at hpe; simpa using hpe
  rw [hend, List.take_length]
  refine rA <| om rfl <| jZ rfl rfl rfl rfl rfl rfl V22 ?_
  refine om rfl <| om rfl <| ob rfl (by exact gE (c := ((L.length : Nat) : Int)) (by rw [hwl]; exact cO (by omega) (by omega))) ?_
  refine ob rfl (by exact aW (by omega)) ?_
  refine om rfl <| aC rfl rfl rfl <| aC rfl rfl rfl <| aC rfl rfl rfl <| pQ rfl <| aB <| aG rfl <| bJ <| aR <| aS <| aN <| aD <| aH <| rB <| om rfl <| ot (rd N q (a + (aF w ++ aF h ++ eE eX L).length)) (fun u Lo => u = .int .i64 0 ∧ Lo = rd N q (a + (aF w ++ aF h ++ eE eX L).length)) qX oV (fun H hH => nL (hH.have fun p hp => by repeat (first | exact hp | exact List.mem_append_left _ hp | exact List.mem_append_left _ (List.mem_append_left _ hp) | apply List.mem_append_right | apply List.mem_cons_of_mem))) ?_
  rintro _ _ ⟨rfl, rfl⟩
  refine ob rfl (by exact bP (by rfl)) ?_
  refine aB <| aG rfl <| aJ <| aD <| rB <| om rfl <| om rfl <| om rfl <| oa rfl <| oa rfl <| oa rfl <| aB <| aT <| oL (.tmp rfl (.tmp rfl (.tmp rfl .nil))) rfl ?_
  exact fun H hH => ⟨_, hH.turned (Gr.refl _ _) ⟨_, List.Mem.head _⟩, _, rfl, rfl⟩
set_option maxHeartbeats 4000000 in
theorem aOw {S : AH} {N B a sb w h : Nat} {q : ByteArray} {L : List (Nat × Nat × Nat × Nat)} {z : List UInt8} (hw : w ≤ 256) (hh : h ≤ 256) (hwh : w = 0 ↔ h = 0) (hL : L.length = w * h) (hv : ∀ v ∈ L, LeP v) (hq : q.data.toList.length ≤ 1099511627776) (hin : ∀ p ∈ rd N q a ++ [(B, AObj.cells [.pointer (some ⟨2 * N + 1, 0, none⟩)] sb true)], S.tr.get p.1 = some p.2 ∧ p.1 < S.nx) (hd : (rd N q a ++ [(B, AObj.cells [.pointer (some ⟨2 * N + 1, 0, none⟩)] sb true)]).Pairwise (fun p q => p.1 ≠ q.1)) (hz : q.data.toList.drop a = (aF w ++ aF h ++ eE eY L) ++ z) : XCall Tryz.prog 94 [.pointer (some ⟨2 * N + 1, 0, none⟩), .func (.func 95) ⟨[]⟩ ⟨[.pointer (some ⟨2 * B + 1, 0, none⟩)]⟩] S fun u H' => ∃ Lo, Turned (rd N q a ++ [(B, AObj.cells [.pointer (some ⟨2 * N + 1, 0, none⟩)] sb true)]) S H' Lo ∧ ∃ M, u = .tuple ⟨[.int .i64 (w : Int), .int .i64 (h : Int), gsl M L.length]⟩ ∧ Lo = rd N q (a + (aF w ++ aF h ++ eE eY L).length) ++ ([(B, AObj.cells [.pointer (some ⟨2 * N + 1, 0, none⟩)] sb true)] ++ fK M 4 (L.flatMap vsP) L.length) := by
 have hwl : (w : Int) * (h : Int) = ((L.length : Nat) : Int) := by rw [hL]; exact (Int.natCast_mul w h).symm
 have hL6 : L.length ≤ 65536 := by rw [hL]; exact Nat.mul_le_mul hw hh
 have hbb : (((w : Nat) : Int) == 0) = (((h : Nat) : Int) == 0) := by rw [Bool.eq_iff_iff]; simp only [beq_iff_eq]; omega
 rw [List.append_assoc, List.append_assoc] at hz
 have hz2 : q.data.toList.drop (a + (aF w).length) = aF h ++ (eE eY L ++ z) := by rw [← List.drop_drop, hz, List.drop_left]
 have hz3 : q.data.toList.drop (a + (aF w).length + (aF h).length) = eE eY L ++ z := by rw [← List.drop_drop, hz2, List.drop_left]
 refine cX (E := E) (Li := rd N q a ++ [(B, AObj.cells [.pointer (some ⟨2 * N + 1, 0, none⟩)] sb true)]) (n := 75) (rs := [.tmp 4, .tmp 5, .tmp 6]) (l := [(1, _), (0, _)]) (aQ Tryz.func94 rfl rfl rfl) hin hd rfl ?_
 refine rB <| oa rfl <| oa rfl <| oa rfl <| rC <| om rfl <| ot (rd N q (a)) (fun u Lo => u = .int .i64 (w : Int) ∧ Lo = rd N q (a + (aF w).length)) mO oV (fun H hH => fE (hH.have fun p hp => by repeat (first | exact hp | exact List.mem_append_left _ hp | exact List.mem_append_left _ (List.mem_append_left _ hp) | apply List.mem_append_right | apply List.mem_cons_of_mem)) (by omega) (by omega) hq hz) ?_
 rintro _ _ ⟨rfl, rfl⟩
 refine oa rfl <| rC <| om rfl <| ot (rd N q (a + (aF w).length)) (fun u Lo => u = .int .i64 (h : Int) ∧ Lo = rd N q (a + (aF w).length + (aF h).length)) mO oV (fun H hH => fE (hH.have fun p hp => by repeat (first | exact hp | exact List.mem_append_left _ hp | exact List.mem_append_left _ (List.mem_append_left _ hp) | apply List.mem_append_right | apply List.mem_cons_of_mem)) (by omega) (by omega) hq hz2) ?_
 rintro _ _ ⟨rfl, rfl⟩
 refine oa rfl <| tq <| rB <| om rfl <| ob rfl (by exact sJ) ?_
 refine om rfl <| ob rfl (by exact sJ) ?_
 refine ob rfl (by exact (gT V4).trans (by rw [hbb, bne_self_eq_false])) ?_
 refine aB <| aG rfl <| aJ <| aD <| aH <| aK ?_
 refine bK (σ := Nat × Nat × Nat) (fun x => L.length - x.1) (fun x => [(0, .pointer (some ⟨2 * N + 1, 0, none⟩)), (1, .func (.func 95) ⟨[]⟩ ⟨[.pointer (some ⟨2 * B + 1, 0, none⟩)]⟩), (4, .int .i64 (w : Int)), (5, .int .i64 (h : Int)), (6, gsl x.2.1 x.1)]) (fun _ => S) (fun _ => fY S (rd N q a ++ [(B, AObj.cells [.pointer (some ⟨2 * N + 1, 0, none⟩)] sb true)])) (fun x => rd N q x.2.2 ++ ([(B, AObj.cells [.pointer (some ⟨2 * N + 1, 0, none⟩)] sb true)] ++ fK x.2.1 4 ((L.take x.1).flatMap vsP) x.1)) (fun x => x.1 ≤ L.length ∧ q.data.toList.drop x.2.2 = eE eY (L.drop x.1) ++ z ∧ x.2.2 + (eE eY (L.drop x.1)).length = a + (aF w ++ aF h ++ eE eY L).length ∧ (x.1 = 0 ∨ x.1 = L.length ∨ ∀ pv v, L[x.1 - 1]? = some pv → L[x.1]? = some v → pv ≠ v)) ((0, 0, a + (aF w).length + (aF h).length)) (⟨Nat.zero_le _, hz3, (by simp only [List.drop_zero, List.length_append]; omega), .inl rfl⟩) pK rfl rfl (List.Sublist.refl _) ?_
 intro st hJ2 t1
 obtain ⟨i, M1, p⟩ := st
 dsimp only at hJ2 ⊢
 obtain ⟨hi, hp, hpe, hrun⟩ := hJ2
 refine aH <| aH ?_
 rcases Nat.lt_or_ge i L.length with hk | hk
 ·obtain ⟨j, v, hiv, hij, hjl, hall, hend⟩ := aKn hk
  have hstep := iS (val := eY) hiv hij hjl hall hend
  have hlv : LeP v := hv v (List.mem_of_getElem? hiv)
  have hn1 : q.data.toList.drop p = aF (j - i - 1) ++ (eY v ++ (eE eY (L.drop j) ++ z)) := by rw [hp, hstep]; simp only [List.append_assoc]
  have hn2 : q.data.toList.drop (p + (aF (j - i - 1)).length) = eY v ++ (eE eY (L.drop j) ++ z) := by rw [← List.drop_drop, hn1, List.drop_left]
  have hn3 : q.data.toList.drop (p + (aF (j - i - 1)).length + (eY v).length) = eE eY (L.drop j) ++ z := by rw [← List.drop_drop, hn2, List.drop_left]
  refine rA <| om rfl <| jZ rfl rfl rfl rfl rfl rfl V27 ?_
  refine om rfl <| om rfl <| ob rfl (by exact gE (c := ((L.length : Nat) : Int)) (by rw [hwl]; exact cO (by omega) (by omega))) ?_
  refine ob rfl (by exact aX (by omega)) ?_
  refine om rfl <| om rfl ?_
  (refine kO (Li := rd N q (p)) (fun u Lo => u = .int .i64 0 ∧ Lo = rd N q (p)) rfl rfl (fun h => nomatch h) rfl qX oV tK (fun h => nomatch h) (fun H hH => nL (hH.have fun p hp => by repeat (first | exact hp | exact List.mem_append_left _ hp | exact List.mem_append_left _ (List.mem_append_left _ hp) | apply List.mem_append_right | apply List.mem_cons_of_mem))) ?_; rintro _ _ ⟨rfl, rfl⟩)
  refine ob rfl (by exact cM (by rfl)) ?_
  refine pt rfl <| aB <| aO rfl <| aJ <| aD <| aK <| rB <| om rfl <| om rfl <| om rfl <| ob rfl (by exact gE (c := ((L.length : Nat) : Int)) (by rw [hwl]; exact cO (by omega) (by omega))) ?_
  refine om rfl <| jZ rfl rfl rfl rfl rfl rfl V27 ?_
  refine ob rfl (by exact fR (c := ((L.length - i : Nat) : Int)) (by rw [cO (by omega) (by omega)]; omega)) ?_
  refine ob rfl (by exact fR (c := ((L.length - i - 1 : Nat) : Int)) (by rw [cO (by omega) (by omega)]; omega)) ?_
  refine ot (rd N q (p)) (fun u Lo => u = .int .i64 ((j - i - 1 : Nat) : Int) ∧ Lo = rd N q (p + (aF (j - i - 1)).length)) mO oV (fun H hH => fE (hH.have fun p hp => by repeat (first | exact hp | exact List.mem_append_left _ hp | exact List.mem_append_left _ (List.mem_append_left _ hp) | apply List.mem_append_right | apply List.mem_cons_of_mem)) (m := ((L.length - i - 1 : Nat) : Int)) (n := j - i - 1) (by omega) (by omega) hq hn1) ?_
  rintro _ _ ⟨rfl, rfl⟩
  refine oa rfl <| rC <| om rfl <| nC (Li := rd N q (p + (aF (j - i - 1)).length) ++ [(B, AObj.cells [.pointer (some ⟨2 * N + 1, 0, none⟩)] sb true)]) (fun u Lo => u = .agg ⟨vsP v⟩ ∧ Lo = rd N q (p + (aF (j - i - 1)).length + (eY v).length) ++ [(B, AObj.cells [.pointer (some ⟨2 * N + 1, 0, none⟩)] sb true)]) rfl rfl nM rfl rfl has95 oV rfl (by exact Takes.app) nM (fun H hH => aXh (hv v (List.mem_of_getElem? hiv)) hq (hH.have fun p hp => (List.mem_append.1 hp).elim (fun h => List.mem_append_left _ h) (fun h => List.mem_append_right _ (List.mem_append_left _ h))) (hH.dist.sublist (List.Sublist.append_left (List.sublist_append_left _ _) _)) hn2) ?_
  rintro _ _ ⟨rfl, rfl⟩
  refine bR (cs := (.int .i64 0 :: .int .i64 0 :: .int .i64 0 :: .int .i64 0 :: [])) rfl rfl nM bL rfl rfl ?_
  intro N8
  refine bX rfl nM rfl rfl bL (by rfl) rfl uP (by exact fS rfl) (by exact Nat.le_of_ble_eq_true rfl) nM ?_
  refine tq <| aH ?_
  rcases Nat.eq_zero_or_pos i with hi0 | hi0
  ·refine cC (E := E) mixed [] _ (List.Sublist.refl _) (by kernel_rfl) (by kernel_rfl) (by decide) ?_
   refine om rfl <| jZ rfl rfl rfl rfl rfl rfl V27 ?_
   refine ob rfl (by exact bW (by omega)) ?_
   refine om rfl <| aC rfl rfl rfl <| aC rfl rfl rfl <| aC rfl rfl rfl <| aC rfl rfl rfl <| aC rfl rfl rfl <| aC rfl rfl rfl <| aC rfl rfl rfl <| aC rfl rfl rfl <| pQ rfl <| aB <| aG rfl <| aJ <| aD <| aH <| rB <| om rfl <| ot (rd N q ((p + (aF (j - i - 1)).length + (eY v).length))) (fun u Lo => u = .int .i64 0 ∧ Lo = rd N q ((p + (aF (j - i - 1)).length + (eY v).length))) qX oV (fun H hH => nL (hH.have fun p hp => by repeat (first | exact hp | exact List.mem_append_left _ hp | exact List.mem_append_left _ (List.mem_append_left _ hp) | apply List.mem_append_right | apply List.mem_cons_of_mem))) ?_
   rintro _ _ ⟨rfl, rfl⟩
   refine ob rfl (by exact bP (by rfl)) ?_
   refine aB <| aG rfl <| aJ <| aD <| rB <| om rfl <| ob rfl (by exact jW (c := ((j - i : Nat) : Int)) (by rw [cO (by omega) (by omega)]; omega)) ?_
   refine om rfl <| aB <| aK ?_
   refine bK (σ := Nat × Nat) (fun x => j - i - x.1) (fun x => [(0, .pointer (some ⟨2 * N + 1, 0, none⟩)), (1, .func (.func 95) ⟨[]⟩ ⟨[.pointer (some ⟨2 * B + 1, 0, none⟩)]⟩), (4, .int .i64 (w : Int)), (5, .int .i64 (h : Int)), (6, gsl x.2 (i + x.1)), (8, .pointer (some ⟨2 * N8 + 1, 0, none⟩)), (61, .int .i64 ((j - i : Nat) : Int)), (62, .int .i64 ((x.1 : Nat) : Int))]) (fun _ => S) (fun _ => fY S (rd N q a ++ [(B, AObj.cells [.pointer (some ⟨2 * N + 1, 0, none⟩)] sb true)])) (fun x => rd N q (p + (aF (j - i - 1)).length + (eY v).length) ++ ((N8, AObj.cells (vsP v) (cI E 31) true) :: [(B, AObj.cells [.pointer (some ⟨2 * N + 1, 0, none⟩)] sb true)] ++ fK x.2 4 ((L.take (i + x.1)).flatMap vsP) (i + x.1))) (fun x => x.1 ≤ j - i) ((0, M1)) ((Nat.zero_le _)) pK rfl rfl (List.Sublist.refl _) ?_
   intro st2 hJ2 t2
   obtain ⟨s, M2⟩ := st2
   dsimp only at hJ2 ⊢
   refine aH ?_
   rcases Nat.lt_or_ge s (j - i) with hs | hs
   ·have hsv : L[i + s]? = some v := by
     obtain ⟨b, hb⟩ : ∃ b, L[i + s]? = some b := ⟨_, List.getElem?_eq_getElem (by omega)⟩
     rw [hb, hall _ b (by omega) (by omega) hb]
    refine rA <| ob rfl (by exact aX (by omega)) ?_
    refine tq <| aO rfl <| aJ <| aD <| aH <| aK <| rA <| om rfl <| aV rfl rfl rfl (by exact bV V31 rfl bL rfl mA (by exact Nat.le_of_ble_eq_true rfl) (by rfl)) ?_
    refine aM (out := vsP v) rfl rfl nM oP V27 bL rfl rfl (by kernel_rfl) rfl rfl ?_
    intro N66
    refine iW (bt := 32) (sz := 4) (L1 := _ :: (rd N q _ ++ (_ :: [(B, AObj.cells [.pointer (some ⟨2 * N + 1, 0, none⟩)] sb true)]))) (cs' := ((L.take (i + s + 1)).flatMap vsP)) rfl rfl nM rfl rfl rfl rfl rfl V27 V27 (by rfl) bL rfl rfl (by decide) rfl (eL (List.mem_append_left _ mA) rfl) (by rw [kH (f := vsP) (s := 4) (fun _ => rfl), List.length_take]; omega) rfl (by omega) (by omega) (qI hsv) nM ?_
    intro M3
    refine oa rfl <| aZ <| bA <| aD <| rA <| ob rfl (by exact aY (by omega)) ?_
    refine om rfl <| aZ ?_
    refine cN (s + 1, M3) (show j - i - (s + 1) < j - i - s by omega) (show s + 1 ≤ j - i by omega) pK rfl rfl ?_
    exact List.Sublist.cons _ (by show List.Sublist _ ((_ ++ (_ :: _)) ++ _); rw [List.append_assoc]; exact List.Sublist.refl _)
   ·obtain rfl : s = j - i := by omega
    rw [show i + (j - i) = j by omega]
    refine rA <| ob rfl (by exact aW (by omega)) ?_
    refine tq <| aG rfl <| bJ <| aR <| aS <| aN <| bA ?_
    refine cN (j, M2, (p + (aF (j - i - 1)).length + (eY v).length)) (show L.length - j < L.length - i by omega) ⟨(show j ≤ L.length by omega), hn3, (show (p + (aF (j - i - 1)).length + (eY v).length) + (eE eY (L.drop j)).length = _ by rw [← hpe, hstep]; simp only [List.length_append]; omega), .inr ?_⟩ pK rfl rfl (List.Sublist.cons_cons _ (List.Sublist.cons _ (List.Sublist.refl _)))
    rcases Nat.lt_or_ge j L.length with h9 | h9
    ·exact .inr fun pv w2 h1 h2 e => by rw [e] at h1; exact hend w2 h2 (hall (j - 1) w2 (by omega) (by omega) h1)
    ·exact .inl (by show j = L.length; omega)
  ·obtain ⟨pv, hpv⟩ : ∃ pv, L[i - 1]? = some pv := ⟨_, List.getElem?_eq_getElem (by omega)⟩
   have hne : pv ≠ v := by
    rcases hrun with h9 | h9 | h9
    ·exact absurd h9 (by omega)
    ·omega
    ·exact h9 pv v hpv hiv
   have hpv : (L.take i)[i - 1]? = some pv := by rw [List.getElem?_take, if_pos (by omega)]; exact hpv
   refine cC (E := E) mixed [] _ (List.Sublist.refl _) (by kernel_rfl) (by kernel_rfl) (by decide) ?_
   refine om rfl <| jZ rfl rfl rfl rfl rfl rfl V27 ?_
   refine ob rfl (by exact cR (by omega)) ?_
   refine om rfl <| om rfl <| om rfl <| jZ rfl rfl rfl rfl rfl rfl V27 ?_
   refine ob rfl (by exact fR (c := ((i - 1 : Nat) : Int)) (by rw [cO (by omega) (by omega)]; omega)) ?_
   refine aCf (s := 4) (o' := (i - 1) * 4) rfl rfl rfl rfl V27 bL rfl (by omega) (Nat.zero_add _) ?_
   refine aV rfl rfl rfl (by exact bV (s := 4) (off := (i - 1) * 4) V31 rfl bL rfl (List.Mem.tail _ (List.mem_append_right _ (aGy hi0))) (by have h9 := kH (f := vsP) (s := 4) (fun _ => rfl) (L.take i); rw [List.length_take] at h9; omega) (vD (f := vsP) (s := 4) (fun _ => rfl) hpv)) ?_
   refine aV rfl rfl rfl (by exact bV V31 rfl bL rfl mA (by exact Nat.le_of_ble_eq_true rfl) (by rfl)) ?_
   refine ob rfl (by exact bin_pix.trans (congrArg (fun z => some (Value.bool z)) (aXk hne))) ?_
   refine pt rfl <| aB <| aG rfl <| aJ <| aD <| aH <| rB <| om rfl <| ot (rd N q ((p + (aF (j - i - 1)).length + (eY v).length))) (fun u Lo => u = .int .i64 0 ∧ Lo = rd N q ((p + (aF (j - i - 1)).length + (eY v).length))) qX oV (fun H hH => nL (hH.have fun p hp => by repeat (first | exact hp | exact List.mem_append_left _ hp | exact List.mem_append_left _ (List.mem_append_left _ hp) | apply List.mem_append_right | apply List.mem_cons_of_mem))) ?_
   rintro _ _ ⟨rfl, rfl⟩
   refine ob rfl (by exact bP (by rfl)) ?_
   refine aB <| aG rfl <| aJ <| aD <| rB <| om rfl <| ob rfl (by exact jW (c := ((j - i : Nat) : Int)) (by rw [cO (by omega) (by omega)]; omega)) ?_
   refine om rfl <| aB <| aK ?_
   refine bK (σ := Nat × Nat) (fun x => j - i - x.1) (fun x => [(0, .pointer (some ⟨2 * N + 1, 0, none⟩)), (1, .func (.func 95) ⟨[]⟩ ⟨[.pointer (some ⟨2 * B + 1, 0, none⟩)]⟩), (4, .int .i64 (w : Int)), (5, .int .i64 (h : Int)), (6, gsl x.2 (i + x.1)), (8, .pointer (some ⟨2 * N8 + 1, 0, none⟩)), (61, .int .i64 ((j - i : Nat) : Int)), (62, .int .i64 ((x.1 : Nat) : Int))]) (fun _ => S) (fun _ => fY S (rd N q a ++ [(B, AObj.cells [.pointer (some ⟨2 * N + 1, 0, none⟩)] sb true)])) (fun x => rd N q (p + (aF (j - i - 1)).length + (eY v).length) ++ ((N8, AObj.cells (vsP v) (cI E 31) true) :: [(B, AObj.cells [.pointer (some ⟨2 * N + 1, 0, none⟩)] sb true)] ++ fK x.2 4 ((L.take (i + x.1)).flatMap vsP) (i + x.1))) (fun x => x.1 ≤ j - i) ((0, M1)) ((Nat.zero_le _)) pK rfl rfl (List.Sublist.refl _) ?_
   intro st2 hJ2 t2
   obtain ⟨s, M2⟩ := st2
   dsimp only at hJ2 ⊢
   refine aH ?_
   rcases Nat.lt_or_ge s (j - i) with hs | hs
   ·have hsv : L[i + s]? = some v := by
     obtain ⟨b, hb⟩ : ∃ b, L[i + s]? = some b := ⟨_, List.getElem?_eq_getElem (by omega)⟩
     rw [hb, hall _ b (by omega) (by omega) hb]
    refine rA <| ob rfl (by exact aX (by omega)) ?_
    refine tq <| aO rfl <| aJ <| aD <| aH <| aK <| rA <| om rfl <| aV rfl rfl rfl (by exact bV V31 rfl bL rfl mA (by exact Nat.le_of_ble_eq_true rfl) (by rfl)) ?_
    refine aM (out := vsP v) rfl rfl nM oP V27 bL rfl rfl (by kernel_rfl) rfl rfl ?_
    intro N66
    refine iW (bt := 32) (sz := 4) (L1 := _ :: (rd N q _ ++ (_ :: [(B, AObj.cells [.pointer (some ⟨2 * N + 1, 0, none⟩)] sb true)]))) (cs' := ((L.take (i + s + 1)).flatMap vsP)) rfl rfl nM rfl rfl rfl rfl rfl V27 V27 (by rfl) bL rfl rfl (by decide) rfl (eL (List.mem_append_left _ mA) rfl) (by rw [kH (f := vsP) (s := 4) (fun _ => rfl), List.length_take]; omega) rfl (by omega) (by omega) (qI hsv) nM ?_
    intro M3
    refine oa rfl <| aZ <| bA <| aD <| rA <| ob rfl (by exact aY (by omega)) ?_
    refine om rfl <| aZ ?_
    refine cN (s + 1, M3) (show j - i - (s + 1) < j - i - s by omega) (show s + 1 ≤ j - i by omega) pK rfl rfl ?_
    exact List.Sublist.cons _ (by show List.Sublist _ ((_ ++ (_ :: _)) ++ _); rw [List.append_assoc]; exact List.Sublist.refl _)
   ·obtain rfl : s = j - i := by omega
    rw [show i + (j - i) = j by omega]
    refine rA <| ob rfl (by exact aW (by omega)) ?_
    refine tq <| aG rfl <| bJ <| aR <| aS <| aN <| bA ?_
    refine cN (j, M2, (p + (aF (j - i - 1)).length + (eY v).length)) (show L.length - j < L.length - i by omega) ⟨(show j ≤ L.length by omega), hn3, (show (p + (aF (j - i - 1)).length + (eY v).length) + (eE eY (L.drop j)).length = _ by rw [← hpe, hstep]; simp only [List.length_append]; omega), .inr ?_⟩ pK rfl rfl (List.Sublist.cons_cons _ (List.Sublist.cons _ (List.Sublist.refl _)))
    rcases Nat.lt_or_ge j L.length with h9 | h9
    ·exact .inr fun pv w2 h1 h2 e => by rw [e] at h1; exact hend w2 h2 (hall (j - 1) w2 (by omega) (by omega) h1)
    ·exact .inl (by show j = L.length; omega)
 ·obtain rfl : i = L.length := by omega
  have hend : p = a + (aF w ++ aF h ++ eE eY L).length := by rw [oH] at hpe; simpa using hpe
  rw [hend, List.take_length]
  refine rA <| om rfl <| jZ rfl rfl rfl rfl rfl rfl V27 ?_
  refine om rfl <| om rfl <| ob rfl (by exact gE (c := ((L.length : Nat) : Int)) (by rw [hwl]; exact cO (by omega) (by omega))) ?_
  refine ob rfl (by exact aW (by omega)) ?_
  refine om rfl <| aC rfl rfl rfl <| aC rfl rfl rfl <| aC rfl rfl rfl <| pQ rfl <| aB <| aG rfl <| bJ <| aR <| aS <| aN <| aD <| aH <| rB <| om rfl <| ot (rd N q (a + (aF w ++ aF h ++ eE eY L).length)) (fun u Lo => u = .int .i64 0 ∧ Lo = rd N q (a + (aF w ++ aF h ++ eE eY L).length)) qX oV (fun H hH => nL (hH.have fun p hp => by repeat (first | exact hp | exact List.mem_append_left _ hp | exact List.mem_append_left _ (List.mem_append_left _ hp) | apply List.mem_append_right | apply List.mem_cons_of_mem))) ?_
  rintro _ _ ⟨rfl, rfl⟩
  refine ob rfl (by exact bP (by rfl)) ?_
  refine aB <| aG rfl <| aJ <| aD <| rB <| om rfl <| om rfl <| om rfl <| oa rfl <| oa rfl <| oa rfl <| aB <| aT <| oL (.tmp rfl (.tmp rfl (.tmp rfl .nil))) rfl ?_
  exact fun H hH => ⟨_, hH.turned (Gr.refl _ _) ⟨_, List.Mem.head _⟩, _, rfl, rfl⟩
end Go.Proofs.YteklajiaicmogaaGreatDoor
namespace Go.Proofs.YteklajiaicmogaaGreatDoor
open Go Go.AM
theorem has92 : ∃ fn, E.fn 92 = some fn := ⟨_, aQ Tryz.func92 rfl rfl rfl⟩
theorem has94 : ∃ fn, E.fn 94 = some fn := ⟨_, aQ Tryz.func94 rfl rfl rfl⟩
def kM : List Kd := [.int .i64, .int .i64, .row 8 [.int .i64]]
def kI : List Kd := [.int .i64, .int .i64, .row 32 kP]
def f3 (c : Nat → CT) (v : Value) : Nat → Value
 | 0 => .int .i64 (iv (c 0))
 | 1 => .int .i64 (iv (c 1))
 | _ => v
theorem aOj {A : Nat → Prop} {H : AH} {b : Nat} {ks : List Kd} {c : Nat → CT} {v : Value} (w : Wel [.int .i64, .int .i64, .row b ks] c) (h : CellA A H (.row b ks) v (c 2)) : Pts A H [.int .i64, .int .i64, .row b ks] (f3 c v) c := fun i k hk => by
 match i, hk with
 | 0, hk =>
  cases hk
  show CellA A H (.int .i64) (.int .i64 (iv (c 0))) (c 0)
  rw [w.ic (i := 0) rfl]
  simp only [CellA, iv]
  exact ⟨trivial, _, rfl, yY (w.iw (i := 0) rfl)⟩
 | 1, hk =>
  cases hk
  show CellA A H (.int .i64) (.int .i64 (iv (c 1))) (c 1)
  rw [w.ic (i := 1) rfl]
  simp only [CellA, iv]
  exact ⟨trivial, _, rfl, yY (w.iw (i := 1) rfl)⟩
 | 2, hk => cases hk; exact h
 | i + 3, hk => simp at hk
theorem aXr (H : AH) {d : List CT} (h : OkC [.int .i64] d) (hm : iI d = true) : vsM (fP d) = d.map CT.val := by
 obtain ⟨n, e, rfl, _⟩ := tB (h.2 (fun _ => False) H)
 have hu : 0 ≤ n ∧ n ≤ 65535 := uQ hm
 show [Value.int .i64 ((n.toNat : Nat) : Int)] = [.int .i64 n]
 rw [Int.toNat_of_nonneg hu.1]
theorem aWh (H : AH) {d : List CT} (h : OkC kP d) (hm : kV d = true) : vsP (fF d) = d.map CT.val := by
 obtain ⟨r, g, b, a, e, rfl, _⟩ := aHc (h.2 (fun _ => False) H)
 obtain ⟨h1, h2, h3, h4⟩ : (0 ≤ r ∧ r ≤ 65535) ∧ (0 ≤ g ∧ g ≤ 65535) ∧ (0 ≤ b ∧ b ≤ 65535) ∧ (0 ≤ a ∧ a ≤ 65535) := vJ hm
 show [Value.int .i64 ((r.toNat : Nat) : Int), .int .i64 ((g.toNat : Nat) : Int), .int .i64 ((b.toNat : Nat) : Int), .int .i64 ((a.toNat : Nat) : Int)] = [.int .i64 r, .int .i64 g, .int .i64 b, .int .i64 a]
 rw [Int.toNat_of_nonneg h1.1, Int.toNat_of_nonneg h2.1, Int.toNat_of_nonneg h3.1, Int.toNat_of_nonneg h4.1]
theorem mv_le {d : List CT} (hm : iI d = true) : LeM (fP d) := by
 have hu : 0 ≤ gY d ∧ gY d ≤ 65535 := uQ hm
 unfold LeM fP; omega
theorem pv_le {d : List CT} (hm : kV d = true) : LeP (fF d) := aLa (vJ hm)
set_option maxHeartbeats 1000000 in
theorem aGx {S : AH} {N a : Nat} {q : ByteArray} (hin : ∀ p ∈ rd N q a, S.tr.get p.1 = some p.2 ∧ p.1 < S.nx) {c : Nat → CT} {z : List UInt8} (w : Wel kM c) (hm : ckE iI (iv (c 0)) (iv (c 1)) (rv (c 2)) = 0) (hq : q.data.toList.length ≤ 1099511627776) (hz : q.data.toList.drop a = qU (iv (c 0)) (iv (c 1)) (rv (c 2)) ++ z) : XCall Tryz.prog 59 [.pointer (some ⟨2 * N + 1, 0, none⟩)] S fun u H' => ∃ Lo, Turned (rd N q a) S H' Lo ∧ ((∃ f, u = .agg ⟨cellsOf 3 f⟩ ∧ Pts (nu S H' Lo) H' kM f c) ∧ Lo = rd N q (a + (qU (iv (c 0)) (iv (c 1)) (rv (c 2))).length)) := by
 obtain ⟨w1, h1, e1, e2, hw, hh, hwh, hl, hl6, hall⟩ := qW hm
 have hok := w.ok (i := 2) rfl (by rfl)
 have hLl : ((rv (c 2)).map fP).length = (rv (c 2)).length := List.length_map _
 have hE : qU (iv (c 0)) (iv (c 1)) (rv (c 2)) = aF w1 ++ aF h1 ++ eE eX ((rv (c 2)).map fP) := by rw [qU, e1, e2]; rfl
 refine cX (E := E) (Li := rd N q a) (n := 17) (rs := [.cell 2 24]) (l := [(0, _)]) (aQ Tryz.func59 rfl rfl rfl) (fun p hp => hin p hp) (List.pairwise_singleton _ _) rfl ?_
 refine rB <| aKo rfl rfl nM rfl rfl ?_
 intro N1
 refine bR (cs := (.int .i64 0 :: .int .i64 0 :: .slice none 0 0 :: [])) rfl rfl nM fI rfl rfl ?_
 intro N2
 refine rC <| aV rfl rfl rfl (by exact gC V74 rfl mA rfl) ?_
 refine xK rfl rfl oV oV ?_
 refine kO (Li := rd N q a ++ [(N1, AObj.cells [.pointer (some ⟨2 * N + 1, 0, none⟩)] (cI E 74) true)]) (fun u Lo => ∃ M, u = .tuple ⟨[.int .i64 (w1 : Int), .int .i64 (h1 : Int), gsl M ((rv (c 2)).map fP).length]⟩ ∧ Lo = rd N q (a + (qU (iv (c 0)) (iv (c 1)) (rv (c 2))).length) ++ ((N1, AObj.cells [.pointer (some ⟨2 * N + 1, 0, none⟩)] (cI E 74) true) :: fK M 1 (((rv (c 2)).map fP).flatMap vsM) ((rv (c 2)).map fP).length)) rfl rfl nM rfl has92 oV (.cons (.succ (.succ .zero)) (.cons (.succ .zero) .nil)) nM (fun H hH => ?_) ?_
 ·rw [hE]
  refine aQx hw hh hwh (hLl.trans hl) (fun v hv => ?_) hq (hH.have fun p hp => ?_) ?_ (by rw [← hE]; exact hz)
  ·obtain ⟨d, hd, rfl⟩ := List.mem_map.1 hv
   exact mv_le (hall d hd)
  ·simp only [rd, List.cons_append, List.nil_append, List.mem_cons, List.not_mem_nil, or_false] at hp ⊢
   rcases hp with rfl | rfl
   ·exact .inr (.inr rfl)
   ·exact .inr (.inl rfl)
  ·have hd := hH.dist
   simp only [rd, List.cons_append, List.nil_append, List.pairwise_cons, List.mem_cons, List.not_mem_nil, or_false, forall_eq_or_imp, forall_eq] at hd ⊢
   exact ⟨hd.2.1.symm, fun _ h => h.elim, List.Pairwise.nil⟩
 rintro _ _ ⟨M, rfl, rfl⟩
 obtain ⟨ga, hga⟩ := aDc M ((rv (c 2)).map fP).length
 rw [hga]
 refine aEf (L' := (rd N q (a + (qU (iv (c 0)) (iv (c 1)) (rv (c 2))).length) ++ [_]) ++ ([_] ++ fK M 1 (((rv (c 2)).map fP).flatMap vsM) ((rv (c 2)).map fP).length)) (List.Perm.append_left (rd N q (a + (qU (iv (c 0)) (iv (c 1)) (rv (c 2))).length) ++ [_]) List.perm_append_comm) nM ?_
 refine om rfl <| bS rfl rfl rfl rfl <| bS rfl rfl rfl rfl <| bS rfl rfl rfl rfl <| oa rfl <| oa rfl <| oa rfl <| rC <| om rfl <| om rfl <| om rfl <| rK rfl rfl oP (show _ = some (Value.agg ⟨[.int .i64 (w1 : Int), .int .i64 (h1 : Int), .slice ga ((rv (c 2)).map fP).length ((rv (c 2)).map fP).length]⟩) from by rfl) ?_
 refine bX rfl nM rfl rfl fI (by rfl) rfl uP (by exact fS rfl) (by exact Nat.le_of_ble_eq_true rfl) nM ?_
 refine aB <| aT <| aE (.cell rfl (by exact bV V24 rfl fI rfl mA (by exact Nat.le_of_ble_eq_true rfl) (by rfl)) .nil) ?_
 intro H hH
 have hh := hH.subl (L' := rd N q (a + (qU (iv (c 0)) (iv (c 1)) (rv (c 2))).length) ++ fK M 1 (((rv (c 2)).map fP).flatMap vsM) ((rv (c 2)).map fP).length) (List.Sublist.cons_cons _ (List.Sublist.cons _ (List.Sublist.cons _ (List.Sublist.refl _))))
 have h2 := hh.subl (L' := rd N q (a + (qU (iv (c 0)) (iv (c 1)) (rv (c 2))).length)) (List.sublist_append_left _ _)
 refine ⟨_, h2.turned (Gr.refl _ _) ⟨_, List.Mem.head _⟩, ⟨f3 c (.slice ga ((rv (c 2)).map fP).length ((rv (c 2)).map fP).length), (by show _ = Value.agg ⟨[.int .i64 (iv (c 0)), .int .i64 (iv (c 1)), _]⟩; rw [e1, e2]; rfl), aOj w ?_⟩, rfl⟩
 rw [← hga]
 refine (fun key => ?_) (hh.giveG (b := 8) (ks := [.int .i64]) (rows := rv (c 2)) (sz := 1) (Gr.refl _ _) Takes.end' (fun j h => aSg h) rfl hLl (kH (f := vsM) (s := 1) (fun _ => rfl) _) (fun j d hd => ?_) (by omega) (by omega))
 ·rw [← w.rc (i := 2) rfl] at key
  exact key
 rw [vD (f := vsM) (s := 1) (fun _ => rfl) (show ((rv (c 2)).map fP)[j]? = some (fP d) by rw [List.getElem?_map, hd]; rfl), aXr H (hok d (List.mem_of_getElem? hd)) (hall d (List.mem_of_getElem? hd))]
 exact (hok d (List.mem_of_getElem? hd)).2 _ _
set_option maxHeartbeats 1000000 in
theorem aKx {S : AH} {N a : Nat} {q : ByteArray} (hin : ∀ p ∈ rd N q a, S.tr.get p.1 = some p.2 ∧ p.1 < S.nx) {c : Nat → CT} {z : List UInt8} (w : Wel kI c) (hm : ckE kV (iv (c 0)) (iv (c 1)) (rv (c 2)) = 0) (hq : q.data.toList.length ≤ 1099511627776) (hz : q.data.toList.drop a = qT (iv (c 0)) (iv (c 1)) (rv (c 2)) ++ z) : XCall Tryz.prog 60 [.pointer (some ⟨2 * N + 1, 0, none⟩)] S fun u H' => ∃ Lo, Turned (rd N q a) S H' Lo ∧ ((∃ f, u = .agg ⟨cellsOf 3 f⟩ ∧ Pts (nu S H' Lo) H' kI f c) ∧ Lo = rd N q (a + (qT (iv (c 0)) (iv (c 1)) (rv (c 2))).length)) := by
 obtain ⟨w1, h1, e1, e2, hw, hh, hwh, hl, hl6, hall⟩ := qW hm
 have hok := w.ok (i := 2) rfl (by rfl)
 have hLl : ((rv (c 2)).map fF).length = (rv (c 2)).length := List.length_map _
 have hE : qT (iv (c 0)) (iv (c 1)) (rv (c 2)) = aF w1 ++ aF h1 ++ eE eY ((rv (c 2)).map fF) := by rw [qT, e1, e2]; rfl
 refine cX (E := E) (Li := rd N q a) (n := 17) (rs := [.cell 2 29]) (l := [(0, _)]) (aQ Tryz.func60 rfl rfl rfl) (fun p hp => hin p hp) (List.pairwise_singleton _ _) rfl ?_
 refine rB <| aKo rfl rfl nM rfl rfl ?_
 intro N1
 refine bR (cs := (.int .i64 0 :: .int .i64 0 :: .slice none 0 0 :: [])) rfl rfl nM fH rfl rfl ?_
 intro N2
 refine rC <| aV rfl rfl rfl (by exact gC V74 rfl mA rfl) ?_
 refine xK rfl rfl oV oV ?_
 refine kO (Li := rd N q a ++ [(N1, AObj.cells [.pointer (some ⟨2 * N + 1, 0, none⟩)] (cI E 74) true)]) (fun u Lo => ∃ M, u = .tuple ⟨[.int .i64 (w1 : Int), .int .i64 (h1 : Int), gsl M ((rv (c 2)).map fF).length]⟩ ∧ Lo = rd N q (a + (qT (iv (c 0)) (iv (c 1)) (rv (c 2))).length) ++ ((N1, AObj.cells [.pointer (some ⟨2 * N + 1, 0, none⟩)] (cI E 74) true) :: fK M 4 (((rv (c 2)).map fF).flatMap vsP) ((rv (c 2)).map fF).length)) rfl rfl nM rfl has94 oV (.cons (.succ (.succ .zero)) (.cons (.succ .zero) .nil)) nM (fun H hH => ?_) ?_
 ·rw [hE]
  refine aOw hw hh hwh (hLl.trans hl) (fun v hv => ?_) hq (hH.have fun p hp => ?_) ?_ (by rw [← hE]; exact hz)
  ·obtain ⟨d, hd, rfl⟩ := List.mem_map.1 hv
   exact pv_le (hall d hd)
  ·simp only [rd, List.cons_append, List.nil_append, List.mem_cons, List.not_mem_nil, or_false] at hp ⊢
   rcases hp with rfl | rfl
   ·exact .inr (.inr rfl)
   ·exact .inr (.inl rfl)
  ·have hd := hH.dist
   simp only [rd, List.cons_append, List.nil_append, List.pairwise_cons, List.mem_cons, List.not_mem_nil, or_false, forall_eq_or_imp, forall_eq] at hd ⊢
   exact ⟨hd.2.1.symm, fun _ h => h.elim, List.Pairwise.nil⟩
 rintro _ _ ⟨M, rfl, rfl⟩
 obtain ⟨ga, hga⟩ := aDc M ((rv (c 2)).map fF).length
 rw [hga]
 refine aEf (L' := (rd N q (a + (qT (iv (c 0)) (iv (c 1)) (rv (c 2))).length) ++ [_]) ++ ([_] ++ fK M 4 (((rv (c 2)).map fF).flatMap vsP) ((rv (c 2)).map fF).length)) (List.Perm.append_left (rd N q (a + (qT (iv (c 0)) (iv (c 1)) (rv (c 2))).length) ++ [_]) List.perm_append_comm) nM ?_
 refine om rfl <| bS rfl rfl rfl rfl <| bS rfl rfl rfl rfl <| bS rfl rfl rfl rfl <| oa rfl <| oa rfl <| oa rfl <| rC <| om rfl <| om rfl <| om rfl <| rK rfl rfl oP (show _ = some (Value.agg ⟨[.int .i64 (w1 : Int), .int .i64 (h1 : Int), .slice ga ((rv (c 2)).map fF).length ((rv (c 2)).map fF).length]⟩) from by rfl) ?_
 refine bX rfl nM rfl rfl fH (by rfl) rfl uP (by exact fS rfl) (by exact Nat.le_of_ble_eq_true rfl) nM ?_
 refine aB <| aT <| aE (.cell rfl (by exact bV V29 rfl fH rfl mA (by exact Nat.le_of_ble_eq_true rfl) (by rfl)) .nil) ?_
 intro H hH
 have hh := hH.subl (L' := rd N q (a + (qT (iv (c 0)) (iv (c 1)) (rv (c 2))).length) ++ fK M 4 (((rv (c 2)).map fF).flatMap vsP) ((rv (c 2)).map fF).length) (List.Sublist.cons_cons _ (List.Sublist.cons _ (List.Sublist.cons _ (List.Sublist.refl _))))
 have h2 := hh.subl (L' := rd N q (a + (qT (iv (c 0)) (iv (c 1)) (rv (c 2))).length)) (List.sublist_append_left _ _)
 refine ⟨_, h2.turned (Gr.refl _ _) ⟨_, List.Mem.head _⟩, ⟨f3 c (.slice ga ((rv (c 2)).map fF).length ((rv (c 2)).map fF).length), (by show _ = Value.agg ⟨[.int .i64 (iv (c 0)), .int .i64 (iv (c 1)), _]⟩; rw [e1, e2]; rfl), aOj w ?_⟩, rfl⟩
 rw [← hga]
 refine (fun key => ?_) (hh.giveG (b := 32) (ks := kP) (rows := rv (c 2)) (sz := 4) (Gr.refl _ _) Takes.end' (fun j h => aSg h) rfl hLl (kH (f := vsP) (s := 4) (fun _ => rfl) _) (fun j d hd => ?_) (by omega) (by omega))
 ·rw [← w.rc (i := 2) rfl] at key
  exact key
 rw [vD (f := vsP) (s := 4) (fun _ => rfl) (show ((rv (c 2)).map fF)[j]? = some (fF d) by rw [List.getElem?_map, hd]; rfl), aWh H (hok d (List.mem_of_getElem? hd)) (hall d (List.mem_of_getElem? hd))]
 exact (hok d (List.mem_of_getElem? hd)).2 _ _
end Go.Proofs.YteklajiaicmogaaGreatDoor
namespace Go.Proofs.YteklajiaicmogaaGreatDoor
open Go Go.AM
theorem pM {sz : Nat} {zs xs : List Value} (hx : xs.length = sz) (hz : zs.length = sz) : tG (fun j => some (j * sz, sz)) zs [(0, .agg ⟨xs⟩)] = some xs := by
 have e1 : (Value.agg ⟨xs⟩).cells.toList = xs := rfl
 simp only [tG, e1, hx, hz, Nat.zero_mul, Nat.zero_add, Nat.beq_refl, show Nat.ble sz sz = true from Nat.ble_eq_true_of_le (Nat.le_refl _), Bool.and_self, cond_true, splice, List.take_zero, List.nil_append, show zs.drop sz = [] from List.drop_of_length_le (Nat.le_of_eq hz), List.append_nil]
theorem oK (y : Nat → Value) (i : Nat) (v w : Value) : gX (gX y i v) i w = gX y i w := by
 funext j
 by_cases e : j = i
 ·subst e; rw [iR, iR]
 ·rw [mV _ _ e, mV _ _ e, mV _ _ e]
theorem pG {y : Nat → Value} {i : Nat} {v : Value} (h : y i = v) : gX y i v = y := by
 funext j
 by_cases e : j = i
 ·subst e; rw [iR, h]
 ·rw [mV _ _ e]
theorem aCr {n : Nat} {d : List CT} (hd : d.length = n) : dJ n (cfn d) = d := by
 apply List.ext_getElem?
 intro i
 rcases Nat.lt_or_ge i n with h | h
 ·rw [jL h, cfn, List.getElem?_eq_getElem (by omega)]; rfl
 ·rw [List.getElem?_eq_none (by rw [pV]; omega), List.getElem?_eq_none (by omega)]
theorem Wel.n64 {ks : List Kd} {c : Nat → CT} (w : Wel ks c) {js : List Nat} (h : js.all (fun j => oW ks[j]?) = true) : ∀ n ∈ js.map fun k => iv (c k), I64 n := by
 obtain ⟨A, H, x, p⟩ := w
 exact yI p h
theorem uT {n : Nat} {zs : List Value} {ks : List Kd} {d : List CT} (hz : zs.length = n) (w : Wel ks (cfn d)) (hd : d.length = n) (hk : (List.range n).all (fun j => oW ks[j]?) = true) : wr zs (List.range n) ((List.range n).map fun j => iv (cfn d j)) = d.map CT.val := by
 rw [aXu, List.map_map]
 refine (aTm hz (e := cfn d) (f := Value.int .i64 ∘ fun j => iv (cfn d j)) fun i hi => ?_).trans (by rw [aCr hd])
 rw [w.ic (pB (List.all_eq_true.1 hk i (List.mem_range.2 hi)))]
 rfl
theorem aOr {N B a b j : Nat} {q : ByteArray} {o o' : AObj} {L : OL} (h : ids (rd N q a ++ [(B, o)]) j) : ids (rd N q b ++ ((B, o') :: L)) j := by
 obtain ⟨p, hp, e⟩ := h
 simp only [rd, List.cons_append, List.nil_append, List.mem_cons, List.not_mem_nil, or_false] at hp
 rcases hp with rfl | rfl
 ·exact ⟨_, List.Mem.head _, e⟩
 ·exact ⟨_, List.Mem.tail _ (List.Mem.head _), e⟩
set_option maxHeartbeats 4000000 in
theorem aIn {S : AH} {N B a sb : Nat} {q : ByteArray} {y : Nat → Value} {c : Nat → CT} {z : List UInt8} (w : Wel kNode c) (h29 : (rv (c 29)).length ≤ 16) (h30 : (rv (c 30)).length ≤ 128) (y29 : y 29 = .slice none 0 0) (y30 : y 30 = .slice none 0 0) (hq : q.data.toList.length ≤ 1099511627776) (hz : q.data.toList.drop a = aA shapeIts c ++ z) (hin : ∀ p ∈ rd N q a ++ [(B, AObj.cells (cellsOf 43 y) sb true)], S.tr.get p.1 = some p.2 ∧ p.1 < S.nx) (hd : (rd N q a ++ [(B, AObj.cells (cellsOf 43 y) sb true)]).Pairwise (fun p q => p.1 ≠ q.1)) : XCall Tryz.prog 91 [.pointer (some ⟨2 * N + 1, 0, none⟩), .pointer (some ⟨2 * B + 1, 0, none⟩)] S fun u H' => ∃ Lo, Turned (rd N q a ++ [(B, AObj.cells (cellsOf 43 y) sb true)]) S H' Lo ∧ ∃ v29 v30, CellA (nu S H' Lo) H' (.row 40 vF) v29 (c 29) ∧ CellA (nu S H' Lo) H' (.row 56 aGi) v30 (c 30) ∧ u = .tuple ⟨[]⟩ ∧ Lo = rd N q (a + (aA shapeIts c).length) ++ [(B, AObj.cells (cellsOf 43 (gX (gX y 29 v29) 30 v30)) sb true)] := by
 have ws := w.sub (i := 29) (ks' := vF) rfl
 have os := w.ok (i := 29) (ks' := vF) rfl (by rfl)
 have wg := w.sub (i := 30) (ks' := aGi) rfl
 have og := w.ok (i := 30) (ks' := aGi) rfl (by rfl)
 have hS : aA shapeIts c = aF (rv (c 29)).length ++ (aL stopIts (rv (c 29)) ++ (aF (rv (c 30)).length ++ aL segIts (rv (c 30)))) := by simp only [shapeIts, aA, bB, List.append_nil, List.append_assoc]; rfl
 rw [hS] at hz
 simp only [List.append_assoc] at hz
 have hz2 : q.data.toList.drop (a + (aF (rv (c 29)).length).length) = aL stopIts (rv (c 29)) ++ (aF (rv (c 30)).length ++ (aL segIts (rv (c 30)) ++ z)) := by rw [← List.drop_drop, hz, List.drop_left]
 have hz3 : q.data.toList.drop (a + (aF (rv (c 29)).length).length + (aL stopIts (rv (c 29))).length) = aF (rv (c 30)).length ++ (aL segIts (rv (c 30)) ++ z) := by rw [← List.drop_drop, hz2, List.drop_left]
 have hz4 : q.data.toList.drop (a + (aF (rv (c 29)).length).length + (aL stopIts (rv (c 29))).length + (aF (rv (c 30)).length).length) = aL segIts (rv (c 30)) ++ z := by rw [← List.drop_drop, hz3, List.drop_left]
 refine cX (E := E) (Li := rd N q a ++ [(B, AObj.cells (cellsOf 43 y) sb true)]) (n := 68) (rs := []) (l := [(1, _), (0, _)]) (aQ Tryz.func91 rfl rfl rfl) hin hd rfl ?_
 refine aH <| rB <| om rfl <| ot (rd N q (a)) (fun u Lo => u = .int .i64 (((rv (c 29)).length : Nat) : Int) ∧ Lo = rd N q (a + (aF (rv (c 29)).length).length)) mO oV (fun H hH => fE (hH.have fun p hp => by repeat (first | exact hp | exact List.mem_append_left _ hp | exact List.mem_append_left _ (List.mem_append_left _ hp) | apply List.mem_append_right | apply List.mem_cons_of_mem)) (by omega) (by omega) hq hz) ?_
 rintro _ _ ⟨rfl, rfl⟩
 refine om rfl <| aB <| aK ?_
 refine bK (σ := Nat × Nat) (fun x => (rv (c 29)).length - x.2) (fun x => [(0, .pointer (some ⟨2 * N + 1, 0, none⟩)), (1, .pointer (some ⟨2 * B + 1, 0, none⟩)), (8, .int .i64 (((rv (c 29)).length : Nat) : Int)), (9, .int .i64 ((x.2 : Nat) : Int))]) (fun _ => S) (fun _ => fY S (rd N q a ++ [(B, AObj.cells (cellsOf 43 y) sb true)])) (fun x => rd N q (a + (aF (rv (c 29)).length).length + (aL stopIts ((rv (c 29)).take x.2)).length) ++ ((B, AObj.cells (cellsOf 43 (gX y 29 (gsl x.1 x.2))) sb true) :: fK x.1 5 (jH ((rv (c 29)).take x.2)) x.2)) (fun x => x.2 ≤ (rv (c 29)).length) ((0, 0)) ((Nat.zero_le _)) pK rfl rfl (by rw [show gX y 29 (gsl 0 0) = y from pG y29]; exact List.Sublist.refl _) ?_
 intro st hJ2 t1
 obtain ⟨M1, k⟩ := st
 dsimp only at hJ2 ⊢
 refine aH ?_
 rcases Nat.lt_or_ge k (rv (c 29)).length with hk | hk
 ·obtain ⟨d, hd⟩ : ∃ d, (rv (c 29))[k]? = some d := ⟨_, List.getElem?_eq_getElem hk⟩
  have hdm := List.mem_of_getElem? hd
  have wd := ws d hdm
  have okd := os d hdm
  have hd5 : d.length = 5 := okd.1
  have hX : (d.map CT.val).length = 5 := by rw [List.length_map, hd5]
  obtain ⟨hp1, hp2⟩ := sI hz2 hd
  refine rA <| ob rfl (by exact aX (by omega)) ?_
  refine tq <| aO rfl <| aJ <| aD <| aH <| aK <| rB <| bR (cs := (.int .i64 0 :: .int .i64 0 :: .int .i64 0 :: .int .i64 0 :: .int .i64 0 :: [])) rfl rfl nM lP rfl rfl ?_
  intro N4
  refine tq <| fZ (pC (T := rd N q _)) ?_
  refine rA <| om rfl <| fo 0 rR aI rfl <| fo 1 rR bL rfl <| fo 1 V31 aI rfl <| fo 1 rR bL rfl <| fo 2 V31 aI rfl <| fo 1 rR bL rfl <| fo 3 V31 aI rfl <| fo 1 rR bL rfl <| fo 4 V31 aI rfl <| aM (out := pts N4 [0, 1, 2, 3, 4]) rfl rfl nM oP lI fO rfl rfl (by kernel_rfl) rfl rfl ?_
  intro N21
  refine lX (js := [0, 1, 2, 3, 4]) (ns := [0, 1, 2, 3, 4].map fun j => iv (cfn d j)) rfl rfl nM rfl oV nM rfl (by simp) (by decide) (wd.n64 rfl) (by decide) hq ⟨(rF hp1 [0, 1, 2, 3, 4] rfl).1, (rF hp1 [0, 1, 2, 3, 4] rfl).2.trans hp2⟩ ?_
  rw [show wr [.int .i64 0, .int .i64 0, .int .i64 0, .int .i64 0, .int .i64 0] [0, 1, 2, 3, 4] ([0, 1, 2, 3, 4].map fun j => iv (cfn d j)) = d.map CT.val from uT (ks := vF) rfl wd hd5 (by rfl)]
  refine aB <| aGr (E := E) mixed [6, 7] _ (show (rd N q _ ++ [_, _]).Sublist _ from List.Sublist.cons_cons _ (List.Sublist.cons_cons _ (List.Sublist.cons_cons _ (List.nil_sublist _)))) (by kernel_rfl) (by kernel_rfl) (by decide) 10 _ rfl rfl rfl (by kernel_rfl) ?_
  refine om rfl <| om rfl <| nc rfl <| gM rfl rfl rfl V38 rfl nX rfl rfl <| lB rfl V32 (iR _ _ _) ?_
  refine aV rfl rfl rfl (by exact bV (s := 5) rR rfl lP rfl mA (by have h9 := hX; omega) (by rw [List.drop_zero, List.take_of_length_le (Nat.le_of_eq hX)])) ?_
  refine aM (out := d.map CT.val) rfl rfl (fun _ => mA) oP V32 lP rfl rfl (pM hX (by kernel_rfl)) (by rw [hX]; rfl) rfl ?_
  intro N29
  refine eU (L1 := (_ :: (rd N q _ ++ [_, _])) ++ fK _ 5 _ _) (List.Sublist.refl _) (fun _ => sV) ?_
  refine iW (bt := 40) (sz := 5) (L1 := _ :: (rd N q _ ++ [_, _])) (cs' := jH ((rv (c 29)).take (k + 1))) rfl rfl (fun _ => mA) rfl rfl rfl rfl rfl V32 V32 (by rfl) lP rfl rfl (by decide) rfl (eL (List.mem_append_left _ mA) (by rw [hX])) ((iC rfl fun x hx => os x (List.mem_of_mem_take hx)).trans (by rw [List.length_take, Nat.min_eq_left (by omega)]; rfl)) (okd.one S) (by omega) (by omega) (nR hd) (fun _ => sV) ?_
  intro M2
  refine nc rfl <| gM rfl rfl rfl V38 rfl nX rfl rfl <| aKy ?_
  refine dC rfl nM rfl rfl nX rfl (qF _ _) uP ((jF rfl).trans (congrArg (cellsOf _) (oK _ _ _ _))) (by exact bQ rfl) nM ?_
  refine aZ <| bA <| aD <| rA <| ob rfl (by exact aY (by omega)) ?_
  refine om rfl <| aZ ?_
  refine cN (M2, k + 1) (show (rv (c 29)).length - (k + 1) < (rv (c 29)).length - k by omega) (show k + 1 ≤ (rv (c 29)).length by omega) pK rfl rfl ?_
  exact List.Sublist.cons _ (List.Sublist.cons_cons _ (List.Sublist.cons _ (List.Sublist.refl _)))
 ·obtain rfl : k = (rv (c 29)).length := by omega
  rw [List.take_length]
  refine rA <| ob rfl (by exact aW (by omega)) ?_
  refine tq <| aG rfl <| bJ <| aR <| aS <| aN <| aD <| aH <| sF (L' := rd N q _ ++ [_]) (b := 40) (ks := vF) (rows := rv (c 29)) (sz := 5) (Takes.end' (T := fK _ _ _ _) (L1 := rd N q _ ++ [_])) (Gr.refl _ _) (fun j h => aOr h) rfl rfl (iC rfl os) (fun j e he => oN rfl os _ _ j e he) (by omega) (by omega) ?_
  intro H1 A1 g1 hv29
  generalize M1 = V1 at hv29 ⊢
  refine rA <| om rfl <| ot (rd N q (a + (aF (rv (c 29)).length).length + (aL stopIts (rv (c 29))).length)) (fun u Lo => u = .int .i64 (((rv (c 30)).length : Nat) : Int) ∧ Lo = rd N q (a + (aF (rv (c 29)).length).length + (aL stopIts (rv (c 29))).length + (aF (rv (c 30)).length).length)) mO oV (fun H hH => fE (hH.have fun p hp => by repeat (first | exact hp | exact List.mem_append_left _ hp | exact List.mem_append_left _ (List.mem_append_left _ hp) | apply List.mem_append_right | apply List.mem_cons_of_mem)) (by omega) (by omega) hq hz3) ?_
  rintro _ _ ⟨rfl, rfl⟩
  refine om rfl <| aB <| aK ?_
  refine bK (σ := Nat × Nat) (fun x => (rv (c 30)).length - x.2) (fun x => [(0, .pointer (some ⟨2 * N + 1, 0, none⟩)), (1, .pointer (some ⟨2 * B + 1, 0, none⟩)), (35, .int .i64 (((rv (c 30)).length : Nat) : Int)), (36, .int .i64 ((x.2 : Nat) : Int))]) (fun _ => H1) (fun _ => A1) (fun x => rd N q (a + (aF (rv (c 29)).length).length + (aL stopIts (rv (c 29))).length + (aF (rv (c 30)).length).length + (aL segIts ((rv (c 30)).take x.2)).length) ++ ((B, AObj.cells (cellsOf 43 (gX (gX y 29 (gsl V1 (rv (c 29)).length)) 30 (gsl x.1 x.2))) sb true) :: fK x.1 7 (jH ((rv (c 30)).take x.2)) x.2)) (fun x => x.2 ≤ (rv (c 30)).length) ((0, 0)) ((Nat.zero_le _)) pK rfl rfl (by rw [show gX (gX y 29 (gsl V1 (rv (c 29)).length)) 30 (gsl 0 0) = gX y 29 (gsl V1 (rv (c 29)).length) from pG ((mV _ _ (by decide)).trans y30)]; exact List.Sublist.refl _) ?_
  intro st hJ2 t2
  obtain ⟨M1, k⟩ := st
  dsimp only at hJ2 ⊢
  refine aH ?_
  rcases Nat.lt_or_ge k (rv (c 30)).length with hk | hk
  ·obtain ⟨d, hd⟩ : ∃ d, (rv (c 30))[k]? = some d := ⟨_, List.getElem?_eq_getElem hk⟩
   have hdm := List.mem_of_getElem? hd
   have wd := wg d hdm
   have okd := og d hdm
   have hd5 : d.length = 7 := okd.1
   have hX : (d.map CT.val).length = 7 := by rw [List.length_map, hd5]
   obtain ⟨hp1, hp2⟩ := sI hz4 hd
   refine rA <| ob rfl (by exact aX (by omega)) ?_
   refine tq <| aO rfl <| aJ <| aD <| aH <| aK <| rB <| bR (cs := (.int .i64 0 :: .int .i64 0 :: .int .i64 0 :: .int .i64 0 :: .int .i64 0 :: .int .i64 0 :: .int .i64 0 :: [])) rfl rfl nM iE rfl rfl ?_
   intro N5
   refine tq <| fZ (pC (T := rd N q _)) ?_
   refine rA <| om rfl <| fo 0 oG aI rfl <| aM (out := pts N5 [0]) rfl rfl nM oP lI fO rfl rfl (by kernel_rfl) rfl rfl ?_
   intro N40
   refine lX (js := [0]) (ns := [0].map fun j => iv (cfn d j)) rfl rfl nM rfl oV nM rfl (by simp) (by decide) (wd.n64 rfl) (by decide) hq (lU (its := segIts) (c := cfn d) hp1 0 [0] rfl) ?_
   refine tq <| rB <| om rfl <| aB <| aK ?_
   refine bK (σ := Nat) (fun j => 3 - j) (fun j => [(0, .pointer (some ⟨2 * N + 1, 0, none⟩)), (1, .pointer (some ⟨2 * B + 1, 0, none⟩)), (35, .int .i64 (((rv (c 30)).length : Nat) : Int)), (36, .int .i64 ((k : Nat) : Int)), (5, .pointer (some ⟨2 * N5 + 1, 0, none⟩)), (42, .int .i64 ((j : Nat) : Int))]) (fun _ => H1) (fun _ => A1) (fun j => rd N q (a + (aF (rv (c 29)).length).length + (aL stopIts (rv (c 29))).length + (aF (rv (c 30)).length).length + (aL segIts ((rv (c 30)).take k)).length + (aA (segIts.take (1 + 2 * j)) (cfn d)).length) ++ ((N5, AObj.cells (wr [.int .i64 0, .int .i64 0, .int .i64 0, .int .i64 0, .int .i64 0, .int .i64 0, .int .i64 0] ([0, 1, 2, 3, 4, 5, 6].take (1 + 2 * j)) (([0, 1, 2, 3, 4, 5, 6].map fun j => iv (cfn d j)).take (1 + 2 * j))) (cI E 114) true) :: ((B, AObj.cells (cellsOf 43 (gX (gX y 29 (gsl V1 (rv (c 29)).length)) 30 (gsl M1 k))) sb true) :: fK M1 7 (jH ((rv (c 30)).take k)) k))) (fun j => j ≤ 3) (0) ((Nat.zero_le _)) pK rfl rfl (List.Sublist.refl _) ?_
   intro j hJ2 t3
   refine aH ?_
   rcases (show j = 0 ∨ j = 1 ∨ j = 2 ∨ j = 3 by omega) with rfl | rfl | rfl | rfl
   ·refine rA <| ob rfl (by exact aX (by omega)) ?_
    refine tq <| aO rfl <| aJ <| aD <| aH <| aK <| rB <| om rfl <| oa rfl <| aB <| cC (E := E) mixed [9, 10] _ (List.nil_sublist _) (by kernel_rfl) (by kernel_rfl) (by decide) ?_
    refine om rfl <| om rfl <| fo 1 oG lF rfl <| kL (s := 2) (j := 0) (o' := 1) rfl rfl rfl rfl tD eB rfl (by decide) rfl ?_
    refine gM rfl rfl rfl V44 rfl aI rfl rfl <| om rfl <| fo 1 oG lF rfl <| kL (s := 2) (j := 0) (o' := 1) rfl rfl rfl rfl tD eB rfl (by decide) rfl ?_
    refine gM rfl rfl rfl V44 rfl aI rfl rfl <| aM (out := pts N5 [1, 2]) rfl rfl (fun _ => mA) oP lI fO rfl rfl (by kernel_rfl) rfl rfl ?_
    intro N54
    refine lX (js := [1, 2]) (ns := [1, 2].map fun j => iv (cfn d j)) rfl rfl (fun _ => mA) rfl oV (fun _ => List.nil_sublist _) rfl (by simp) (by rw [kN]; decide) (wd.n64 rfl) (by decide) hq (lU (its := segIts) (c := cfn d) hp1 1 [1, 2] rfl) ?_
    refine aZ <| bA <| aD <| rA <| ob rfl (by exact aY (by omega)) ?_
    refine om rfl <| aZ ?_
    refine cN 1 (show 3 - 1 < 3 - 0 by omega) (show 1 ≤ 3 by omega) pK rfl rfl (List.Sublist.refl _)
   ·refine rA <| ob rfl (by exact aX (by omega)) ?_
    refine tq <| aO rfl <| aJ <| aD <| aH <| aK <| rB <| om rfl <| oa rfl <| aB <| cC (E := E) mixed [9, 10] _ (List.nil_sublist _) (by kernel_rfl) (by kernel_rfl) (by decide) ?_
    refine om rfl <| om rfl <| fo 1 oG lF rfl <| kL (s := 2) (j := 1) (o' := 3) rfl rfl rfl rfl tD eB rfl (by decide) rfl ?_
    refine gM rfl rfl rfl V44 rfl aI rfl rfl <| om rfl <| fo 1 oG lF rfl <| kL (s := 2) (j := 1) (o' := 3) rfl rfl rfl rfl tD eB rfl (by decide) rfl ?_
    refine gM rfl rfl rfl V44 rfl aI rfl rfl <| aM (out := pts N5 [3, 4]) rfl rfl (fun _ => mA) oP lI fO rfl rfl (by kernel_rfl) rfl rfl ?_
    intro N54
    refine lX (js := [3, 4]) (ns := [3, 4].map fun j => iv (cfn d j)) rfl rfl (fun _ => mA) rfl oV (fun _ => List.nil_sublist _) rfl (by simp) (by rw [kN]; decide) (wd.n64 rfl) (by decide) hq (lU (its := segIts) (c := cfn d) hp1 3 [3, 4] rfl) ?_
    refine aZ <| bA <| aD <| rA <| ob rfl (by exact aY (by omega)) ?_
    refine om rfl <| aZ ?_
    refine cN 2 (show 3 - 2 < 3 - 1 by omega) (show 2 ≤ 3 by omega) pK rfl rfl (List.Sublist.refl _)
   ·refine rA <| ob rfl (by exact aX (by omega)) ?_
    refine tq <| aO rfl <| aJ <| aD <| aH <| aK <| rB <| om rfl <| oa rfl <| aB <| cC (E := E) mixed [9, 10] _ (List.nil_sublist _) (by kernel_rfl) (by kernel_rfl) (by decide) ?_
    refine om rfl <| om rfl <| fo 1 oG lF rfl <| kL (s := 2) (j := 2) (o' := 5) rfl rfl rfl rfl tD eB rfl (by decide) rfl ?_
    refine gM rfl rfl rfl V44 rfl aI rfl rfl <| om rfl <| fo 1 oG lF rfl <| kL (s := 2) (j := 2) (o' := 5) rfl rfl rfl rfl tD eB rfl (by decide) rfl ?_
    refine gM rfl rfl rfl V44 rfl aI rfl rfl <| aM (out := pts N5 [5, 6]) rfl rfl (fun _ => mA) oP lI fO rfl rfl (by kernel_rfl) rfl rfl ?_
    intro N54
    refine lX (js := [5, 6]) (ns := [5, 6].map fun j => iv (cfn d j)) rfl rfl (fun _ => mA) rfl oV (fun _ => List.nil_sublist _) rfl (by simp) (by rw [kN]; decide) (wd.n64 rfl) (by decide) hq (lU (its := segIts) (c := cfn d) hp1 5 [5, 6] rfl) ?_
    refine aZ <| bA <| aD <| rA <| ob rfl (by exact aY (by omega)) ?_
    refine om rfl <| aZ ?_
    refine cN 3 (show 3 - 3 < 3 - 2 by omega) (show 3 ≤ 3 by omega) pK rfl rfl (List.Sublist.refl _)
   ·rw [show (wr [.int .i64 0, .int .i64 0, .int .i64 0, .int .i64 0, .int .i64 0, .int .i64 0, .int .i64 0] ([0, 1, 2, 3, 4, 5, 6].take (1 + 2 * 3)) (([0, 1, 2, 3, 4, 5, 6].map fun j => iv (cfn d j)).take (1 + 2 * 3))) = d.map CT.val from uT (ks := aGi) rfl wd hd5 (by rfl), show a + (aF (rv (c 29)).length).length + (aL stopIts (rv (c 29))).length + (aF (rv (c 30)).length).length + (aL segIts ((rv (c 30)).take k)).length + (aA (segIts.take (1 + 2 * 3)) (cfn d)).length = a + (aF (rv (c 29)).length).length + (aL stopIts (rv (c 29))).length + (aF (rv (c 30)).length).length + (aL segIts ((rv (c 30)).take (k + 1))).length from hp2]
    refine rA <| ob rfl (by exact aW (by omega)) ?_
    refine tq <| aG rfl <| bJ <| aR <| aS <| aN <| aD <| aGr (E := E) mixed [6, 7] _ (show (rd N q _ ++ [_, _]).Sublist _ from List.Sublist.cons_cons _ (List.Sublist.cons_cons _ (List.Sublist.cons_cons _ (List.nil_sublist _)))) (by kernel_rfl) (by kernel_rfl) (by decide) 10 _ rfl rfl rfl (by kernel_rfl) ?_
    refine om rfl <| om rfl <| nc rfl <| gM rfl rfl rfl V38 rfl lN rfl rfl <| lB rfl V33 (iR _ _ _) ?_
    refine aV rfl rfl rfl (by exact bV (s := 7) oG rfl iE rfl mA (by have h9 := hX; omega) (by rw [List.drop_zero, List.take_of_length_le (Nat.le_of_eq hX)])) ?_
    refine aM (out := d.map CT.val) rfl rfl (fun _ => mA) oP V33 iE rfl rfl (pM hX (by kernel_rfl)) (by rw [hX]; rfl) rfl ?_
    intro N63
    refine eU (L1 := (_ :: (rd N q _ ++ [_, _])) ++ fK _ 7 _ _) (List.Sublist.refl _) (fun _ => sV) ?_
    refine iW (bt := 56) (sz := 7) (L1 := _ :: (rd N q _ ++ [_, _])) (cs' := jH ((rv (c 30)).take (k + 1))) rfl rfl (fun _ => mA) rfl rfl rfl rfl rfl V33 V33 (by rfl) iE rfl rfl (by decide) rfl (eL (List.mem_append_left _ mA) (by rw [hX])) ((iC rfl fun x hx => og x (List.mem_of_mem_take hx)).trans (by rw [List.length_take, Nat.min_eq_left (by omega)]; rfl)) (okd.one S) (by omega) (by omega) (nR hd) (fun _ => sV) ?_
    intro M2
    refine nc rfl <| gM rfl rfl rfl V38 rfl lN rfl rfl <| aKy ?_
    refine dC rfl nM rfl rfl lN rfl (qF _ _) uP ((jF rfl).trans (congrArg (cellsOf _) (oK _ _ _ _))) (by exact bQ rfl) nM ?_
    refine aZ <| bA <| aD <| rA <| ob rfl (by exact aY (by omega)) ?_
    refine om rfl <| aZ ?_
    refine cN (M2, k + 1) (show (rv (c 30)).length - (k + 1) < (rv (c 30)).length - k by omega) (show k + 1 ≤ (rv (c 30)).length by omega) pK rfl rfl ?_
    exact List.Sublist.cons _ (List.Sublist.cons_cons _ (List.Sublist.cons _ (List.Sublist.refl _)))
  ·obtain rfl : k = (rv (c 30)).length := by omega
   rw [List.take_length]
   refine rA <| ob rfl (by exact aW (by omega)) ?_
   refine tq <| aG rfl <| bJ <| aR <| aS <| aN <| lZ .nil rfl ?_
   intro H hH
   have hh := hH.subl (L' := rd N q _ ++ [_]) (List.Sublist.cons_cons _ (List.Sublist.cons_cons _ (List.nil_sublist _)))
   refine ⟨_, hh.turned g1 ⟨_, List.Mem.head _⟩, gsl V1 (rv (c 29)).length, gsl M1 (rv (c 30)).length, ?_, ?_, rfl, ?_⟩
   ·rw [w.rc (i := 29) (ks' := vF) rfl]
    exact CellA.gr hh.give _ _ _ hv29
   ·rw [w.rc (i := 30) (ks' := aGi) rfl]
    refine hH.giveG (L := (rd N q _ ++ [_]) ++ fK M1 7 (jH (rv (c 30))) (rv (c 30)).length) (sz := 7) g1 Takes.end' (fun j h => aOr h) rfl rfl (iC rfl og) (fun j e he => oN rfl og _ _ j e he) (by omega) (by omega)
   ·rw [hS]; simp only [List.length_append]; rw [show a + ((aF (rv (c 29)).length).length + ((aL stopIts (rv (c 29))).length + ((aF (rv (c 30)).length).length + (aL segIts (rv (c 30))).length))) = a + (aF (rv (c 29)).length).length + (aL stopIts (rv (c 29))).length + (aF (rv (c 30)).length).length + (aL segIts (rv (c 30))).length by omega]
end Go.Proofs.YteklajiaicmogaaGreatDoor
namespace Go.Proofs.YteklajiaicmogaaGreatDoor
open Go Go.AM
theorem aVp : ∃ fn, E.fn 59 = some fn := ⟨_, aQ Tryz.func59 rfl rfl rfl⟩
theorem aVe : ∃ fn, E.fn 60 = some fn := ⟨_, aQ Tryz.func60 rfl rfl rfl⟩
theorem has90 : ∃ fn, E.fn 90 = some fn := ⟨_, aQ Tryz.func90 rfl rfl rfl⟩
theorem has91 : ∃ fn, E.fn 91 = some fn := ⟨_, aQ Tryz.func91 rfl rfl rfl⟩
theorem Got.upd {B : Nat → Prop} {H : AH} {ks : List Kd} {zf : Nat → Value} {c : Nat → CT} {m : Nat} {y : Nat → Value} (h : Got B H ks zf c m y) {k : Kd} {v : Value} (hk : ks[m]? = some k) (hv : CellA B H k v (c m)) : Got B H ks zf c (m + 1) (gX y m v) := by
 refine ⟨fun i k' hi hk' => ?_, fun i hi => ?_⟩
 ·by_cases e : i = m
  ·subst e
   rw [hk] at hk'; cases hk'
   rw [iR]; exact hv
  ·rw [mV y v e]
   exact h.1 i k' (by omega) hk'
 ·rw [mV y v (by omega)]
  exact h.2 i (by omega)
theorem aHn (H : AH) : ∀ {l : List (List CT)}, (∀ d ∈ l, OkC [.int .i64] d) → ∃ ns, l = hU ns ∧ ∀ n ∈ ns, I64 n
 | [], _ => ⟨[], rfl, fun n hn => by cases hn⟩
 | d :: l, h => by
  obtain ⟨ns, rfl, h2⟩ := aHn H (l := l) fun e he => h e (List.mem_cons_of_mem _ he)
  obtain ⟨n, _, rfl, hn⟩ := tB ((h d (List.mem_cons_self ..)).2 (fun _ => False) H)
  exact ⟨n :: ns, rfl, fun k hk => by
   rcases List.mem_cons.1 hk with rfl | hk
   ·exact hn
   ·exact h2 k hk⟩
theorem Wel.b64 {ks : List Kd} {c : Nat → CT} (w : Wel ks c) : True := trivial
theorem encI_tks (l : List Int) : (aF l.length ++ eJ (hU l)) = aF l.length ++ l.flatMap bO := by rw [lV]
def aKa : Nat → Value := fun i => (((.int .i64 0 :: .int .i64 0 :: .int .i64 0 :: .string ⟨#[]⟩ :: .bool false :: .bool false :: .bool false :: .int .i64 0 :: .int .i64 0 :: .int .i64 0 :: .int .i64 0 :: .slice none 0 0 :: .int .i64 0 :: .int .i64 0 :: .int .i64 0 :: .int .i64 0 :: .int .i64 0 :: .int .i64 0 :: .int .i64 0 :: .int .i64 0 :: .int .i64 0 :: .slice none 0 0 :: .int .i64 0 :: .int .i64 0 :: .int .i64 0 :: .int .i64 0 :: .int .i64 0 :: .slice none 0 0 :: .int .i64 0 :: .slice none 0 0 :: .slice none 0 0 :: .int .i64 0 :: .int .i64 0 :: .int .i64 0 :: .int .i64 0 :: .string ⟨#[]⟩ :: .int .i64 0 :: .int .i64 0 :: .int .i64 0 :: .int .i64 0 :: .int .i64 0 :: .int .i64 0 :: .slice none 0 0 :: []) : List Value)[i]?).getD (.int .i64 0)
set_option maxHeartbeats 4000000 in
theorem aPe {S : AH} {N a : Nat} {q : ByteArray} (hin : ∀ p ∈ rd N q a, S.tr.get p.1 = some p.2 ∧ p.1 < S.nx) {c : Nat → CT} {z : List UInt8} (w : Wel kNode c) (hm9 : ckE iI (iv (c 9)) (iv (c 10)) (rv (c 11)) = 0) (hm19 : ckE kV (iv (c 19)) (iv (c 20)) (rv (c 21)) = 0) (h27 : (rv (c 27)).length ≤ 16) (h29 : (rv (c 29)).length ≤ 16) (h30 : (rv (c 30)).length ≤ 128) (h42 : (rv (c 42)).length ≤ 64) (h3 : (tv (c 3)).length ≤ 256) (h35 : (tv (c 35)).length ≤ 256) (hq : q.data.toList.length ≤ 1099511627776) (hz : q.data.toList.drop a = aA nodeIts c ++ z) : XCall Tryz.prog 58 [.pointer (some ⟨2 * N + 1, 0, none⟩)] S fun u H' => ∃ Lo, Turned (rd N q a) S H' Lo ∧ ((∃ f, u = .agg ⟨cellsOf 43 f⟩ ∧ Pts (nu S H' Lo) H' kNode f c) ∧ Lo = rd N q (a + (aA nodeIts c).length)) := by
 obtain ⟨p3, e3⟩ := oB hz 3 (.t 3) rfl
 rw [bB] at p3 e3
 obtain ⟨p9, e9⟩ := oB hz 9 (.msk 9) rfl
 rw [bB] at p9 e9
 obtain ⟨p19, e19⟩ := oB hz 17 (.img 19) rfl
 rw [bB] at p19 e19
 obtain ⟨p27, e27⟩ := oB hz 23 (.ints 27) rfl
 rw [bB] at p27 e27
 obtain ⟨ns, hns, h64⟩ := aHn S (w.ok (i := 27) (ks' := [.int .i64]) rfl (by rfl))
 have hnl : (rv (c 27)).length = ns.length := by rw [hns]; simp [hU]
 rw [hnl, show eJ (rv (c 27)) = ns.flatMap bO by rw [hns, lV]] at p27 e27
 obtain ⟨p29, e29⟩ := aCa hz 25 shapeIts rfl
 obtain ⟨p35, e35⟩ := oB hz 31 (.t 35) rfl
 rw [bB] at p35 e35
 obtain ⟨p42, e42⟩ := oB hz 38 (.rows 42 ptIts) rfl
 rw [bB, List.append_assoc] at p42
 rw [bB, List.length_append, ← Nat.add_assoc] at e42
 have p42b : q.data.toList.drop (a + (aA (nodeIts.take 38) c).length + (aF (rv (c 42)).length).length) = aL ptIts (rv (c 42)) ++ (aA (nodeIts.drop 39) c ++ z) := by rw [← List.drop_drop, p42, List.drop_left]; rfl
 have ok42 := w.ok (i := 42) (ks' := [.int .i64, .int .i64]) rfl (by rfl)
 have w42 := w.sub (i := 42) (ks' := [.int .i64, .int .i64]) rfl
 refine cX (E := E) (Li := rd N q a) (n := 113) (rs := [.cell 2 38]) (l := [(0, _)]) (aQ Tryz.func58 rfl rfl rfl) (fun p hp => hin p hp) (List.pairwise_singleton _ _) rfl ?_
 refine rB <| bR (cs := (.int .i64 0 :: .int .i64 0 :: .int .i64 0 :: .string ⟨#[]⟩ :: .bool false :: .bool false :: .bool false :: .int .i64 0 :: .int .i64 0 :: .int .i64 0 :: .int .i64 0 :: .slice none 0 0 :: .int .i64 0 :: .int .i64 0 :: .int .i64 0 :: .int .i64 0 :: .int .i64 0 :: .int .i64 0 :: .int .i64 0 :: .int .i64 0 :: .int .i64 0 :: .slice none 0 0 :: .int .i64 0 :: .int .i64 0 :: .int .i64 0 :: .int .i64 0 :: .int .i64 0 :: .slice none 0 0 :: .int .i64 0 :: .slice none 0 0 :: .slice none 0 0 :: .int .i64 0 :: .int .i64 0 :: .int .i64 0 :: .int .i64 0 :: .string ⟨#[]⟩ :: .int .i64 0 :: .int .i64 0 :: .int .i64 0 :: .int .i64 0 :: .int .i64 0 :: .int .i64 0 :: .slice none 0 0 :: [])) rfl rfl nM fU rfl rfl ?_
 intro N2
 refine rC <| bR (cs := (.int .i64 0 :: .int .i64 0 :: .int .i64 0 :: .string ⟨#[]⟩ :: .bool false :: .bool false :: .bool false :: .int .i64 0 :: .int .i64 0 :: .int .i64 0 :: .int .i64 0 :: .slice none 0 0 :: .int .i64 0 :: .int .i64 0 :: .int .i64 0 :: .int .i64 0 :: .int .i64 0 :: .int .i64 0 :: .int .i64 0 :: .int .i64 0 :: .int .i64 0 :: .slice none 0 0 :: .int .i64 0 :: .int .i64 0 :: .int .i64 0 :: .int .i64 0 :: .int .i64 0 :: .slice none 0 0 :: .int .i64 0 :: .slice none 0 0 :: .slice none 0 0 :: .int .i64 0 :: .int .i64 0 :: .int .i64 0 :: .int .i64 0 :: .string ⟨#[]⟩ :: .int .i64 0 :: .int .i64 0 :: .int .i64 0 :: .int .i64 0 :: .int .i64 0 :: .int .i64 0 :: .slice none 0 0 :: [])) rfl rfl nM fU rfl rfl ?_
 intro N3
 refine tq ?_
 rw [show ((.int .i64 0 :: .int .i64 0 :: .int .i64 0 :: .string ⟨#[]⟩ :: .bool false :: .bool false :: .bool false :: .int .i64 0 :: .int .i64 0 :: .int .i64 0 :: .int .i64 0 :: .slice none 0 0 :: .int .i64 0 :: .int .i64 0 :: .int .i64 0 :: .int .i64 0 :: .int .i64 0 :: .int .i64 0 :: .int .i64 0 :: .int .i64 0 :: .int .i64 0 :: .slice none 0 0 :: .int .i64 0 :: .int .i64 0 :: .int .i64 0 :: .int .i64 0 :: .int .i64 0 :: .slice none 0 0 :: .int .i64 0 :: .slice none 0 0 :: .slice none 0 0 :: .int .i64 0 :: .int .i64 0 :: .int .i64 0 :: .int .i64 0 :: .string ⟨#[]⟩ :: .int .i64 0 :: .int .i64 0 :: .int .i64 0 :: .int .i64 0 :: .int .i64 0 :: .int .i64 0 :: .slice none 0 0 :: []) : List Value) = cellsOf 43 aKa from by kernel_rfl]
 refine fZ (L' := rd N q a ++ [_, _]) (List.perm_append_comm (l₁ := rd N q a) (l₂ := [_, _])) ?_
 have gA : Gr (fY S (rd N q a)) S (fY S (rd N q a)) S := Gr.refl _ _
 have G0 : Got (nw S (fY S (rd N q a))) S kNode aKa c 0 aKa := Got.zero fun _ => rfl
 rw [show rd N q a = rd N q (a + (aA (nodeIts.take 0) c).length) by rw [List.take_zero, aA]; rfl]
 refine rA <| om rfl <| fo 0 V38 aI rfl <| fo 1 V38 aI rfl <| fo 2 V38 aI rfl <| aM (out := pts N3 [0, 1, 2]) rfl rfl nM oP lI fO rfl rfl (by kernel_rfl) rfl rfl ?_
 intro N9
 refine lX (js := [0, 1, 2]) (ns := [0, 1, 2].map fun j => iv (c j)) rfl rfl nM rfl oV nM rfl (by simp) (by rw [aU]; decide) (w.n64 rfl) (by decide) hq (lU hz 0 [0, 1, 2] rfl) ?_
 obtain ⟨y3, hy3, G3⟩ := G0.nums (n := 43) w [0, 1, 2] rfl rfl rfl
 rw [hy3]
 change Got _ _ _ _ _ 3 _ at G3
 refine rC <| om rfl <| ot (rd N q (a + (aA (nodeIts.take 3) c).length)) (fun u Lo => u = .string ⟨⟨tv (c 3)⟩⟩ ∧ Lo = rd N q (a + (aA (nodeIts.take 4) c).length)) aGp oV (fun H hH => by rw [← e3]; exact sB (hH.have fun p hp => by repeat (first | exact hp | exact List.mem_append_left _ hp | exact List.mem_append_left _ (List.mem_append_left _ hp) | apply List.mem_append_right | apply List.mem_cons_of_mem)) (by omega) (by omega) hq p3) ?_
 rintro _ _ ⟨rfl, rfl⟩
 refine fo 3 V38 gJ rfl ?_
 obtain ⟨y4, hy4, G4⟩ := G3.txt (n := 43) w rfl rfl
 change Got _ _ _ _ _ 4 _ at G4
 refine dC rfl nM rfl rfl gJ rfl rfl uP hy4 (by exact bQ rfl) nM ?_
 refine rC <| om rfl <| fo 4 V38 lR rfl <| fo 5 V38 lR rfl <| fo 6 V38 lR rfl <| aM (out := pts N3 [4, 5, 6]) rfl rfl nM oP aXo aOp rfl rfl (by kernel_rfl) rfl rfl ?_
 intro N18
 refine aXs (js := [4, 5, 6]) (ns := [4, 5, 6].map fun j => bv (c j)) rfl rfl nM rfl oV nM rfl (by simp) (by rw [aU]; decide) (by decide) hq (pos_b hz 4 [4, 5, 6] rfl) ?_
 obtain ⟨y7, hy7, G7⟩ := G4.bools (n := 43) w [4, 5, 6] rfl rfl rfl
 rw [hy7]
 change Got _ _ _ _ _ 7 _ at G7
 refine rC <| om rfl <| fo 7 V38 aI rfl <| fo 8 V38 aI rfl <| aM (out := pts N3 [7, 8]) rfl rfl nM oP lI fO rfl rfl (by kernel_rfl) rfl rfl ?_
 intro N23
 refine lX (js := [7, 8]) (ns := [7, 8].map fun j => iv (c j)) rfl rfl nM rfl oV nM rfl (by simp) (by rw [aU]; decide) (w.n64 rfl) (by decide) hq (lU hz 7 [7, 8] rfl) ?_
 obtain ⟨y9, hy9, G9⟩ := G7.nums (n := 43) w [7, 8] rfl rfl rfl
 rw [hy9]
 change Got _ _ _ _ _ 9 _ at G9
 refine rC <| om rfl ?_
 refine kZ (Li := rd N q (a + (aA (nodeIts.take 9) c).length)) (fun u H1 A1 Lo => (∃ f, u = .agg ⟨cellsOf 3 f⟩ ∧ Pts (nw S A1) H1 kM f (fun i => c (9 + i))) ∧ Lo = rd N q (a + (aA (nodeIts.take 10) c).length)) rfl rfl nM rfl aVp oV tK nM (fun H hH => ?_) ?_
 ·exact (aGx (hH.have fun p hp => by repeat (first | exact hp | exact List.mem_append_left _ hp | exact List.mem_append_left _ (List.mem_append_left _ hp) | apply List.mem_append_right | apply List.mem_cons_of_mem)) (w.shift (ks2 := kM) 9 rfl) hm9 hq p9).mono fun u H' _ ⟨Lo, t, ⟨f, e, p⟩, e2⟩ => ⟨Lo, t, ⟨f, e, p.gr (vX (hH.nxT gA (fun j h => nW h)))⟩, e2.trans (by rw [← e9])⟩
 rintro _ H9 A9 _ g9 ⟨⟨f9, rfl, q9⟩, rfl⟩
 replace gA := gA.trans g9
 replace G9 := G9.gr g9.nw
 refine fo 9 V38 fI rfl ?_
 obtain ⟨y12, hy12, G12⟩ := G9.putr (n := 43) q9 rfl rfl rfl
 change Got _ _ _ _ _ 12 _ at G12
 refine bX rfl nM rfl rfl fI (by exact aU _ _) (q9.cells (n := 3) rfl).one uP hy12 (by exact cH rfl rfl) nM ?_
 refine rC <| om rfl <| fo 12 V38 jN rfl <| fo 12 V26 aI rfl <| fo 12 V38 jN rfl <| fo 13 V26 aI rfl <| fo 12 V38 jN rfl <| fo 14 V26 aI rfl <| fo 12 V38 jN rfl <| fo 15 V26 aI rfl <| fo 12 V38 jN rfl <| fo 16 V26 aI rfl <| fo 12 V38 jN rfl <| fo 17 V26 aI rfl <| fo 18 V38 aI rfl <| aM (out := pts N3 [12, 13, 14, 15, 16, 17, 18]) rfl rfl nM oP lI fO rfl rfl (by kernel_rfl) rfl rfl ?_
 intro N42
 refine lX (js := [12, 13, 14, 15, 16, 17, 18]) (ns := [12, 13, 14, 15, 16, 17, 18].map fun j => iv (c j)) rfl rfl nM rfl oV nM rfl (by simp) (by rw [aU]; decide) (w.n64 rfl) (by decide) hq (lU hz 10 [12, 13, 14, 15, 16, 17, 18] rfl) ?_
 obtain ⟨y19, hy19, G19⟩ := G12.nums (n := 43) w [12, 13, 14, 15, 16, 17, 18] rfl rfl rfl
 rw [hy19]
 change Got _ _ _ _ _ 19 _ at G19
 refine rC <| om rfl ?_
 refine kZ (Li := rd N q (a + (aA (nodeIts.take 17) c).length)) (fun u H1 A1 Lo => (∃ f, u = .agg ⟨cellsOf 3 f⟩ ∧ Pts (nw S A1) H1 kI f (fun i => c (19 + i))) ∧ Lo = rd N q (a + (aA (nodeIts.take 18) c).length)) rfl rfl nM rfl aVe oV tK nM (fun H hH => ?_) ?_
 ·exact (aKx (hH.have fun p hp => by repeat (first | exact hp | exact List.mem_append_left _ hp | exact List.mem_append_left _ (List.mem_append_left _ hp) | apply List.mem_append_right | apply List.mem_cons_of_mem)) (w.shift (ks2 := kI) 19 rfl) hm19 hq p19).mono fun u H' _ ⟨Lo, t, ⟨f, e, p⟩, e2⟩ => ⟨Lo, t, ⟨f, e, p.gr (vX (hH.nxT gA (fun j h => nW h)))⟩, e2.trans (by rw [← e19])⟩
 rintro _ H19 A19 _ g19 ⟨⟨f19, rfl, q19⟩, rfl⟩
 replace gA := gA.trans g19
 replace G19 := G19.gr g19.nw
 refine fo 19 V38 fH rfl ?_
 obtain ⟨y22, hy22, G22⟩ := G19.putr (n := 43) q19 rfl rfl rfl
 change Got _ _ _ _ _ 22 _ at G22
 refine bX rfl nM rfl rfl fH (by exact aU _ _) (q19.cells (n := 3) rfl).one uP hy22 (by exact cH rfl rfl) nM ?_
 refine rC <| om rfl <| fo 22 V38 bL rfl <| fo 22 V31 aI rfl <| fo 22 V38 bL rfl <| fo 23 V31 aI rfl <| fo 22 V38 bL rfl <| fo 24 V31 aI rfl <| fo 22 V38 bL rfl <| fo 25 V31 aI rfl <| fo 26 V38 aI rfl <| aM (out := pts N3 [22, 23, 24, 25, 26]) rfl rfl nM oP lI fO rfl rfl (by kernel_rfl) rfl rfl ?_
 intro N57
 refine lX (js := [22, 23, 24, 25, 26]) (ns := [22, 23, 24, 25, 26].map fun j => iv (c j)) rfl rfl nM rfl oV nM rfl (by simp) (by rw [aU]; decide) (w.n64 rfl) (by decide) hq (lU hz 18 [22, 23, 24, 25, 26] rfl) ?_
 obtain ⟨y27, hy27, G27⟩ := G22.nums (n := 43) w [22, 23, 24, 25, 26] rfl rfl rfl
 rw [hy27]
 change Got _ _ _ _ _ 27 _ at G27
 refine rC <| om rfl ?_
 refine kZ (Li := rd N q (a + (aA (nodeIts.take 23) c).length)) (fun u H1 A1 Lo => CellA (nw S A1) H1 (.row 8 [.int .i64]) u (c 27) ∧ Lo = rd N q (a + (aA (nodeIts.take 24) c).length)) rfl rfl nM rfl has90 oV tK nM (fun H hH => ?_) ?_
 ·refine (aRo (hH.have fun p hp => by repeat (first | exact hp | exact List.mem_append_left _ hp | exact List.mem_append_left _ (List.mem_append_left _ hp) | apply List.mem_append_right | apply List.mem_cons_of_mem)) (by omega) (by omega) h64 hq p27).mono fun u H' _ ⟨Lo, t, p, e2⟩ => ⟨Lo, t, ?_, e2.trans (by rw [← e27])⟩
  rw [w.rc (i := 27) (ks' := [.int .i64]) rfl, hns]
  exact CellA.gr (vX (hH.nxT gA (fun j h => nW h))) _ _ _ p
 rintro u27 H27 A27 _ g27 ⟨q27, rfl⟩
 replace gA := gA.trans g27
 replace G27 := G27.gr g27.nw
 refine fo 27 V38 eI rfl ?_
 obtain ⟨y28, hy28, G28⟩ := G27.put (n := 43) rfl q27 rfl
 change Got _ _ _ _ _ 28 _ at G28
 refine dC rfl nM rfl rfl eI rfl (CellA.one q27) uP hy28 (by exact bQ rfl) nM ?_
 refine rC <| om rfl <| fo 28 V38 aI rfl <| aM (out := pts N3 [28]) rfl rfl nM oP lI fO rfl rfl (by kernel_rfl) rfl rfl ?_
 intro N64
 refine lX (js := [28]) (ns := [28].map fun j => iv (c j)) rfl rfl nM rfl oV nM rfl (by simp) (by rw [aU]; decide) (w.n64 rfl) (by decide) hq (lU hz 24 [28] rfl) ?_
 obtain ⟨y29, hy29, G29⟩ := G28.nums (n := 43) w [28] rfl rfl rfl
 rw [hy29]
 change Got _ _ _ _ _ 29 _ at G29
 refine rC <| om rfl ?_
 refine kZ (Li := rd N q (a + (aA (nodeIts.take 25) c).length) ++ [(N3, AObj.cells (cellsOf 43 (y29)) (cI E 38) true)]) (fun u H1 A1 Lo => ∃ v29 v30, CellA (nw S A1) H1 (.row 40 vF) v29 (c 29) ∧ CellA (nw S A1) H1 (.row 56 aGi) v30 (c 30) ∧ u = .tuple ⟨[]⟩ ∧ Lo = rd N q (a + (aA (nodeIts.take 27) c).length) ++ [(N3, AObj.cells (cellsOf 43 (gX (gX y29 29 v29) 30 v30)) (cI E 38) true)]) rfl rfl nM rfl has91 oV (.cons .zero (.cons .zero .nil)) nM (fun H hH => ?_) ?_
 ·refine (aIn w h29 h30 (G29.2 29 (by decide)) (G29.2 30 (by decide)) hq p29 (hH.have fun p hp => ?_) (hH.dist.sublist (List.Sublist.cons_cons _ (List.Sublist.cons_cons _ (List.nil_sublist _))))).mono fun u H' _ ⟨Lo, t, v1, v2, p, p2, e1, e2⟩ => ⟨Lo, t, v1, v2, CellA.gr (vX (hH.nxT gA (fun j h => nW h))) _ _ _ p, CellA.gr (vX (hH.nxT gA (fun j h => nW h))) _ _ _ p2, e1, e2.trans (by rw [e29]; rfl)⟩
  exact (List.mem_append.1 hp).elim (fun h => List.mem_append_left _ h) (fun h => List.mem_append_right _ (by rw [List.mem_singleton] at h; rw [h]; exact List.Mem.head _))
 rintro _ H29 A29 _ g29 ⟨v29, v30, q29, q30, rfl, rfl⟩
 replace gA := gA.trans g29
 replace G29 := G29.gr g29.nw
 have G31 := (G29.upd rfl q29).upd (ks := kNode) (m := 30) rfl q30
 change Got _ _ _ _ _ 31 _ at G31
 generalize gX (gX y29 29 v29) 30 v30 = y31 at G31 ⊢
 rw [List.append_assoc]
 refine rC <| om rfl <| fo 31 V38 aI rfl <| fo 32 V38 aI rfl <| fo 33 V38 aI rfl <| fo 34 V38 aI rfl <| aM (out := pts N3 [31, 32, 33, 34]) rfl rfl nM oP lI fO rfl rfl (by kernel_rfl) rfl rfl ?_
 intro N73
 refine lX (js := [31, 32, 33, 34]) (ns := [31, 32, 33, 34].map fun j => iv (c j)) rfl rfl nM rfl oV nM rfl (by simp) (by rw [aU]; decide) (w.n64 rfl) (by decide) hq (lU hz 27 [31, 32, 33, 34] rfl) ?_
 obtain ⟨y35, hy35, G35⟩ := G31.nums (n := 43) w [31, 32, 33, 34] rfl rfl rfl
 rw [hy35]
 change Got _ _ _ _ _ 35 _ at G35
 refine rC <| om rfl <| ot (rd N q (a + (aA (nodeIts.take 31) c).length)) (fun u Lo => u = .string ⟨⟨tv (c 35)⟩⟩ ∧ Lo = rd N q (a + (aA (nodeIts.take 32) c).length)) aGp oV (fun H hH => by rw [← e35]; exact sB (hH.have fun p hp => by repeat (first | exact hp | exact List.mem_append_left _ hp | exact List.mem_append_left _ (List.mem_append_left _ hp) | apply List.mem_append_right | apply List.mem_cons_of_mem)) (by omega) (by omega) hq p35) ?_
 rintro _ _ ⟨rfl, rfl⟩
 refine fo 35 V38 gJ rfl ?_
 obtain ⟨y36, hy36, G36⟩ := G35.txt (n := 43) w rfl rfl
 change Got _ _ _ _ _ 36 _ at G36
 refine dC rfl nM rfl rfl gJ rfl rfl uP hy36 (by exact bQ rfl) nM ?_
 refine rC <| om rfl <| fo 36 V38 aI rfl <| fo 37 V38 aI rfl <| fo 38 V38 aI rfl <| fo 39 V38 gU rfl <| fo 39 V36 aI rfl <| fo 39 V38 gU rfl <| fo 40 V36 aI rfl <| fo 39 V38 gU rfl <| fo 41 V36 aI rfl <| aM (out := pts N3 [36, 37, 38, 39, 40, 41]) rfl rfl nM oP lI fO rfl rfl (by kernel_rfl) rfl rfl ?_
 intro N88
 refine lX (js := [36, 37, 38, 39, 40, 41]) (ns := [36, 37, 38, 39, 40, 41].map fun j => iv (c j)) rfl rfl nM rfl oV nM rfl (by simp) (by rw [aU]; decide) (w.n64 rfl) (by decide) hq (lU hz 32 [36, 37, 38, 39, 40, 41] rfl) ?_
 obtain ⟨y42, hy42, G42⟩ := G36.nums (n := 43) w [36, 37, 38, 39, 40, 41] rfl rfl rfl
 rw [hy42]
 change Got _ _ _ _ _ 42 _ at G42
 refine tq <| rB <| om rfl <| ot (rd N q (a + (aA (nodeIts.take 38) c).length)) (fun u Lo => u = .int .i64 (((rv (c 42)).length : Nat) : Int) ∧ Lo = rd N q (a + (aA (nodeIts.take 38) c).length + (aF (rv (c 42)).length).length)) mO oV (fun H hH => fE (hH.have fun p hp => by repeat (first | exact hp | exact List.mem_append_left _ hp | exact List.mem_append_left _ (List.mem_append_left _ hp) | apply List.mem_append_right | apply List.mem_cons_of_mem)) (by omega) (by omega) hq p42) ?_
 rintro _ _ ⟨rfl, rfl⟩
 refine om rfl <| aB <| aK ?_
 refine bK (σ := Nat × Nat) (fun x => (rv (c 42)).length - x.2) (fun x => [(0, .pointer (some ⟨2 * N + 1, 0, none⟩)), (2, .pointer (some ⟨2 * N2 + 1, 0, none⟩)), (3, .pointer (some ⟨2 * N3 + 1, 0, none⟩)), (91, .int .i64 (((rv (c 42)).length : Nat) : Int)), (92, .int .i64 ((x.2 : Nat) : Int))]) (fun _ => H29) (fun _ => A29) (fun x => rd N q (a + (aA (nodeIts.take 38) c).length + (aF (rv (c 42)).length).length + (aL ptIts ((rv (c 42)).take x.2)).length) ++ ((N3, AObj.cells (cellsOf 43 (gX y42 42 (gsl x.1 x.2))) (cI E 38) true) :: (N2, AObj.cells (cellsOf 43 aKa) (cI E 38) true) :: fK x.1 2 (jH ((rv (c 42)).take x.2)) x.2)) (fun x => x.2 ≤ (rv (c 42)).length) ((0, 0)) ((Nat.zero_le _)) pK rfl rfl (by rw [show gX y42 42 (gsl 0 0) = y42 from pG (G42.2 42 (Nat.le_refl _))]; exact List.Sublist.refl _) ?_
 intro st hJ2 t1
 obtain ⟨M1, k⟩ := st
 dsimp only at hJ2 ⊢
 refine aH ?_
 rcases Nat.lt_or_ge k (rv (c 42)).length with hk | hk
 ·obtain ⟨d, hd⟩ : ∃ d, (rv (c 42))[k]? = some d := ⟨_, List.getElem?_eq_getElem hk⟩
  have hdm := List.mem_of_getElem? hd
  have wd := w42 d hdm
  have okd := ok42 d hdm
  have hd5 : d.length = 2 := okd.1
  have hX : (d.map CT.val).length = 2 := by rw [List.length_map, hd5]
  obtain ⟨hp1, hp2⟩ := sI p42b hd
  refine rA <| ob rfl (by exact aX (by omega)) ?_
  refine tq <| aO rfl <| aJ <| aD <| aH <| aK <| rB <| bR (cs := (.int .i64 0 :: .int .i64 0 :: [])) rfl rfl nM eB rfl rfl ?_
  intro N4
  refine tq <| fZ (pC (T := rd N q _)) ?_
  refine rA <| om rfl <| fo 0 V44 aI rfl <| fo 1 V44 aI rfl <| aM (out := pts N4 [0, 1]) rfl rfl nM oP lI fO rfl rfl (by kernel_rfl) rfl rfl ?_
  intro N97
  refine lX (js := [0, 1]) (ns := [0, 1].map fun j => iv (cfn d j)) rfl rfl nM rfl oV nM rfl (by simp) (by decide) (wd.n64 rfl) (by decide) hq ⟨(rF hp1 [0, 1] rfl).1, (rF hp1 [0, 1] rfl).2.trans hp2⟩ ?_
  rw [show wr [.int .i64 0, .int .i64 0] [0, 1] ([0, 1].map fun j => iv (cfn d j)) = d.map CT.val from uT (ks := [.int .i64, .int .i64]) rfl wd hd5 (by rfl)]
  refine rD <| fo 39 V38 gU rfl <| fo 42 V36 oC rfl <| lB rfl V34 (iR _ _ _) ?_
  refine aV rfl rfl rfl (by exact bV (s := 2) V44 rfl eB rfl mA (by have h9 := hX; omega) (by rw [List.drop_zero, List.take_of_length_le (Nat.le_of_eq hX)])) ?_
  refine aM (out := d.map CT.val) rfl rfl nM oP V34 eB rfl rfl (pM hX (by kernel_rfl)) (by rw [hX]; rfl) rfl ?_
  intro N103
  refine eU (L1 := (_ :: (rd N q _ ++ [_, _, _])) ++ fK _ 2 _ _) (List.Sublist.refl _) (by intro h; cases h) ?_
  refine iW (bt := 16) (sz := 2) (L1 := _ :: (rd N q _ ++ [_, _, _])) (cs' := jH ((rv (c 42)).take (k + 1))) rfl rfl nM rfl rfl rfl rfl rfl V34 V34 (by rfl) eB rfl rfl (by decide) rfl (eL (List.mem_append_left _ mA) (by rw [hX])) ((iC rfl fun x hx => ok42 x (List.mem_of_mem_take hx)).trans (by rw [List.length_take, Nat.min_eq_left (by omega)]; rfl)) (okd.one S) (by omega) (by omega) (nR hd) nM ?_
  intro M2
  refine fo 39 V38 gU rfl <| fo 42 V36 oC rfl <| dC rfl nM rfl rfl oC rfl (qF _ _) uP ((jF rfl).trans (congrArg (cellsOf _) (oK _ _ _ _))) (by exact bQ rfl) nM ?_
  refine aZ <| bA <| aD <| rA <| ob rfl (by exact aY (by omega)) ?_
  refine om rfl <| aZ ?_
  refine cN (M2, k + 1) (show (rv (c 42)).length - (k + 1) < (rv (c 42)).length - k by omega) (show k + 1 ≤ (rv (c 42)).length by omega) pK rfl rfl ?_
  exact List.Sublist.cons _ (List.Sublist.cons_cons _ (List.Sublist.cons _ (List.Sublist.refl _)))
 ·obtain rfl : k = (rv (c 42)).length := by omega
  rw [List.take_length]
  rw [show aL ptIts (rv (c 42)) = (rv (c 42)).flatMap fun r => aA ptIts (cfn r) from rfl, e42]
  refine rA <| ob rfl (by exact aW (by omega)) ?_
  refine tq <| aG rfl <| bJ <| aR <| aS <| aN <| aD <| aH <| aH <| sF (L' := rd N q _ ++ [_, _]) (b := 16) (ks := [.int .i64, .int .i64]) (rows := (rv (c 42))) (sz := 2) (Takes.end' (T := fK _ _ _ _) (L1 := rd N q _ ++ [_, _])) gA (fun j h => nW h) rfl rfl (iC rfl ok42) (fun j e he => oN rfl ok42 _ _ j e he) (by omega) (by omega) ?_
  intro H42 A42 g42 q42
  replace gA := gA.trans g42
  rw [← w.rc (i := 42) (ks' := [.int .i64, .int .i64]) rfl] at q42
  have G43 := (G42.gr g42.nw).upd rfl q42
  change Got _ _ _ _ _ 43 _ at G43
  generalize gX y42 42 (gsl M1 (rv (c 42)).length) = y43 at G43 ⊢
  refine rA <| om rfl <| ot (rd N q (a + (aA (nodeIts.take 39) c).length)) (fun u Lo => u = .int .i64 0 ∧ Lo = rd N q (a + (aA (nodeIts.take 39) c).length)) qX oV (fun H hH => nL (hH.have fun p hp => by repeat (first | exact hp | exact List.mem_append_left _ hp | exact List.mem_append_left _ (List.mem_append_left _ hp) | apply List.mem_append_right | apply List.mem_cons_of_mem))) ?_
  rintro _ _ ⟨rfl, rfl⟩
  refine ob rfl (by exact bP (by rfl)) ?_
  refine aB <| aG rfl <| aJ <| aD <| rB <| aV rfl rfl rfl (by exact bV V38 rfl fU rfl mA (by exact bQ rfl) (by exact bZ)) ?_
  refine bX rfl nM rfl rfl fU (by exact aU _ _) ((G43.pts (by rfl)).cells (n := 43) rfl).one uP (cF (aU _ _)) (by exact cH rfl rfl) nM ?_
  refine aB <| aT <| aE (.cell rfl (by exact bV V38 rfl fU rfl mA (by exact bQ rfl) (by exact bZ)) .nil) ?_
  intro H hH
  have hh := hH.subl (L' := rd N q (a + (aA (nodeIts.take 39) c).length)) (List.sublist_append_left _ _)
  refine ⟨_, hh.turned gA ⟨_, List.Mem.head _⟩, ⟨_, rfl, (G43.pts (by rfl)).gr hh.give⟩, by rw [show nodeIts.take 39 = nodeIts from rfl]⟩
end Go.Proofs.YteklajiaicmogaaGreatDoor
