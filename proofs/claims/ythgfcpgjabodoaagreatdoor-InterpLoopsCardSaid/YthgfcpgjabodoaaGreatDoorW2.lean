/-
  Functions that begin with a deferred call.
-/
import Derived.Test.YthgfcpgjabodoaaGreatDoorB0
import Derived.Test.YthgfcpgjabodoaaGreatDoorAb8
import Derived.Test.YthgfcpgjabodoaaGreatDoorShelf
import Derived.WalkSmall
import Derived.Lib.LaidTab
import Derived.Lib.AtoiErrMem
set_option linter.unusedVariables false
set_option linter.unusedSimpArgs false
set_option linter.unusedSectionVars false
set_option maxRecDepth 100000
namespace Go.Proofs.YthgfcpgjabodoaaGreatDoor
open Go Go.AM
/-- a body that begins with a deferred call, in its parts -/
noncomputable def aQt (F : Func) : Option DFn :=
 match F.body with
 | some (.seq c0 (.seq (.region _ ops false) rest)) => (match (ops[0]? : Option Oper) with
  | some o => (match o.dst, o.op with
   | some d, .makeFunc (.func gd) _ caps => some ⟨F.ntmps, F.results.toList, c0, d, gd, caps, rest⟩
   | _, _ => none)
  | none => none)
 | _ => none
noncomputable def dfs (g : FuncId) : Option DFn := bif Nat.beq g 22 then aQt Tryz.f22 else bif Nat.beq g 23 then aQt Tryz.f23 else none
noncomputable def aNv (nt : Nat) (rs : List ResultVar) (ops : Array Oper) (d0 d1 : Nat) (z : Value) (r : List Oper) (rest : Code) (fuel : Nat) (args : List Value) (w : World) : Bool :=
 match (mB args nt).put (some d0) .nilIface with
 | some f1 => (match f1.put (some d1) (.tuple ⟨[ext z, .bool false]⟩) with
  | some f2 => (match eI E nH ops r f2 (AM.start w) with
   | some (g1, H1) => (match gK E nH fuel rest g1 H1 with
    | some (.normal, g2, H2) => (match cJ E g2 H2 rs with
     | some _ => true
     | none => false)
    | _ => false)
   | none => false)
  | none => false)
 | none => false
theorem yE {nt : Nat} {rs : List ResultVar} {ops : Array Oper} {d0 d1 : Nat} {z : Value} {r : List Oper} {rest : Code} {fuel : Nat} {args : List Value} {w : World} (h : aNv nt rs ops d0 d1 z r rest fuel args w = true) :
 ∃ f1 f2 g1 H1 e g2 H2 vs, (mB args nt).put (some d0) .nilIface = some f1 ∧ f1.put (some d1) (.tuple ⟨[ext z, .bool false]⟩) = some f2 ∧ eI E nH ops r f2 (AM.start w) = some (g1, H1) ∧ gK E nH fuel rest g1 H1 = some (e, g2, H2) ∧ (e = .normal ∨ e = .ret) ∧ cJ E g2 H2 rs = some vs := by
 unfold aNv at h
 split at h
 ·rename_i f1 h1
  split at h
  ·rename_i f2 h2
   split at h
   ·rename_i g1 H1 h3
    split at h
    ·rename_i g2 H2 h4
     split at h
     ·rename_i vs h5
      exact ⟨f1, f2, g1, H1, _, g2, H2, vs, h1, h2, h3, h4, .inl rfl, h5⟩
     ·cases h
    ·cases h
   ·cases h
  ·cases h
 ·cases h
theorem ben45 : aAh Tryz.prog 45 3 :=
 aLk E mixed Tryz.func45 rfl rfl rfl rfl rfl rfl rfl rfl Tryz.underlying112 aJe rfl (fuel := 9) fun args w h => by
  match args, h with
  | [a, b, c], _ => exact yE (by kernel_rfl)
theorem ben49 : aAh Tryz.prog 49 2 :=
 aLk E mixed Tryz.func49 rfl rfl rfl rfl rfl rfl rfl rfl Tryz.underlying112 aJe rfl (fuel := 9) fun args w h => by
  match args, h with
  | [a, b], _ => exact yE (by kernel_rfl)
theorem dS [σ : Sg] (E' : Env Tryz.prog) (g : FuncId) (x : DFn) (h : dfs g = some x) : aQv E' g x := by
 unfold dfs at h
 cases h1 : Nat.beq g 22 with
 | true =>
  rw [h1, cond_true] at h
  obtain rfl := Nat.eq_of_beq_eq_true h1
  cases h
  intro args H H1 H3 f1 f2 f3 e vs r0 r1 r2 he hr
  exact ACalls.defers E' Tryz.func22 rfl rfl rfl rfl rfl rfl rfl rfl rfl rfl Tryz.func45 rfl rfl ben45 r0 r1 r2 he hr
 | false =>
  rw [h1, cond_false] at h
  cases h2 : Nat.beq g 23 with
  | false => rw [h2, cond_false] at h; cases h
  | true =>
   rw [h2, cond_true] at h
   obtain rfl := Nat.eq_of_beq_eq_true h2
   cases h
   intro args H H1 H3 f1 f2 f3 e vs r0 r1 r2 he hr
   exact ACalls.defers E' Tryz.func23 rfl rfl rfl rfl rfl rfl rfl rfl rfl rfl Tryz.func49 rfl rfl ben49 r0 r1 r2 he hr
end Go.Proofs.YthgfcpgjabodoaaGreatDoor
namespace Go.Proofs.YthgfcpgjabodoaaGreatDoor
open Go Go.AM
def Tab (S : AH) : Prop := Lib.TabIs Tryz.prog S.w0 "internal/strconv.uint64pow10" .u64 Lib.pow10Tab
theorem aRu : ∃ g, Tryz.prog.globalNamed "internal/strconv.uint64pow10" = some g := by
 cases h : Tryz.prog.globalNamed "internal/strconv.uint64pow10" with
 | some g => exact ⟨g, rfl⟩
 | none => exact absurd h (by
  have : (Tryz.prog.globalNamed "internal/strconv.uint64pow10").isSome = true := by kernel_rfl
  intro e; rw [e] at this; cases this)
theorem Tab.later {S : AH} (hT : Tab S) {w : World} (h : RowKit.Below S.w0.heap.size S.w0 w) : Lib.TabIs Tryz.prog w "internal/strconv.uint64pow10" .u64 Lib.pow10Tab := by
 obtain ⟨g, hg⟩ := aRu
 have hT2 : S.w0.var? Tryz.prog "internal/strconv.uint64pow10" = some _ := hT
 have hgB : g < S.w0.heap.size := by
  simp only [World.var?, hg, Option.bind_some] at hT2
  split at hT2
  ·rename_i hx; exact alt_of_getElem? hx
  ·cases hT2
 exact var?_below h hg hgB hT
theorem Tab.at {S H : AH} (hT : Tab S) (h : S.w0 = H.w0) : Tab H := by unfold Tab at *; rw [← h]; exact hT
section
variable [σ : Sg]
theorem vD (s : ByteArray) (hs : s.size ≤ 100) {v : Int} (h : Lib.atoiAll s.data.toList = .ok v) (H : AH) (a r : Value) (ha : ∀ φ v', VR φ a v' → v' = .string s) (hr : ∀ φ, VR φ r (.int .i64 v)) : ACalls Tryz.prog 237 [a] H fun u K => u = .tuple ⟨[r, .nilIface]⟩ ∧ K = H := by
 intro π φ args' w hv hR
 match args', hv with
 | [], hv => have := hv.1; simp at this
 | [x], hv =>
  obtain rfl := ha φ x hv.head
  refine (Tryz.strconv_Atoi_ok s (by omega) v h w).mono ?_
  rintro e w' ⟨rfl, hw⟩
  have hb : RowKit.Below w.heap.size w w' := by
   rcases hw with rfl | ⟨t, rfl⟩
   ·exact RowKit.Below.refl _ _
   ·exact Lib.bytesWorld_below _ _ _
  exact ⟨φ, _, _, H, List.prefix_refl _, rfl, VR.tuple' (VRs.cons (hr φ) (VRs.cons .nilIface (VRs.nil φ))), hR.later hb, rfl, rfl, rfl⟩
 | _ :: _ :: _, hv => have := hv.1; simp at this
/-- strconv.Atoi, at texts and at placeholders -/
def tbA (pt : Nat → Option Nat) : dM := fun g args H => bif Nat.beq g 237 then (match args with
 | [.string s] => bif Nat.ble s.size 100 then (match Lib.atoiAll s.data.toList with
  | .ok v => some (.tuple ⟨[.int .i64 v, .nilIface]⟩, H)
  | _ => none) else none
 | [.chan (some r)] => bif Nat.beq (r % 2) 1 then (match pt (r / 2) with
  | some j => some (.tuple ⟨[.chan (some (2 * j + 1)), .nilIface]⟩, H)
  | none => none) else none
 | _ => none) else none
theorem dV {pt : Nat → Option Nat} (hp : ∀ k j, pt k = some j → ∃ s n, Sg.at σ k = .string s ∧ Sg.at σ j = .int .i64 n ∧ s.size ≤ 100 ∧ Lib.atoiAll s.data.toList = .ok n) : eR Tryz.prog (tbA pt) := by
 intro g args H v H' h
 unfold tbA at h
 cases hg : Nat.beq g 237 with
 | false => rw [hg] at h; cases h
 | true =>
  rw [hg, cond_true] at h
  obtain rfl := Nat.eq_of_beq_eq_true hg
  split at h
  ·rename_i s
   cases hs : Nat.ble s.size 100 with
   | false => rw [hs] at h; cases h
   | true =>
    rw [hs, cond_true] at h
    split at h
    ·rename_i n hn
     cases h
     exact ⟨rfl, vD s (Nat.le_of_ble_eq_true hs) hn H _ _ (fun φ v' hv => by cases hv; rfl) fun φ => .int _ _⟩
    ·cases h
  ·rename_i r
   cases hr : Nat.beq (r % 2) 1 with
   | false => rw [hr] at h; cases h
   | true =>
    rw [hr, cond_true] at h
    split at h
    ·rename_i j hj
     cases h
     obtain ⟨s, n, h1, h2, h3, h4⟩ := hp _ _ hj
     obtain ⟨k, rfl⟩ : ∃ k, r = 2 * k + 1 := ⟨r / 2, by have := Nat.eq_of_beq_eq_true hr; omega⟩
     rw [show (2 * k + 1) / 2 = k by omega] at h1
     refine ⟨rfl, vD s h3 h4 H _ _ (fun φ v' hv => ?_) fun φ => by rw [← h2]; exact .ph j⟩
     rw [← h1]
     exact (Fits.same φ k v').1 hv
    ·cases h
  ·cases h
def jX : Nat → Option Nat := fun _ => none
theorem eJ : ∀ k j, jX k = some j → ∃ s n, Sg.at σ k = .string s ∧ Sg.at σ j = .int .i64 n ∧ s.size ≤ 100 ∧ Lib.atoiAll s.data.toList = .ok n := fun _ _ h => by cases h
/-- internal/strconv.numDigits, which asks the table of powers -/
def tcA : cE := fun g args H => bif Nat.beq g 57 then (match args with
 | [.int .u64 n] => bif decide (1 ≤ n) && decide (n < 18446744073709551616) then some (.int .i64 (Lib.nDigits n.toNat), H, [Tab H]) else none
 | _ => none) else none
theorem gA : bY Tryz.prog tcA := by
 intro g args H v H' L h hL
 unfold tcA at h
 cases hg : Nat.beq g 57 with
 | false => rw [hg] at h; cases h
 | true =>
  rw [hg, cond_true] at h
  obtain rfl := Nat.eq_of_beq_eq_true hg
  split at h
  ·rename_i n
   cases hn : (decide (1 ≤ n) && decide (n < 18446744073709551616)) with
   | false => rw [hn] at h; cases h
   | true =>
    rw [hn, cond_true] at h
    cases h
    simp only [Bool.and_eq_true, decide_eq_true_eq] at hn
    have hT : Tab H := hL _ (List.mem_cons_self ..)
    refine ⟨rfl, fun π φ args' w hv hR => ?_⟩
    obtain rfl := gS hv rfl
    obtain ⟨m, rfl⟩ := Int.eq_ofNat_of_zero_le (show 0 ≤ n by omega)
    refine (Tryz.internal_strconv_numDigits m (by omega) (by omega) w (hT.later hR.below)).mono ?_
    rintro e w' ⟨rfl, rfl⟩
    exact ⟨φ, _, _, H, List.prefix_refl _, rfl, .int _ _, hR, rfl, rfl, rfl⟩
  ·cases h
end
/-- a closed run of this program -/
noncomputable abbrev lD (fuel : Nat) : cE := dB E tcA (tbA jX) dfs fuel
theorem kZ (fuel : Nat) : bY Tryz.prog (lD fuel) := cB E gA (dV eJ) (dS E) mixed fuel
def kR (r : Option (Value × AH × List Prop)) : Option (Value × List Prop) := match r with
 | some (v, _, L) => some (v, L)
 | none => none
theorem flatA {g : FuncId} {args : List Value} {r : Value} {fuel : Nat} {L : World → List Prop} (hx : dJ args = args) (h : ∀ w, kR (lD fuel g args (AM.start w)) = some (r, L w)) (w : World) (hL : ∀ p ∈ L w, p) : Flat Tryz.prog g args w r := by
 have h1 := h w
 unfold kR at h1
 split at h1
 ·rename_i v K L' hc
  cases h1
  show ACalls Tryz.prog g (dJ args) (AM.start w) _
  rw [hx]
  exact ((kZ fuel _ _ _ _ _ _ hc hL).2).mono fun v K hv => hv.1
 ·cases h1
/-- the document of the examples, W by H -/
def gN (w h : Int) : Value := .agg ⟨[.int .i64 w, .int .i64 h, .int .i64 0, .slice none 0 0, .int .i64 1, .int .i64 0, .int .i64 0, .slice none 0 0, .slice none 0 0, .slice none 0 0]⟩
mutual
/-- no address in it -/
def pnV : Value → Bool
 | .bool _ => true
 | .int _ _ => true
 | .string _ => true
 | .pointer none => true
 | .slice none _ _ => true
 | .map none => true
 | .nilFunc => true
 | .nilIface => true
 | .agg ⟨a⟩ => pnL a
 | .tuple ⟨a⟩ => pnL a
 | _ => false
def pnL : List Value → Bool
 | [] => true
 | v :: r => pnV v && pnL r
end
section
variable [σ : Sg]
mutual
theorem aJy {φ : List AM.Place} : ∀ (v v' : Value), pnV v = true → VR φ v v' → v' = v
 | .bool _, _, _, h => by cases h; rfl
 | .int _ _, _, _, h => by cases h; rfl
 | .string _, _, _, h => by cases h; rfl
 | .pointer none, _, _, h => by cases h; rfl
 | .slice none _ _, _, _, h => by cases h; rfl
 | .map none, _, _, h => by cases h; rfl
 | .nilFunc, _, _, h => by cases h; rfl
 | .nilIface, _, _, h => by cases h; rfl
 | .agg ⟨a⟩, _, hp, h => by
  cases h with
  | agg ha va => rw [aAj a _ (by simpa only [pnV] using hp) ⟨ha, va⟩]
 | .tuple ⟨a⟩, _, hp, h => by
  cases h with
  | tuple ha va => rw [aAj a _ (by simpa only [pnV] using hp) ⟨ha, va⟩]
 | .float _ _, _, hp, _ => by simp [pnV] at hp
 | .complex _ _ _, _, hp, _ => by simp [pnV] at hp
 | .pointer (some _), _, hp, _ => by simp [pnV] at hp
 | .slice (some _) _ _, _, hp, _ => by simp [pnV] at hp
 | .map (some _), _, hp, _ => by simp [pnV] at hp
 | .chan _, _, hp, _ => by simp [pnV] at hp
 | .func _ _ _, _, hp, _ => by simp [pnV] at hp
 | .iface _ _, _, hp, _ => by simp [pnV] at hp
theorem aAj {φ : List AM.Place} : ∀ (l l' : List Value), pnL l = true → VRs φ l l' → l' = l
 | [], l', _, h => List.eq_nil_of_length_eq_zero h.1.symm
 | v :: r, [], _, h => by have := h.1; simp at this
 | v :: r, v' :: r', hp, h => by
  simp only [pnL, Bool.and_eq_true] at hp
  rw [aJy v v' hp.1 h.head, aAj r r' hp.2 h.tail]
end
mutual
theorem aAy {φ : List AM.Place} : ∀ (v : Value), pnV v = true → VR φ v v
 | .bool _, _ => .bool _
 | .int _ _, _ => .int _ _
 | .string _, _ => .string _
 | .pointer none, _ => .pnil
 | .slice none _ _, _ => .snil _ _
 | .map none, _ => .mnil
 | .nilFunc, _ => .nilFunc
 | .nilIface, _ => .nilIface
 | .agg ⟨a⟩, hp => VR.agg' (vV a (by simpa only [pnV] using hp))
 | .tuple ⟨a⟩, hp => VR.tuple' (vV a (by simpa only [pnV] using hp))
 | .float _ _, hp => by simp [pnV] at hp
 | .complex _ _ _, hp => by simp [pnV] at hp
 | .pointer (some _), hp => by simp [pnV] at hp
 | .slice (some _) _ _, hp => by simp [pnV] at hp
 | .map (some _), hp => by simp [pnV] at hp
 | .chan _, hp => by simp [pnV] at hp
 | .func _ _ _, hp => by simp [pnV] at hp
 | .iface _ _, hp => by simp [pnV] at hp
theorem vV {φ : List AM.Place} : ∀ (l : List Value), pnL l = true → VRs φ l l
 | [], _ => VRs.nil φ
 | v :: r, hp => by
  simp only [pnL, Bool.and_eq_true] at hp
  exact VRs.cons (aAy v hp.1) (vV r hp.2)
end
end
/-- what is called with values without addresses, at any heap -/
theorem aAd {σ : Sg} {g : FuncId} {args : List Value} {r : Value} {H : AH} (ha : pnL args = true) (hr : pnV r = true) (h : ∀ w : World, RowKit.Below H.w0.heap.size H.w0 w → Flat (σ := noSg) Tryz.prog g args w r) (hx : dJ args = args) : ACalls (σ := σ) Tryz.prog g args H fun v K => v = r ∧ K = H := by
 intro π φ args' w hv hR
 have e0 : args' = args := aAj _ _ ha hv
 subst e0
 have h0 : VRs (σ := noSg) [] (dJ args') args' := VRs.ext (σ := noSg) [] args'
 refine (h w hR.below kQ [] args' w h0 (Rel.start (σ := noSg) w)).mono ?_
 rintro e w' ⟨φ', v, v', H', h1, rfl, h3, h4, h5, rfl⟩
 have hb : RowKit.Below w.heap.size w w' := by have := @Rel.below noSg kQ _ _ _ h4; rw [h5] at this; exact this
 obtain rfl := aJy (σ := noSg) _ _ hr h3
 exact ⟨φ, _, _, H, List.prefix_refl _, rfl, aAy _ hr, hR.later hb, rfl, rfl, rfl⟩
end Go.Proofs.YthgfcpgjabodoaaGreatDoor
namespace Go.Proofs.YthgfcpgjabodoaaGreatDoor
open Go Go.AM
section
variable [σ : Sg]
theorem aMo (l : List Nat) : dJ [vT l] = [vT l] := by simp only [dJ, vT, ext]
theorem vT_rn (l : List Nat) (ι : Nat → Nat) : rnL phs ι [vT l] = [vT l] := by simp only [rnL, vT, rn]
/-- one outcome, pasted -/
structure Pst where
 g : FuncId
 s : List Nat
 v : Value
 n : Nat
 js : List Nat
 os : List AObj
def isT (l : List Nat) : Value → Bool
 | .string s => s.data.toList.map (fun b => b.toNat) == l
 | _ => false
theorem aJh {l : List Nat} {v : Value} (h : isT l v = true) (hl : l.all (fun n => Nat.blt n 256) = true) : v = vT l := by
 cases v with
 | string s =>
  have h : s.data.toList.map (fun b => b.toNat) = l := by simpa [isT] using h
  subst h
  unfold vT
  congr 1
  apply ByteArray.ext
  apply Array.toList_inj.1
  simp only [List.map_map]
  conv => lhs; rw [← List.map_id s.data.toList]
  apply List.map_congr_left
  intro b _
  simp
 | _ => simp [isT] at h
noncomputable def tbP (p : Pst) : dM := fun g args H => bif Nat.beq g p.g then (match args with
 | [a] => bif isT p.s a then some (rn phs (fun k => H.nx + k) p.v, aEk H p.n p.js p.os) else none
 | _ => none) else none
/-- it is what the run says -/
def tZ (p : Pst) : Prop := p.s.all (fun n => Nat.blt n 256) = true ∧ p.js.Nodup ∧ ∃ cc, bY Tryz.prog cc ∧ ∀ w0 : World, kJ p.js (cc p.g [vT p.s] ⟨w0, 0, .nil⟩) = some (p.v, p.n, p.os, [])
theorem zV {p : Pst} (hp : tZ p) : eR Tryz.prog (tbP p) := by
 obtain ⟨h1, h2, cc, h3, h4⟩ := hp
 intro g args H v H' h
 unfold tbP at h
 cases hg : Nat.beq g p.g with
 | false => rw [hg] at h; cases h
 | true =>
  rw [hg, cond_true] at h
  obtain rfl := Nat.eq_of_beq_eq_true hg
  split at h
  ·rename_i a
   cases ha : isT p.s a with
   | false => rw [ha] at h; cases h
   | true =>
    rw [ha, cond_true] at h
    cases h
    obtain rfl := aJh ha h1
    exact ⟨rfl, ACalls.paste h3 H h4 (fun q hq => by cases hq) (fun ι => vT_rn p.s ι) h2⟩
  ·cases h
def aGs (a b : dM) : dM := fun g args H => match a g args H with
 | some r => some r
 | none => b g args H
theorem uK {P : Program} {a b : dM} (ha : eR P a) (hb : eR P b) : eR P (aGs a b) := by
 intro g args H v H' h
 unfold aGs at h
 split at h
 ·rename_i r hr; cases h; exact ha _ _ _ _ _ hr
 ·exact hb _ _ _ _ _ h
end
/-- a run with outcomes pasted in -/
noncomputable abbrev qS (l : List Pst) (fuel : Nat) : cE := dB E tcA (l.foldr (fun p t => aGs (tbP p) t) (tbA jX)) dfs fuel
theorem aKt {l : List Pst} (hl : ∀ p ∈ l, tZ p) (fuel : Nat) : bY Tryz.prog (qS l fuel) := by
 refine cB E gA ?_ (dS E) mixed fuel
 induction l with
 | nil => exact dV eJ
 | cons p l ih => exact uK (zV (hl p (List.mem_cons_self ..))) (ih fun q hq => hl q (List.mem_cons_of_mem _ hq))
theorem uY {l : List Pst} (hl : ∀ p ∈ l, tZ p) {g : FuncId} {args : List Value} {r : Value} {fuel : Nat} {L : World → List Prop} (hx : dJ args = args) (h : ∀ w, kR (qS l fuel g args (AM.start w)) = some (r, L w)) (w : World) (hL : ∀ p ∈ L w, p) : Flat Tryz.prog g args w r := by
 have h1 := h w
 unfold kR at h1
 split at h1
 ·rename_i v K L' hc
  cases h1
  show ACalls Tryz.prog g (dJ args) (AM.start w) _
  rw [hx]
  exact ((aKt hl fuel _ _ _ _ _ _ hc hL).2).mono fun v K hv => hv.1
 ·cases h1
end Go.Proofs.YthgfcpgjabodoaaGreatDoor
