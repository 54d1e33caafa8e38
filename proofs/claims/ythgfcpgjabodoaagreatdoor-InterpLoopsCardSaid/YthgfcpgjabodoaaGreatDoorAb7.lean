/-
  An abstract machine that runs a program of the given form, and its soundness, part 7.
-/
import Derived.Test.YthgfcpgjabodoaaGreatDoorAb6
set_option linter.unusedVariables false
set_option linter.unusedSimpArgs false
set_option linter.unusedSectionVars false
noncomputable section
namespace Go.AM
open Go.RowKit
variable [σ : Sg]
abbrev cE := FuncId → List Value → AH → Option (Value × AH × List Prop)
def bY (P : Program) (cc : cE) : Prop := ∀ g args H v H' L, cc g args H = some (v, H', L) → (∀ p ∈ L, p) → H'.w0 = H.w0 ∧ ACalls P g args H fun u K => u = v ∧ K = H'
open Classical in
/-- the calls for which all is shown -/
def pl (cc : cE) : dM := fun g args H => match cc g args H with
 | some (v, H', L) => if ∀ p ∈ L, p then some (v, H') else none
 | none => none
theorem aOu {cc : cE} {g : FuncId} {args : List Value} {H H' : AH} {v : Value} {L : List Prop} (h : cc g args H = some (v, H', L)) (hL : ∀ p ∈ L, p) : pl cc g args H = some (v, H') := by
 unfold pl; rw [h]; simp only; rw [if_pos hL]
theorem pl_ok {P : Program} {cc : cE} (h : bY P cc) : eR P (pl cc) := by
 intro g args H v H' e
 unfold pl at e
 split at e
 ·rename_i v1 H1 L h1
  split at e
  ·rename_i hL; cases e; exact h _ _ _ _ _ _ h1 hL
  ·cases e
 ·cases e
section
variable {P : Program} (E : Env P)
def aFt (cc : cE) (ops : Array Oper) (o : Oper) (f : Fr) (H : AH) : Option (Value × AH × Bool × List Prop) :=
 bif bZ ops (dA f) o then
  bif dI E o.op then (match aop E (bS f) o.op H with
   | some (v, _) => some (v, H, false, [])
   | none => none)
  else (match dE E (bS f) o.op with
   | some (g, args) => (match cc g args H with
    | some (v, H', L) => some (v, H', true, L)
    | none => none)
   | none => (match aop E (bS f) o.op H with
    | some (v, H') => some (v, H', true, [])
    | none => none))
 else some (undef, H, false, [])
theorem aBt {cc : cE} {ops : Array Oper} {o : Oper} {f : Fr} {H H' : AH} {v : Value} {m : Bool} {L : List Prop} (h : aFt E cc ops o f H = some (v, H', m, L)) (hL : ∀ p ∈ L, p) : lX E (pl cc) ops o f H = some (v, H', m) := by
 unfold aFt at h
 unfold lX
 cases hw : bZ ops (dA f) o with
 | false => rw [hw, cond_false] at h; cases h; rfl
 | true =>
  rw [hw, cond_true] at h
  rw [cond_true]
  cases hq : dI E o.op with
  | true =>
   rw [hq, cond_true] at h
   rw [cond_true]
   split at h
   ·rename_i u K hop; cases h; rw [hop]
   ·cases h
  | false =>
   rw [hq, cond_false] at h
   rw [cond_false]
   split at h
   ·rename_i g args hc
    rw [hc]
    simp only
    split at h
    ·rename_i u K L1 hcc
     cases h
     rw [aOu hcc hL]
    ·cases h
   ·rename_i hc
    rw [hc]
    simp only
    split at h
    ·rename_i u K hop; cases h; rw [hop]
    ·cases h
def qM (cc : cE) (ops : Array Oper) : List Oper → Fr → AH → Option (Fr × AH × List Prop)
 | [], f, H => some (f, H, [])
 | o :: r, f, H => (match aFt E cc ops o f H with
  | some (v, H', _, L) => (match f.put o.dst v with
   | some g => (match qM cc ops r g H' with
    | some (g', K, L') => some (g', K, L ++ L')
    | none => none)
   | none => none)
  | none => none)
theorem aBq {cc : cE} {ops : Array Oper} : ∀ (l : List Oper) (f : Fr) (H : AH) (g : Fr) (K : AH) (L : List Prop), qM E cc ops l f H = some (g, K, L) → (∀ p ∈ L, p) → eI E (pl cc) ops l f H = some (g, K) := by
 intro l
 induction l with
 | nil => intro f H g K L h _; cases h; rfl
 | cons o r ih =>
  intro f H g K L h hL
  simp only [qM] at h
  split at h
  ·rename_i v H' m L1 hs
   split at h
   ·rename_i f1 hp
    split at h
    ·rename_i g' K' L2 hr
     cases h
     simp only [eI]
     rw [aBt E hs fun p hp => hL p (List.mem_append_left _ hp)]
     simp only
     rw [hp]
     exact ih _ _ _ _ _ hr fun p hp => hL p (List.mem_append_right _ hp)
    ·cases h
   ·cases h
  ·cases h
def uL (cc : cE) (ops : Array Oper) : List Oper → Fr → AH → Option (List iM × Fr × AH × List Prop)
 | [], f, H => some ([], f, H, [])
 | o :: r, f, H => (match aFt E cc ops o f H with
  | some (v, H', m, L) => (match f.put o.dst v with
   | some g => (match uL cc ops r g H' with
    | some (l, g', K, L') => some ((f, H, v, m) :: l, g', K, L ++ L')
    | none => none)
   | none => none)
  | none => none)
theorem aDa {cc : cE} {ops : Array Oper} : ∀ (l : List Oper) (f : Fr) (H : AH) (S : List iM) (g : Fr) (K : AH) (L : List Prop), uL E cc ops l f H = some (S, g, K, L) → (∀ p ∈ L, p) → fO E (pl cc) ops l f H = some (S, g, K) := by
 intro l
 induction l with
 | nil => intro f H S g K L h _; cases h; rfl
 | cons o r ih =>
  intro f H S g K L h hL
  simp only [uL] at h
  split at h
  ·rename_i v H' m L1 hs
   split at h
   ·rename_i f1 hp
    split at h
    ·rename_i S' g' K' L2 hr
     cases h
     simp only [fO]
     rw [aBt E hs fun p hp => hL p (List.mem_append_left _ hp)]
     simp only
     rw [hp]
     simp only
     rw [ih _ _ _ _ _ _ hr fun p hp => hL p (List.mem_append_right _ hp)]
    ·cases h
   ·cases h
  ·cases h
def lT (cc : cE) (ops : Array Oper) (f : Fr) (H : AH) : Option (Fr × AH × List Prop) :=
 bif dH ops (bef ops) then
  (match uL E cc ops ops.toList f H with
  | some (l, g, H', L) =>
   (match eW 0 l with
   | [] => some (g, H', L)
   | m :: r => bif (eO (bef ops) (m :: r) || pZ ops l (bef ops) (m :: r) (lI (bef ops) (m :: r))) && iF E ops (bef ops) (m :: r) ((0, H) :: gI l H' (m :: r)) 0 l then some (g, H', L) else none)
  | none => none)
 else none
theorem oS {cc : cE} {ops : Array Oper} {f g : Fr} {H K : AH} {L : List Prop} (h : lT E cc ops f H = some (g, K, L)) (hL : ∀ p ∈ L, p) : gF E (pl cc) ops f H = some (g, K) := by
 unfold lT at h
 unfold gF
 cases ho : dH ops (bef ops) with
 | false => rw [ho] at h; cases h
 | true =>
  rw [ho, cond_true] at h
  rw [cond_true]
  split at h
  ·rename_i l g' H' L' hr
   have hg : L' = L := by
    split at h
    ·cases h; rfl
    ·rcases aU h with h | h
     ·cases h; rfl
     ·cases h
   subst hg
   rw [aDa E _ _ _ _ _ _ _ hr hL]
   simp only
   split at h
   ·rename_i hm; cases h; rw [hm]
   ·rename_i m r hm
    rw [hm]
    simp only
    cases hb : ((eO (bef ops) (m :: r) || pZ ops l (bef ops) (m :: r) (lI (bef ops) (m :: r))) && iF E ops (bef ops) (m :: r) ((0, H) :: gI l H' (m :: r)) 0 l) with
    | false => rw [hb] at h; cases h
    | true => rw [hb, cond_true] at h; cases h; rfl
  ·cases h
def pN (cc : cE) (ops : Array Oper) (f : Fr) (H : AH) : Option (Fr × AH × List Prop) :=
 match ops.toList.drop (ops.size - 3) with
 | [p, s1, s2] => (match s1.op, s2.op with
  | .store t1 x1 y1, .store t2 x2 y2 =>
   bif dH ops (bef ops) && (uZ ops (bef ops) (ops.size - 3) && (p.guard.isNone && (s1.guard.isNone && (s2.guard.isNone && (s1.dst.isNone && s2.dst.isNone))))) then
    (match lT E cc (ops.toList.take (ops.size - 3)).toArray f H with
    | some (g, K, L) => (match nY E p t1 x1 y1 t2 x2 y2 g K with
     | some (g', K') => some (g', K', L)
     | none => none)
    | none => none)
   else none
  | _, _ => none)
 | _ => none
theorem xG {cc : cE} {ops : Array Oper} {f g : Fr} {H K : AH} {L : List Prop} (h : pN E cc ops f H = some (g, K, L)) (hL : ∀ p ∈ L, p) : lB E (pl cc) ops f H = some (g, K) := by
 unfold pN at h
 unfold lB
 split at h
 ·rename_i p s1 s2 hd
  rw [hd]
  simp only
  split at h
  ·rename_i t1 x1 y1 t2 x2 y2 h1 h2
   rw [h1, h2]
   simp only
   cases hb : (dH ops (bef ops) && (uZ ops (bef ops) (ops.size - 3) && (p.guard.isNone && (s1.guard.isNone && (s2.guard.isNone && (s1.dst.isNone && s2.dst.isNone)))))) with
   | false => rw [hb] at h; cases h
   | true =>
    rw [hb, cond_true] at h
    rw [cond_true]
    split at h
    ·rename_i g1 K1 L1 hr
     split at h
     ·rename_i g2 K2 hl
      cases h
      rw [oS E hr hL]
      exact hl
     ·cases h
    ·cases h
  ·cases h
 ·cases h
def zW (body : Fr → AH → Option (Exit × Fr × AH × List Prop)) : Nat → Fr → AH → Option (Exit × Fr × AH × List Prop)
 | 0, _, _ => none
 | n + 1, f, H => (match body f H with
  | some (.normal, f', H', L) => (match zW body n f' H' with
   | some (e, f2, H2, L2) => some (e, f2, H2, L ++ L2)
   | none => none)
  | r => r)
def fP (cc : cE) (fuel : Nat) : Code → Fr → AH → Option (Exit × Fr × AH × List Prop)
 | .skip, f, H => some (.normal, f, H, [])
 | .label _, f, H => some (.normal, f, H, [])
 | .exit i, f, H => some (.exit i, f, H, [])
 | .ret, f, H => some (.ret, f, H, [])
 | .seq a b, f, H => (match fP cc fuel a f H with
  | some (.normal, f', H', L) => (match fP cc fuel b f' H' with
   | some (e, f2, H2, L2) => some (e, f2, H2, L ++ L2)
   | none => none)
  | r => r)
 | .cond c x y, f, H => (match bS f c with
  | .bool true => fP cc fuel x f H
  | .bool false => fP cc fuel y f H
  | _ => none)
 | .block i c, f, H => (match fP cc fuel c f H with
  | some (.exit j, f', H', L) => bif Nat.beq j i then some (.normal, f', H', L) else some (.exit j, f', H', L)
  | r => r)
 | .loop c, f, H => zW (fP cc fuel c) fuel f H
 | .region _ ops draw, f, H =>
  bif draw then (match lT E cc ops f H with
   | some (g, K, L) => some (.normal, g, K, L)
   | none => (match pN E cc ops f H with
    | some (g, K, L) => some (.normal, g, K, L)
    | none => none))
  else (match qM E cc ops ops.toList f H with
   | some (g, K, L) => some (.normal, g, K, L)
   | none => none)
 | _, _, _ => none
theorem pC {cc : cE} (hcc : bY P cc) (hm : P.follows .mixedOrders = true) (fuel : Nat) : ∀ (c : Code) (f : Fr) (H : AH) (e : Exit) (g : Fr) (K : AH) (L : List Prop), fP E cc fuel c f H = some (e, g, K, L) → (∀ p ∈ L, p) → mI P c e g K f H := by
 have hcall := pl_ok hcc
 intro c
 induction c with
 | skip => intro f H e g K L h _; simp only [fP] at h; cases h; exact ⟨rfl, ACode.skip ⟨rfl, rfl, rfl⟩⟩
 | label l => intro f H e g K L h _; simp only [fP] at h; cases h; exact ⟨rfl, ACode.label ⟨rfl, rfl, rfl⟩⟩
 | exit i => intro f H e g K L h _; simp only [fP] at h; cases h; exact ⟨rfl, ACode.exit ⟨rfl, rfl, rfl⟩⟩
 | ret => intro f H e g K L h _; simp only [fP] at h; cases h; exact ⟨rfl, ACode.ret ⟨rfl, rfl, rfl⟩⟩
 | seq x y ihx ihy =>
  intro f H e g K L h hL
  simp only [fP] at h
  split at h
  ·rename_i f1 H1 L1 h1
   split at h
   ·rename_i e2 f2 H2 L2 h2
    cases h
    obtain ⟨w1, c1⟩ := ihx _ _ _ _ _ _ h1 fun p hp => hL p (List.mem_append_left _ hp)
    obtain ⟨w2, c2⟩ := ihy _ _ _ _ _ _ h2 fun p hp => hL p (List.mem_append_right _ hp)
    refine ⟨w2.trans w1, ACode.seq c1 ?_ ?_⟩
    ·rintro f' H' ⟨_, rfl, rfl⟩; exact c2
    ·rintro e' f' H' hne ⟨rfl, _⟩; exact absurd rfl hne
   ·cases h
  ·rename_i hne
   obtain ⟨w1, c1⟩ := ihx _ _ _ _ _ _ h hL
   have he : e ≠ .normal := by rintro rfl; exact hne _ _ _ h
   refine ⟨w1, ACode.seq c1 ?_ ?_⟩
   ·rintro f' H' ⟨e0, _⟩; exact absurd e0.symm he
   ·rintro e' f' H' _ k; exact k
 | cond z x y ihx ihy =>
  intro f H e g K L h hL
  simp only [fP] at h
  split at h
  ·rename_i hz
   obtain ⟨w1, c1⟩ := ihx _ _ _ _ _ _ h hL
   exact ⟨w1, ACode.cond (b := true) hz c1⟩
  ·rename_i hz
   obtain ⟨w1, c1⟩ := ihy _ _ _ _ _ _ h hL
   exact ⟨w1, ACode.cond (b := false) hz c1⟩
  ·cases h
 | block i c ih =>
  intro f H e g K L h hL
  simp only [fP] at h
  split at h
  ·rename_i j f1 H1 L1 h1
   cases hj : Nat.beq j i with
   | true =>
    rw [hj, cond_true] at h
    cases h
    obtain ⟨w1, c1⟩ := ih _ _ _ _ _ _ h1 hL
    have := Nat.eq_of_beq_eq_true hj
    refine ⟨w1, ACode.block (c1.mono ?_)⟩
    rintro e' f' H' ⟨rfl, rfl, rfl⟩
    simp only [this, if_true]
    exact ⟨trivial, trivial, trivial⟩
   | false =>
    rw [hj, cond_false] at h
    cases h
    obtain ⟨w1, c1⟩ := ih _ _ _ _ _ _ h1 hL
    have : ¬ j = i := fun e => by rw [e] at hj; simp at hj
    refine ⟨w1, ACode.block (c1.mono ?_)⟩
    rintro e' f' H' ⟨rfl, rfl, rfl⟩
    simp only [this, if_false]
    exact ⟨trivial, trivial, trivial⟩
  ·rename_i hne
   obtain ⟨w1, c1⟩ := ih _ _ _ _ _ _ h hL
   refine ⟨w1, ACode.block (c1.mono ?_)⟩
   rintro e' f' H' ⟨rfl, rfl, rfl⟩
   cases e' with
   | exit j => exact absurd h (hne _ _ _ _)
   | _ => exact ⟨rfl, rfl, rfl⟩
 | loop c ih =>
  intro f H e g K L h hL
  simp only [fP] at h
  have key : ∀ (n : Nat) (f : Fr) (H : AH) (L : List Prop), zW (fP E cc fuel c) n f H = some (e, g, K, L) → (∀ p ∈ L, p) → ∃ m, Chain P c e g K m f H := by
   intro n
   induction n with
   | zero => intro f H L h _; cases h
   | succ n ihn =>
    intro f H L h hL
    simp only [zW] at h
    split at h
    ·rename_i f' H' L1 h1
     split at h
     ·rename_i e2 f2 H2 L2 h2
      cases h
      obtain ⟨m, hm⟩ := ihn _ _ _ h2 fun p hp => hL p (List.mem_append_right _ hp)
      exact ⟨m + 1, .next (ih _ _ _ _ _ _ h1 fun p hp => hL p (List.mem_append_left _ hp)) hm⟩
     ·cases h
    ·rename_i hne
     exact ⟨0, .last (by rintro rfl; exact hne _ _ _ h) (ih _ _ _ _ _ _ h hL)⟩
  obtain ⟨m, hm⟩ := key _ _ _ _ h hL
  exact hm.says
 | region i ops draw =>
  intro f H e g K L h hL
  simp only [fP] at h
  cases draw with
  | true =>
   rw [cond_true] at h
   split at h
   ·rename_i g' K' L' hd
    cases h
    have := oS E hd hL
    exact ⟨lM E hcall this, qY E hcall hm ⟨rfl, rfl, rfl⟩ this i⟩
   ·split at h
    ·rename_i g' K' L' hd
     cases h
     exact rG E hcall hm (xG E hd hL) i
    ·cases h
  | false =>
   rw [cond_false] at h
   split at h
   ·rename_i g' K' L' hd
    cases h
    have hd := aBq E _ _ _ _ _ _ hd hL
    refine ⟨pL E hcall _ _ _ hd, ACode.region ?_⟩
    have := pX E hcall (Q := fun e' g'' K'' => e' = Exit.normal ∧ g'' = g ∧ K'' = K) ⟨rfl, rfl, rfl⟩ ops.toList 0 f H (fun j => by simp) hd
    rw [Array.length_toList, ← List.range_eq_range'] at this
    exact this
   ·cases h
 | _ => intro f H e g K L h _; simp only [fP] at h; cases h
def dB (tc : cE) (tb : dM) (df : FuncId → Option DFn) : Nat → cE
 | 0, _, _, _ => none
 | n + 1, g, args, H => (match tb g args H with
  | some (v, K) => some (v, K, [])
  | none => (match tc g args H with
   | some r => some r
   | none => (match df g with
    | some x => (match fP E (dB tc tb df n) n x.pre (mB args x.ntmps) H with
     | some (.normal, f1, H1, L1) => (match f1.put (some x.d) (.func (.func x.gd) ⟨[]⟩ ⟨x.caps.toList.map (bS f1)⟩) with
      | some f2 => (match fP E (dB tc tb df n) n x.rest f2 H1 with
       | some (.normal, f, H', L2) => (match cJ E f H' x.results with
        | some vs => some (dX vs, H', L1 ++ L2)
        | none => none)
       | some (.ret, f, H', L2) => (match cJ E f H' x.results with
        | some vs => some (dX vs, H', L1 ++ L2)
        | none => none)
       | _ => none)
      | none => none)
     | _ => none)
    | none => (match E.fn g with
     | some x => (match fP E (dB tc tb df n) n x.body (mB args x.ntmps) H with
      | some (.normal, f, H', L) => (match cJ E f H' x.results with
       | some vs => some (dX vs, H', L)
       | none => none)
      | some (.ret, f, H', L) => (match cJ E f H' x.results with
       | some vs => some (dX vs, H', L)
       | none => none)
      | _ => none)
     | none => none))))
theorem cB {tc : cE} {tb : dM} {df : FuncId → Option DFn} (htc : bY P tc) (htb : eR P tb) (hdf : ∀ g x, df g = some x → aQv E g x) (hm : P.follows .mixedOrders = true) : ∀ n, bY P (dB E tc tb df n) := by
 intro n
 induction n with
 | zero => intro g args H v H' L h; cases h
 | succ n ih =>
  intro g args H v H' L h hL
  simp only [dB] at h
  split at h
  ·rename_i v1 K1 hr
   cases h
   exact htb _ _ _ _ _ hr
  ·split at h
   ·rename_i r hr
    cases h
    exact htc _ _ _ _ _ _ hr hL
   ·split at h
    ·rename_i x hx
     split at h
     ·rename_i f1 H1 L1 h1
      split at h
      ·rename_i f2 h2
       have fin : ∀ {e f K L2}, fP E (dB E tc tb df n) n x.rest f2 H1 = some (e, f, K, L2) → (e = .normal ∨ e = .ret) → (match cJ E f K x.results with | some vs => some (dX vs, K, L1 ++ L2) | none => none) = some (v, H', L) →
        H'.w0 = H.w0 ∧ ACalls P g args H fun u K => u = v ∧ K = H' := by
        intro e f K L2 hr he hv
        split at hv
        ·rename_i vs hvs
         cases hv
         have s1 := pC E ih hm n _ _ _ _ _ _ _ h1 fun p hp => hL p (List.mem_append_left _ hp)
         have s2 := pC E ih hm n _ _ _ _ _ _ _ hr fun p hp => hL p (List.mem_append_right _ hp)
         exact hdf _ _ hx args H H1 _ f1 f2 f e vs s1 h2 s2 he hvs
        ·cases hv
       split at h
       ·rename_i f K L2 hr; exact fin hr (.inl rfl) h
       ·rename_i f K L2 hr; exact fin hr (.inr rfl) h
       ·cases h
      ·cases h
     ·cases h
    ·split at h
     ·rename_i x hg
      have fin : ∀ {e f K L2}, fP E (dB E tc tb df n) n x.body (mB args x.ntmps) H = some (e, f, K, L2) → (e = .normal ∨ e = .ret) → (match cJ E f K x.results with | some vs => some (dX vs, K, L2) | none => none) = some (v, H', L) →
       H'.w0 = H.w0 ∧ ACalls P g args H fun u K => u = v ∧ K = H' := by
       intro e f K L2 hr he hv
       split at hv
       ·rename_i vs hvs
        cases hv
        obtain ⟨w1, c1⟩ := pC E ih hm n _ _ _ _ _ _ _ hr hL
        refine ⟨w1, ACalls.body E hg (c1.mono ?_)⟩
        rintro e' f' K' ⟨rfl, rfl, rfl⟩
        exact ⟨he, vs, hvs, rfl, rfl⟩
       ·cases hv
      split at h
      ·rename_i f K L2 hr; exact fin hr (.inl rfl) h
      ·rename_i f K L2 hr; exact fin hr (.inr rfl) h
      ·cases h
     ·cases h
end
end Go.AM
