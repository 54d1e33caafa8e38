/-
  An abstract machine that runs a program of the given form, and its soundness, part 5.
-/
import Derived.Test.YthgfcpgjabodoaaGreatDoorAb4
import Derived.Recover
set_option linter.unusedVariables false
set_option linter.unusedSimpArgs false
set_option linter.unusedSectionVars false
noncomputable section
namespace Go.AM
open Go.RowKit
variable [σ : Sg]
def aAh (P : Program) (gd : FuncId) (m : Nat) : Prop := ∀ (args : Array Value) (w : World), args.size = m → CallsD P gd args .returning w fun e u' w' => (∃ v, e = .returned v) ∧ u' = .returning ∧ Below w.heap.size w w'
abbrev dZ (π : Pins) (l : List Deferred) : Pins := ⟨⟨π.pin, l⟩⟩
theorem Rel.ds {π : Pins} {φ : List Place} {H : AH} {w : World} (R : Rel (π := π) φ H w) (l : List Deferred) : Rel (π := dZ π l) φ H w := @Rel.mk σ (dZ π l) _ _ _ R.below R.len R.obj R.inj R.pin R.lt
theorem Rel.ds' {π : Pins} {φ : List Place} {H : AH} {w : World} {l : List Deferred} (R : Rel (π := dZ π l) φ H w) : Rel (π := π) φ H w := @Rel.mk σ π _ _ _ (@Rel.below σ (dZ π l) _ _ _ R) (@Rel.len σ (dZ π l) _ _ _ R) (@Rel.obj σ (dZ π l) _ _ _ R) (@Rel.inj σ (dZ π l) _ _ _ R) (@Rel.pin σ (dZ π l) _ _ _ R) (@Rel.lt σ (dZ π l) _ _ _ R)
section
variable {P : Program} (E : Env P)
theorem ACalls.defers {g : FuncId} {F Fd : Func} (hF : P.funcs[g]? = some F) {c0 rest : Code} {id d : Nat} {ops : Array Oper} (hb : F.body = some (.seq c0 (.seq (.region id ops false) rest))) (hs : ops.size = 2) {mf df : Oper} (h0 : ops[0]? = some mf) (h1 : ops[1]? = some df)
 {gd : FuncId} {caps : Array Operand} (hm : mf.op = .makeFunc (.func gd) #[] caps) (hmg : mf.guard = none) (hmd : mf.dst = some d) {tys : Array TypeId} (hd : df.op = .defer ⟨.value (.tmp d), #[], tys⟩) (hdg : df.guard = none) (hdd : df.dst = none)
 (hFd : P.funcs[gd]? = some Fd) (hnm : (Fd.name == "runtime.NumGoroutine") = false) (hbd : Fd.body.isSome = true) (hben : aAh P gd caps.size)
 {args : List Value} {H H1 H3 : AH} {f1 f2 f3 : Fr} {e : Exit} {vs : List Value}
 (r0 : mI P c0 .normal f1 H1 (mB args F.ntmps) H) (r1 : f1.put (some d) (.func (.func gd) ⟨[]⟩ ⟨caps.toList.map (bS f1)⟩) = some f2) (r2 : mI P rest e f3 H3 f2 H1) (he : e = .normal ∨ e = .ret)
 (hr : cJ E f3 H3 F.results.toList = some vs) : H3.w0 = H.w0 ∧ ACalls P g args H fun u K => u = dX vs ∧ K = H3 := by
 refine ⟨r2.1.trans r0.1, ?_⟩
 intro π φ args' w hv hR
 refine calls_of_wp_defers hF hb ?_
 have hf := zF (π := π) hv F.ntmps
 refine wp_seq ?_
 refine wp_mono (r0.2 (dZ π []) φ _ w hf (hR.ds [])) ?_
 rintro e0 a1 w1 ⟨φ1, f', H', p1, q1, q2, q3, rfl, rfl, rfl⟩
 refine wp_seq ?_
 refine wp_region ?_
 rw [hs]
 show wpOps P ops _ [0, 1] a1 w1
 have hop : aop E (bS f') mf.op H' = some (.func (.func gd) ⟨[]⟩ ⟨caps.toList.map (bS f')⟩, H') := by rw [hm]; rfl
 obtain ⟨φ2, v', w2, p2, R2, hv', h4⟩ := @sF σ (dZ π []) P E φ1 H' H' w1 q2 (bS f') a1.eval (@FRel.eval σ (dZ π []) _ _ _ q1) mf _ hop
 have hvv : ∃ cap : List Value, v' = .func (.func gd) ⟨[]⟩ ⟨cap⟩ ∧ cap.length = caps.size := by
  cases hv' with
  | func fn ha hb va vb =>
   rename_i a' b'
   have : a' = [] := List.eq_nil_of_length_eq_zero (by simpa using ha.symm)
   subst this
   exact ⟨b', rfl, by simpa using hb.symm⟩
 obtain ⟨cap, hve, hcl⟩ := hvv
 have hnext : (execOp a1.eval mf).run P w1 = .ok (.value v') w2 := by
  rcases h4 with h4 | ⟨_, h5⟩
  ·exact h4
  ·rw [h5] at hve; unfold undef at hve; cases hve
 have f2r : FRel (π := dZ π []) φ2 f2 (a1.put (some d) v') := @FRel.put σ (dZ π []) _ _ _ _ (@FRel.mono σ (dZ π []) _ _ p2 _ _ q1) _ _ _ hv' r1
 have hw0 : Region.wanted mf (yielded ops a1.tmps) = true := by simp [Region.wanted, hmg]
 simp only [wpOps, h0, hw0, if_true]
 left
 unfold Oper.wp
 rw [hnext, Oper.upon_value, hmd]
 have hw1 : Region.wanted df (yielded ops (a1.put (some d) v').tmps) = true := by simp [Region.wanted, hdg]
 simp only [h1, hw1, if_true]
 left
 have hev : ∃ cap2 : List Value, (a1.put (some d) v').eval (.tmp d) = .func (.func gd) ⟨[]⟩ ⟨cap2⟩ ∧ cap2.length = caps.size := by
  have hx := @FRel.eval σ (dZ π []) _ _ _ f2r (.tmp d)
  have hav : bS f2 (.tmp d) = .func (.func gd) ⟨[]⟩ ⟨caps.toList.map (bS f')⟩ := by
   unfold Fr.put at r1
   simp only at r1
   cases hle : Nat.ble (d + 1) f'.n with
   | false => rw [hle] at r1; cases r1
   | true => rw [hle, cond_true] at r1; cases r1; simp only [bS, Tr.get_set_same]
  rw [hav] at hx
  generalize (a1.put (some d) v').eval (.tmp d) = u at hx
  cases hx with
  | func fn ha hb va vb =>
   rename_i a' b'
   have : a' = [] := List.eq_nil_of_length_eq_zero (by simpa using ha.symm)
   subst this
   exact ⟨b', rfl, by simpa using hb.symm⟩
 obtain ⟨cap2, hce, hc2⟩ := hev
 have hdef : (execOp (a1.put (some d) v').eval df).run P w2 = .ok (.defer { target := .fn (.func gd) ⟨cap2⟩, args := #[] }) w2 := by
  simp [execOp, hd, resolve, hce, Deferred.ofValue]
 rw [hdef, Oper.upon_defer, hdd]
 show rest.wp P _ _ w2
 have hds : (a1.put (some d) v').defers = [] := f2r.1
 let dd : Deferred := { target := .fn (.func gd) ⟨cap2⟩, args := #[] }
 have f3r : FRel (π := dZ π [dd]) φ2 f2 { a1.put (some d) v' with defers := dd :: (a1.put (some d) v').defers } := ⟨by rw [hds]; rfl, f2r.2.1, f2r.2.2⟩
 refine wp_mono (r2.2 (dZ π [dd]) φ2 _ w2 f3r ((Rel.ds' (π := π) R2).ds [dd])) ?_
 rintro e' a4 w4 ⟨φ3, f', K', p3, q4, q5, q6, rfl, rfl, rfl⟩
 have key : Leaves P F a4.tmps (fun e w' => ∃ φ' v v' H', φ <+: φ' ∧ e = .returned v' ∧ VR φ' v v' ∧ Rel (π := π) φ' H' w' ∧ H'.w0 = H.w0 ∧ v = dX vs ∧ H' = K') a4.defers .returning w4 := by
  have hd4 : a4.defers = [dd] := q4.1
  rw [hd4]
  have hinv : (invoke (.fn (.func gd) ⟨cap2⟩) #[]).run P w4 = .ok (.enter gd ⟨cap2⟩) w4 := by
   have hn' : ¬ Fd.name = "runtime.NumGoroutine" := by simpa using hnm
   obtain ⟨bd, hbd'⟩ := Option.isSome_iff_exists.1 hbd
   simp [invoke, callFunc, hFd, hn', hbd']
  refine leaves_cons (by simp) hinv ((hben _ w4 (by simpa using hc2)).mono ?_)
  rintro e5 u5 w5 ⟨⟨v5, rfl⟩, rfl, hbelow⟩
  have R5 : Rel (π := dZ π [dd]) φ3 K' w5 := @Rel.later σ (dZ π [dd]) _ _ _ _ q5 hbelow
  obtain ⟨v6, k1, k2⟩ := @mX σ P E (dZ π [dd]) φ3 f' K' a4 w5 q4 R5 F _ rfl vs hr
  exact ⟨v6, k2, φ3, _, v6, K', (p1.trans p2).trans p3, rfl, k1, Rel.ds' R5, q6.trans r0.1, rfl, rfl⟩
 rcases he with rfl | rfl
 ·exact key
 ·exact key
end
structure DFn where
 ntmps : Nat
 results : List ResultVar
 pre : Code
 d : Nat
 gd : FuncId
 caps : Array Operand
 rest : Code
section
variable {P : Program} (E : Env P)
def aQv (g : FuncId) (x : DFn) : Prop := ∀ (args : List Value) (H H1 H3 : AH) (f1 f2 f3 : Fr) (e : Exit) (vs : List Value), mI P x.pre .normal f1 H1 (mB args x.ntmps) H → f1.put (some x.d) (.func (.func x.gd) ⟨[]⟩ ⟨x.caps.toList.map (bS f1)⟩) = some f2 →
 mI P x.rest e f3 H3 f2 H1 → (e = .normal ∨ e = .ret) → cJ E f3 H3 x.results = some vs → H3.w0 = H.w0 ∧ ACalls P g args H fun u K => u = dX vs ∧ K = H3
end
end Go.AM
namespace Go.AM
open Go.RowKit
variable [σ : Sg]
abbrev nH : dM := fun _ _ _ => none
section
variable {P : Program} (E : Env P)
theorem aHa : eR P nH := fun _ _ _ _ _ h => by cases h
theorem opsS {π : Pins} {ops : Array Oper} {cs : List Frame} {Q : Exit → Act → List Frame → World → Prop} {g : Fr} {K : AH} : ∀ (l : List Oper) (k : Nat) (f : Fr) (H : AH) (φ : List Place) (a : Act) (w : World), (∀ j, l[j]? = ops[k + j]?) → eI E nH ops l f H = some (g, K) → FRel φ f a → Rel φ H w →
 (∀ φ' a' w', φ <+: φ' → FRel φ' g a' → Rel φ' K w' → K.w0 = H.w0 → Q .normal a' cs w') → wpOpsS P ops Q (List.range' k l.length) a cs w := by
 intro l
 induction l with
 | nil => intro k f H φ a w _ h hf hR q; simp [eI] at h; obtain ⟨rfl, rfl⟩ := h; exact q φ a w (List.prefix_refl _) hf hR rfl
 | cons o r ih =>
  intro k f H φ a w hl h hf hR q
  simp only [eI] at h
  split at h
  ·rename_i v H' m hs
   split at h
   ·rename_i f' hp
    have ho : ops[k]? = some o := by have := hl 0; simpa using this.symm
    have hl' : ∀ j, r[j]? = ops[k + 1 + j]? := fun j => by have := hl (j + 1); simp only [List.getElem?_cons_succ] at this; rw [this]; congr 1; omega
    rw [List.length_cons, List.range'_succ]
    have run : aop E (bS f) o.op H = some (v, H') → bZ ops (dA f) o = true → wpOpsS P ops Q (k :: List.range' (k + 1) r.length) a cs w := by
     intro hop hw
     have hw' : Region.wanted o (yielded ops a.tmps) = true := by rw [fV (φ := φ) (sv := dA f) ops o (fun d _ => hf.2.2 d), hw]
     obtain ⟨φ', v', w', h1, h2, h3, h4⟩ := sF E hR (ρ := bS f) (ρ' := a.eval) hf.eval hop
     have hw0 := mR E hop
     have nx : wpOpsS P ops Q (List.range' (k + 1) r.length) (a.put o.dst v') cs w' :=
      ih (k + 1) f' H' φ' _ w' hl' h ((hf.mono h1).put h3 hp) h2 fun φ2 a2 w2 p1 p2 p3 p4 => q φ2 a2 w2 (h1.trans p1) p2 p3 (p4.trans hw0)
     simp only [wpOpsS, ho, hw', if_true]
     rcases h4 with h4 | ⟨h4, rfl⟩
     ·rw [h4]; exact nx
     ·rw [h4]; exact nx
    rcases cU E hs with ⟨h1, rfl, _, rfl⟩ | ⟨h1, _, rfl, _, h2⟩ | ⟨h1, _, h2⟩ | ⟨h1, _, c, args, h2, h3⟩
    ·have hw' : Region.wanted o (yielded ops a.tmps) = false := by rw [fV (φ := φ) (sv := dA f) ops o (fun d _ => hf.2.2 d), h1]
     simp only [wpOpsS, ho, hw', Bool.false_eq_true, if_false]
     exact ih (k + 1) f' _ φ _ w hl' h (hf.put (VR.undef φ) hp) hR q
    ·exact run h2 h1
    ·exact run h2 h1
    ·cases h3
   ·cases h
  ·cases h
theorem aLk (hm : P.follows .mixedOrders = true) {gd : FuncId} {F : Func} (hF : P.funcs[gd]? = some F) {id : Nat} {ops : Array Oper} {rest : Code} (hb : F.body = some (.seq (.region id ops false) rest))
 {o0 o1 : Oper} {r : List Oper} (hops : ops.toList = o0 :: o1 :: r) {tys : Array TypeId} {d0 d1 : Nat} (ho0 : o0.op = .call ⟨.builtin .recover, #[], tys⟩) (hg0 : o0.guard = none) (hd0 : o0.dst = some d0)
 {tx ta : TypeId} (ho1 : o1.op = .typeAssert (.tmp d0) tx ta true) (hg1 : o1.guard = none) (hd1 : o1.dst = some d1) {fs : Array Field} (hu : E.und ta = some (.struct fs)) {ii : TI} {z : Value} (hi : E.inf ta = some ii) (hz : ii.zero = some z)
 {m fuel : Nat} (run : ∀ (args : List Value) (w : World), args.length = m → ∃ f1 f2 g1 H1 e g2 H2 vs, (mB args F.ntmps).put (some d0) .nilIface = some f1 ∧ f1.put (some d1) (.tuple ⟨[ext z, .bool false]⟩) = some f2 ∧
  eI E nH ops r f2 (start w) = some (g1, H1) ∧ gK E nH fuel rest g1 H1 = some (e, g2, H2) ∧ (e = .normal ∨ e = .ret) ∧ cJ E g2 H2 F.results.toList = some vs) : aAh P gd m := by
 intro args w hsz
 refine callsD_of_wpS hF hb ?_
 intro c₀ cs hmode
 obtain ⟨f1, f2, g1, H1, e, g2, H2, vs, r1, r2, r3, r4, r5, r6⟩ := run (dJ args.toList) w ((VRs.ext [] args.toList).1.trans (by rw [Array.length_toList]; exact hsz))
 refine wpS_seq ?_
 refine wpS_region ?_
 have hsize : ops.size = r.length + 2 := by rw [← Array.length_toList, hops]; rfl
 have hget : ∀ i, ops[i]? = (o0 :: o1 :: r)[i]? := fun i => by rw [← hops, Array.getElem?_toList]
 rw [hsize, List.range_eq_range', show r.length + 2 = (r.length + 1) + 1 from rfl, List.range'_succ, List.range'_succ]
 let π0 : Pins := dZ kQ []
 have hf : FRel (π := π0) [] (mB (dJ args.toList) F.ntmps) { tmps := args ++ Array.replicate (F.ntmps - args.size) undef, defers := [] } := zF (π := kQ) (VRs.ext [] args.toList) F.ntmps
 have hR : Rel (π := π0) [] (start w) w := (Rel.start w).ds []
 generalize ({ tmps := args ++ Array.replicate (F.ntmps - args.size) undef, defers := [] } : Act) = a at hf
 have hw0 : Region.wanted o0 (yielded ops a.tmps) = true := by simp [Region.wanted, hg0]
 have e0 : (execOp a.eval o0).run P w = .ok .recover w := by simp [execOp, ho0, resolve, invoke, builtin]
 have hrec : recoverD (c₀ :: cs) = none := by simp [recoverD, hmode]
 have hf1 : FRel (π := π0) [] f1 (a.put o0.dst .nilIface) := by rw [hd0]; exact @FRel.put σ π0 _ _ _ _ hf _ _ _ .nilIface r1
 have hev : (a.put o0.dst .nilIface).eval (.tmp d0) = .nilIface := by
  have hx := @FRel.eval σ π0 _ _ _ hf1 (.tmp d0)
  have hav : bS f1 (.tmp d0) = .nilIface := by
   unfold Fr.put at r1
   simp only at r1
   cases hle : Nat.ble (d0 + 1) (mB (dJ args.toList) F.ntmps).n with
   | false => rw [hle] at r1; cases r1
   | true => rw [hle, cond_true] at r1; cases r1; simp only [bS, Tr.get_set_same]
  rw [hav] at hx
  generalize (a.put o0.dst .nilIface).eval (.tmp d0) = u at hx
  cases hx; rfl
 obtain ⟨i, hi1, hi2, hi3, hi4⟩ := E.inf_ok _ _ hi
 have hzz : i.zero = some z := hi4.trans hz
 have e1 : (execOp (a.put o0.dst .nilIface).eval o1).run P w = .ok (.value (.tuple #[z, .bool false])) w := by
  have hun := E.und_ok _ _ hu
  simp [execOp, ho1, hev, Instr.typeAssert, run_underlying hun, zeroValue, typeInfo, hi1, hzz]
 have hw1 : Region.wanted o1 (yielded ops (a.put o0.dst .nilIface).tmps) = true := by simp [Region.wanted, hg1]
 have hf2 : FRel (π := π0) [] f2 ((a.put o0.dst .nilIface).put o1.dst (.tuple #[z, .bool false])) := by
  rw [hd1]
  exact @FRel.put σ π0 _ _ _ _ hf1 _ _ _ (VR.tuple' (VRs.cons (VR.ext [] z) (VRs.cons (.bool false) (VRs.nil [])))) r2
 have g0 : ops[0]? = some o0 := hget 0
 have g1' : ops[0 + 1]? = some o1 := hget 1
 simp only [wpOpsS, g0, g1', hw0, if_true, e0, hrec, hw1, e1, Oper.upon_value]
 refine opsS E (π := π0) r 2 f2 (start w) [] _ w (fun j => by rw [hget, Nat.add_comm]; rfl) r3 hf2 hR ?_
 intro φ1 a1 w1 p1 q1 q2 q3
 refine wpS_of_wp ?_
 have sr := aMd E aHa hm fuel _ _ _ _ _ _ r4
 refine wp_mono (sr.2 π0 φ1 a1 w1 q1 q2) ?_
 rintro e' a2 w2 ⟨φ2, f', H', p2, k1, k2, k3, rfl, rfl, rfl⟩
 obtain ⟨v6, k4, k5⟩ := @mX σ P E π0 φ2 f' H' a2 w2 k1 k2 F _ rfl vs r6
 have hbel : Below w.heap.size w w2 := by
  have := @Rel.below σ π0 _ _ _ k2
  rw [k3, q3] at this
  exact this
 have fin : a2.defers = [] ∧ ∃ u', c₀ :: cs = { c₀ with mode := u' } :: cs ∧ ∃ v, (results F a2.tmps).run P w2 = .ok v w2 ∧ ((∃ v', Ending.returned v = .returned v') ∧ u' = .returning ∧ Below w.heap.size w w2) :=
  ⟨k1.1, .returning, by rw [← hmode], v6, k5, ⟨v6, rfl⟩, rfl, hbel⟩
 rcases r5 with rfl | rfl
 ·exact fin
 ·exact fin
end
end Go.AM
