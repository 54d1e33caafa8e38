/-
  The abstract machine, part 13: rules for proofs over unknown data.
-/
import Derived.Test.YtpfgpjopjadmiaaGreatDoorAM12
set_option linter.unusedVariables false
set_option linter.unusedSimpArgs false
noncomputable section
namespace Go.AM
open Go.RowKit

/-! ### frames: a trie that is not looked into, and what has been put on it -/
def look (k : Nat) : List (Nat × Value) → Option Value
  | [] => none
  | (d, v) :: r => bif Nat.beq d k then some v else look k r

def tv (t : Tr Value) (k : Nat) : Value :=
  match t.get k with
  | some v => v
  | none => undef

def fr (n : Nat) (t : Tr Value) : List (Nat × Value) → Fr
  | [] => ⟨n, t⟩
  | (d, v) :: r => ⟨n, (fr n t r).tr.set d (some v)⟩

theorem fr_n (n : Nat) (t : Tr Value) (l : List (Nat × Value)) : (fr n t l).n = n := by cases l <;> rfl
theorem tv_fr (n : Nat) (t : Tr Value) (k : Nat) : ∀ l : List (Nat × Value), tv (fr n t l).tr k = match look k l with | some v => v | none => tv t k
  | [] => rfl
  | (d, v) :: r => by
    simp only [fr, tv, look, Tr.get_set]
    by_cases e : k = d
    · subst e
      rw [if_pos rfl, show Nat.beq k k = true by simp]; rfl
    · rw [if_neg e, show Nat.beq d k = false by (cases h : Nat.beq d k with | false => rfl | true => exact absurd (Nat.eq_of_beq_eq_true h).symm e), cond_false]
      exact tv_fr n t k r
theorem aval_tmp (n : Nat) (t : Tr Value) (l : List (Nat × Value)) (k : Nat) : aval (fr n t l) (.tmp k) = match look k l with | some v => v | none => tv t k := tv_fr n t k l
theorem sval_fr (n : Nat) (t : Tr Value) (l : List (Nat × Value)) (k : Nat) : sval (fr n t l) k = match look k l with | some v => v | none => tv t k := tv_fr n t k l
theorem aval_const (f : Fr) (v : Value) : aval f (.const v) = ext v := rfl
theorem aval_func (f : Fr) (g : FuncId) : aval f (.func g) = .func (.func g) ⟨[]⟩ ⟨[]⟩ := rfl
theorem fr_put {n d : Nat} (h : d < n) (t : Tr Value) (l : List (Nat × Value)) (v : Value) : (fr n t l).put (some d) v = some (fr n t ((d, v) :: l)) := by
  simp only [Fr.put, fr_n, fr]
  rw [Nat.ble_eq_true_of_le (by omega)]; rfl
/-- a frame anew: nothing is put on it -/
theorem fr_flat (n : Nat) (t : Tr Value) (l : List (Nat × Value)) : fr n t l = fr n (fr n t l).tr [] := by
  cases l <;> rfl

theorem ACode.congr {P : Program} {c : Code} {Q : AQ} {f g : Fr} {H : AH} (hn : f.n = g.n) (hs : ∀ k, sval f k = sval g k) (h : ACode P c Q g H) : ACode P c Q f H :=
  fun π φ a w hf hR => h _ φ a w ⟨hf.1, by rw [hf.2.1, hn], fun t => by have := hf.2.2 t; rw [show aval f (.tmp t) = aval g (.tmp t) from hs t] at this; exact this⟩ hR

/-! ### what a heap keeps -/
def WF (H : AH) : Prop := ∀ i o, H.tr.get i = some o → i < H.nx
theorem Rel.wf [Pins] {φ : List Place} {H : AH} {w : World} (R : Rel φ H w) : WF H := fun i o h => by
  obtain ⟨p, hp, _⟩ := R.obj i o h
  rw [← R.len]; exact lt_of_getElem? hp

/-- below N nothing has turned -/
structure Kept (N : Nat) (H H' : AH) : Prop where
  w0 : H'.w0 = H.w0
  nx : H.nx ≤ H'.nx
  get : ∀ i, i < N → H'.tr.get i = H.tr.get i
theorem Kept.refl (N : Nat) (H : AH) : Kept N H H := ⟨rfl, Nat.le_refl _, fun _ _ => rfl⟩
theorem Kept.trans {N : Nat} {A B C : AH} (h : Kept N A B) (k : Kept N B C) : Kept N A C := ⟨k.w0.trans h.w0, Nat.le_trans h.nx k.nx, fun i hi => (k.get i hi).trans (h.get i hi)⟩
theorem Kept.mono {N N' : Nat} {A B : AH} (h : Kept N A B) (hN : N' ≤ N) : Kept N' A B := ⟨h.w0, h.nx, fun i hi => h.get i (by omega)⟩
theorem Kept.new {N : Nat} (H : AH) (o : AObj) (hN : N ≤ H.nx) : Kept N H (anew H o) := ⟨rfl, Nat.le_succ _, fun i hi => by simp only [anew]; rw [Tr.get_set_ne _ _ (by omega)]⟩
theorem Kept.set {N i : Nat} (H : AH) (o : Option AObj) (hN : N ≤ i) : Kept N H { H with tr := H.tr.set i o } := ⟨rfl, Nat.le_refl _, fun j hj => by simp only; rw [Tr.get_set_ne _ _ (by omega)]⟩

theorem new_get (H : AH) (o : AObj) : (anew H o).tr.get H.nx = some o := by simp only [anew]; rw [Tr.get_set_same]
theorem new_nx (H : AH) (o : AObj) : (anew H o).nx = H.nx + 1 := rfl
theorem new_get_ne (H : AH) (o : AObj) {i : Nat} (h : i ≠ H.nx) : (anew H o).tr.get i = H.tr.get i := by simp only [anew]; rw [Tr.get_set_ne _ _ h]

/-! ### own cells -/
section
variable {H : AH} {N : Nat} {cs : List Value} {sz : Nat} {ex : Bool}
theorem odd_mod (N : Nat) : Nat.beq ((2 * N + 1) % 2) 0 = false := by
  have : (2 * N + 1) % 2 = 1 := by omega
  rw [this]; rfl
theorem odd_div (N : Nat) : (2 * N + 1) / 2 = N := by omega
theorem aload_own (hg : H.tr.get N = some (.cells cs sz ex)) (off : Nat) (s : Option Nat) : aload H ⟨2 * N + 1, off, s⟩ = cs[off]? := by
  unfold aload
  simp only [odd_mod, cond_false, odd_div, hg]
theorem aloads_own (hg : H.tr.get N = some (.cells cs sz ex)) (off n : Nat) (s : Option Nat) (h : off + n ≤ cs.length) : aloads H ⟨2 * N + 1, off, s⟩ n = some ((cs.drop off).take n) := by
  unfold aloads
  by_cases hn : n = 0
  · subst hn; simp
  · rw [show Nat.beq n 0 = false by (cases n with | zero => exact absurd rfl hn | succ n => rfl), cond_false]
    simp only [odd_mod, cond_false, odd_div, hg]
    rw [Nat.ble_eq_true_of_le h]; rfl
theorem astores_own (hg : H.tr.get N = some (.cells cs sz ex)) (off : Nat) (s : Option Nat) {vs : List Value} (h : off + vs.length ≤ cs.length) (h1 : allOne vs = true) :
    astores H ⟨2 * N + 1, off, s⟩ vs = some { H with tr := H.tr.set N (some (.cells (cs.take off ++ (vs ++ cs.drop (off + vs.length))) sz ex)) } := by
  unfold astores
  simp only [odd_mod, cond_false, odd_div, hg]
  rw [Nat.ble_eq_true_of_le h, h1]; rfl
end

/-! ### cells of the world outside -/
def CRead (w : World) (a : Addr) (l : List Value) : Prop := ∀ (i : Nat) v, l[i]? = some v → w.cell? (a.add i) = some v

theorem add_add (a : Addr) (n m : Nat) : (a.add n).add m = a.add (n + m) := by
  unfold Addr.add
  by_cases hn : n = 0
  · subst hn; simp
  · by_cases hm : m = 0
    · subst hm; simp
    · rw [if_neg hn, if_neg hm, if_neg (by omega)]
      simp only; congr 1; omega

theorem extAddr_add (a : Addr) (n : Nat) : (extAddr a).add n = extAddr (a.add n) := by
  unfold Addr.add extAddr
  split <;> rfl

theorem extAddr_even (a : Addr) : Nat.beq ((extAddr a).block % 2) 0 = true := by
  have : (extAddr a).block % 2 = 0 := by simp [extAddr]
  rw [this]; rfl

theorem extAddr_back (a : Addr) : (⟨(extAddr a).block / 2, (extAddr a).off, (extAddr a).spot⟩ : Addr) = a := by
  cases a; simp [extAddr]

theorem extLoads_read {w : World} {a : Addr} : ∀ (n i : Nat) (l : List Value), (∀ j v, l[j]? = some v → w.cell? (a.add (i + j)) = some v) → l.length = n → extLoads w a i n = some (extL l) := by
  intro n
  induction n with
  | zero =>
    intro i l _ hl
    have : l = [] := List.eq_nil_of_length_eq_zero hl
    subst this; simp [extLoads, extL]
  | succ n ih =>
    intro i l h hl
    cases l with
    | nil => simp at hl
    | cons v r =>
      have h0 := h 0 v rfl
      rw [Nat.add_zero] at h0
      have hr := ih (i + 1) r (fun j u hu => by have := h (j + 1) u (by simpa using hu); rwa [show i + (j + 1) = i + 1 + j by omega] at this) (by simpa using hl)
      simp only [extLoads, h0, hr, extL]

theorem aloads_ext {H : AH} {a : Addr} {l : List Value} (h : CRead H.w0 a l) : aloads H (extAddr a) l.length = some (extL l) := by
  unfold aloads
  by_cases hn : l.length = 0
  · have : l = [] := List.eq_nil_of_length_eq_zero hn
    subst this; simp [extL]
  · rw [show Nat.beq l.length 0 = false by (cases hq : l.length with | zero => exact absurd hq hn | succ m => rfl), cond_false, extAddr_even, cond_true, extAddr_back]
    exact extLoads_read _ 0 l (fun j v hj => by rw [Nat.zero_add]; exact h j v hj) rfl

theorem aload_ext {H : AH} {a : Addr} {v : Value} (h : H.w0.cell? a = some v) : aload H (extAddr a) = some (ext v) := by
  unfold aload
  rw [extAddr_even, cond_true, extAddr_back, h]

theorem CRead.drop {w : World} {a : Addr} {l : List Value} (h : CRead w a l) (n : Nat) : CRead w (a.add n) (l.drop n) := fun i v hv => by
  rw [add_add]; exact h (n + i) v (by simpa using hv)
theorem CRead.take {w : World} {a : Addr} {l : List Value} (h : CRead w a l) (n : Nat) : CRead w a (l.take n) := fun i v hv => by
  rw [List.getElem?_take] at hv
  split at hv
  · exact h i v hv
  · cases hv
theorem CRead.below {w w' : World} (hb : Below w.heap.size w w') {a : Addr} {l : List Value} (h : CRead w a l) : CRead w' a l := fun i v hv => by
  have := h i v hv
  rw [hb.cell (World.block_lt_of_cell? _ _ this)]; exact this

/-! ### flat values stay as they are -/
theorem ext_flat1 {v : Value} (h : flat1 v = true) : ext v = v := by cases v <;> first | rfl | (simp [flat1] at h)
theorem extL_flat : ∀ {l : List Value}, flatL l = true → extL l = l
  | [], _ => rfl
  | v :: r, h => by
    simp only [flatL, Bool.and_eq_true] at h
    rw [extL, ext_flat1 h.1, extL_flat h.2]

/-! ### steps -/
section
variable {P : Program} {ops : Array Oper} {Q : AQ} {H : AH} {n : Nat} {t : Tr Value} {l : List (Nat × Value)} {rest : List Nat} {i : Nat} {o : Oper}

theorem op1 (E : Env P) (ho : ops[i]? = some o) (hg : o.guard = none) {d : Nat} (hd : o.dst = some d) (hdn : d < n) {v : Value} {H' : AH} (hop : aop E (aval (fr n t l)) o.op H = some (v, H')) (h : AOps P ops rest Q (fr n t ((d, v) :: l)) H') :
    AOps P ops (i :: rest) Q (fr n t l) H := AOps.op E ho (by simp [awanted, hg]) hop (by rw [hd]; exact fr_put hdn t l v) h
theorem op0 (E : Env P) (ho : ops[i]? = some o) (hg : o.guard = none) (hd : o.dst = none) {v : Value} {H' : AH} (hop : aop E (aval (fr n t l)) o.op H = some (v, H')) (h : AOps P ops rest Q (fr n t l) H') :
    AOps P ops (i :: rest) Q (fr n t l) H := AOps.op E ho (by simp [awanted, hg]) hop (by rw [hd]; rfl) h
theorem opg (E : Env P) (ho : ops[i]? = some o) (hw : awanted ops (sval (fr n t l)) o = true) {d : Nat} (hd : o.dst = some d) (hdn : d < n) {v : Value} {H' : AH} (hop : aop E (aval (fr n t l)) o.op H = some (v, H')) (h : AOps P ops rest Q (fr n t ((d, v) :: l)) H') :
    AOps P ops (i :: rest) Q (fr n t l) H := AOps.op E ho hw hop (by rw [hd]; exact fr_put hdn t l v) h
theorem opskip (ho : ops[i]? = some o) (hw : awanted ops (sval (fr n t l)) o = false) {d : Nat} (hd : o.dst = some d) (hdn : d < n) (h : AOps P ops rest Q (fr n t ((d, undef) :: l)) H) :
    AOps P ops (i :: rest) Q (fr n t l) H := AOps.skip ho hw (by rw [hd]; exact fr_put hdn t l undef) h
theorem opcall (E : Env P) (ho : ops[i]? = some o) (hw : awanted ops (sval (fr n t l)) o = true) {d : Nat} (hd : o.dst = some d) (hdn : d < n) {k : FuncId} {args : List Value} (hc : acallee E (aval (fr n t l)) o.op = some (k, args))
    {R : Value → AH → Prop} (hk : ACalls P k args H R) (h : ∀ v H', R v H' → AOps P ops rest Q (fr n t ((d, v) :: l)) H') : AOps P ops (i :: rest) Q (fr n t l) H :=
  AOps.call E ho hw hc (hk.mono fun v H' hR => ⟨_, by rw [hd]; exact fr_put hdn t l v, h v H' hR⟩)
end

section
variable {P : Program} {Q : AQ} {f : Fr} {H : AH}
theorem seqk {x y : Code} (h : ∀ K : AQ, (∀ f H, ACode P y Q f H → K .normal f H) → (∀ e f H, e ≠ .normal → Q e f H → K e f H) → ACode P x K f H) : ACode P (.seq x y) Q f H :=
  ACode.seq (R := fun e f H => (e = .normal → ACode P y Q f H) ∧ (e ≠ .normal → Q e f H)) (h _ (fun f H k => ⟨fun _ => k, fun hn => absurd rfl hn⟩) (fun e f H hn k => ⟨fun h => absurd h hn, fun _ => k⟩)) (fun f H k => k.1 rfl) (fun e f H hn k => k.2 hn)

theorem blockk {i : Nat} {c : Code} (h : ∀ K : AQ, (∀ f H, Q .normal f H → K .normal f H) → (∀ f H, Q .normal f H → K (.exit i) f H) → (∀ f H, Q .ret f H → K .ret f H) → (∀ j f H, j ≠ i → Q (.exit j) f H → K (.exit j) f H) → ACode P c K f H) : ACode P (.block i c) Q f H := by
  refine ACode.block (h _ (fun f H k => k) (fun f H k => ?_) (fun f H k => k) (fun j f H hn k => ?_))
  · simp only [if_true]; exact k
  · simp only [hn, if_false]; exact k

theorem ACode.wf {c : Code} (h : WF H → ACode P c Q f H) : ACode P c Q f H := fun π φ a w hf hR => h hR.wf _ φ a w hf hR
theorem AOps.wf {ops : Array Oper} {l : List Nat} (h : WF H → AOps P ops l Q f H) : AOps P ops l Q f H := fun π φ a w hf hR => h hR.wf _ φ a w hf hR
theorem ACalls.wf {g : FuncId} {args : List Value} {R : Value → AH → Prop} (h : WF H → ACalls P g args H R) : ACalls P g args H R := fun π φ args' w hv hR => h hR.wf _ φ args' w hv hR

/-- a loop, counted down -/
theorem loopn {c : Code} (I : Nat → Fr → AH → Prop) (k : Nat) (h0 : I k f H) (round : ∀ k f H, I k f H → ∀ K : AQ, (∀ k' f' H', k' < k → I k' f' H' → K .normal f' H') → (∀ e f' H', e ≠ .normal → Q e f' H' → K e f' H') → ACode P c K f H) : ACode P (.loop c) Q f H := by
  intro π φ a w hf hR b kk cs
  have key : ∀ n f H φ' a w, I n f H → φ <+: φ' → FRel φ' f a → Rel φ' H w → ∀ w0, H.w0 = w0 →
      ∃ e a' w', conc φ w0 Q e a' w' ∧ Arrives P (lone (b.at a (.code c :: .inLoop c :: kk)) cs w) b kk cs e a' w' := by
    intro n
    induction n using Nat.strongRecOn with
    | _ n ih =>
      intro f H φ' a w hI hφ hf hR w0 hw0
      have hr := round n f H hI (fun e f' H' => (e = .normal → ∃ k' < n, I k' f' H') ∧ (e ≠ .normal → Q e f' H')) (fun k' f' H' hk hI' => ⟨fun _ => ⟨k', hk, hI'⟩, fun hn => absurd rfl hn⟩) (fun e f' H' hn hq => ⟨fun h => absurd h hn, fun _ => hq⟩)
      obtain ⟨e, a₁, w₁, ⟨φ2, f2, H2, q1, q2, q3, q4, q5⟩, harr⟩ := hr _ φ' a w hf hR b (.inLoop c :: kk) cs
      have hw2 : H2.w0 = w0 := q4.trans hw0
      cases e with
      | normal =>
        obtain ⟨k', hlt, hI'⟩ := q5.1 rfl
        obtain ⟨e₂, a₂, w₂, hq₂, harr₂⟩ := ih k' hlt f2 H2 φ2 a₁ w₁ hI' (hφ.trans q1) q2 q3 w0 hw2
        exact ⟨e₂, a₂, w₂, hq₂, .of_steps (Steps.trans harr (.one step_inLoop)) harr₂⟩
      | exit id => exact ⟨_, a₁, w₁, ⟨φ2, f2, H2, hφ.trans q1, q2, q3, hw2, q5.2 (by simp)⟩, .pass (x := .inLoop c) rfl (fun _ _ => .inl (by simp)) harr⟩
      | goto l => exact ⟨_, a₁, w₁, ⟨φ2, f2, H2, hφ.trans q1, q2, q3, hw2, q5.2 (by simp)⟩, .pass (x := .inLoop c) rfl (fun _ _ => .inl (by simp)) harr⟩
      | ret => exact ⟨_, a₁, w₁, ⟨φ2, f2, H2, hφ.trans q1, q2, q3, hw2, q5.2 (by simp)⟩, .pass (x := .inLoop c) rfl (fun _ _ => .inl (by simp)) harr⟩
      | panic ch => exact ⟨_, a₁, w₁, ⟨φ2, f2, H2, hφ.trans q1, q2, q3, hw2, q5.2 (by simp)⟩, .pass (x := .inLoop c) rfl (fun _ _ => .inl (by simp)) harr⟩
      | outgrown => exact ⟨_, a₁, w₁, ⟨φ2, f2, H2, hφ.trans q1, q2, q3, hw2, q5.2 (by simp)⟩, .pass (x := .inLoop c) rfl (fun _ _ => .inl (by simp)) harr⟩
  obtain ⟨e, a', w', hq, harr⟩ := key k f H φ a w h0 (List.prefix_refl _) hf hR H.w0 rfl
  exact ⟨e, a', w', hq, .of_steps (.one step_loop) harr⟩
end

/-! ### a call whose result holds no address, seen from an empty heap -/
def start (w : World) : AH := ⟨w, 0, .nil⟩

abbrev noPins : Pins := ⟨⟨fun _ => none⟩⟩
theorem Rel.start (w : World) : @Rel noPins [] (start w) w := @Rel.mk noPins _ _ _ (Below.refl _ _) rfl (fun i o h => by simp [AM.start, Tr.get_nil] at h) (fun i j o o' p q h => by simp [AM.start, Tr.get] at h) (fun b x h => by cases h) (fun i p h => by simp at h)

/-- called with these values in this world, g returns r, which holds no address -/
def Flat (P : Program) (g : FuncId) (args : List Value) (w : World) (r : Value) : Prop := ACalls P g (extL args) (start w) fun v _ => v = r

/-- flat, a tuple of flat values -/
def flatT : Value → Bool
  | .tuple ⟨vs⟩ => vs.all flat
  | v => flat v

theorem flatT_VR {φ ψ : List Place} {v v' : Value} (h : VR φ v v') (hf : flatT v = true) : VR ψ v v' := by
  have one : ∀ {u u' : Value}, VR φ u u' → flat u = true → VR ψ u u' := by
    intro u u' hu hfu
    have := flat_eq hu hfu
    subst this
    cases hu with
    | agg ha hv =>
      refine .agg ha fun i x x' hx hx' => ?_
      have hx2 := hv i x x' hx hx'
      have hfx : flat1 x = true := by
        have hall : ∀ (l : List Value), flatL l = true → ∀ y ∈ l, flat1 y = true := by
          intro l
          induction l with
          | nil => intro _ y hy; cases hy
          | cons z l ih =>
            intro hl y hy
            simp only [flatL, Bool.and_eq_true] at hl
            rcases List.mem_cons.1 hy with rfl | hy
            · exact hl.1
            · exact ih hl.2 y hy
        exact hall _ hfu x (List.mem_of_getElem? hx)
      cases hx2 <;> first | (simp [flat1] at hfx; done) | constructor
    | bool b => exact .bool b
    | int k n => exact .int k n
    | string s => exact .string s
    | _ => simp [flat, flat1] at hfu
  cases h with
  | tuple ha hv =>
    refine .tuple ha fun i x x' hx hx' => one (hv i x x' hx hx') ?_
    simp only [flatT, List.all_eq_true] at hf
    exact hf x (List.mem_of_getElem? hx)
  | _ => exact one (by constructor <;> assumption) hf

/-- the world has grown: the heap is as it was -/
theorem Rel.later [Pins] {φ : List Place} {H : AH} {w w' : World} (R : Rel φ H w) (hb : Below w.heap.size w w') : Rel φ H w' := by
  refine ⟨⟨hb.os.trans R.below.os, hb.tape.trans R.below.tape, hb.output.trans R.below.output, Nat.le_trans R.below.size hb.size, fun k hk => ?_⟩, R.len, fun i o hi => ?_, R.inj, fun b x h => ⟨(hb.block b (alt_of_getElem? (R.pin b x h).1)).trans (R.pin b x h).1, (R.pin b x h).2⟩, fun i p h => Nat.lt_of_lt_of_le (R.lt i p h) hb.size⟩
  · rw [hb.block k (by have := R.below.size; omega), R.below.block k hk]
  · obtain ⟨p, hp, hN, hO⟩ := R.obj i o hi
    refine ⟨p, hp, hN, ?_⟩
    have hlt : p.blk < w.heap.size := by
      cases o with
      | cells cs s e => obtain ⟨C, e, lo, hi, hx, _⟩ := hO; exact alt_of_getElem? hx
      | map es c => obtain ⟨es', hx, _⟩ := hO; exact alt_of_getElem? hx
      | iter s q => exact alt_of_getElem? hO
    rw [hb.block _ hlt]; exact hO

theorem ACalls.flat {P : Program} {g : FuncId} {args : List Value} {H : AH} {r : Value} (hr : flatT r = true) (h : ∀ (π : Pins) φ args' w, VRs φ args args' → Rel φ H w → Flat P g args' w r) : ACalls P g args H fun v H' => v = r ∧ H' = H := by
  intro π φ args' w hv hR
  refine (h _ φ args' w hv hR noPins [] args' w (VRs.ext [] args') (Rel.start w)).mono ?_
  rintro e w' ⟨φ', v, v', H', h1, rfl, h3, h4, h5, rfl⟩
  have hb : Below w.heap.size w w' := by have := @Rel.below noPins _ _ _ h4; rw [h5] at this; exact this
  exact ⟨φ, v, v', H, List.prefix_refl _, rfl, flatT_VR h3 hr, hR.later hb, rfl, rfl, rfl⟩

/-- what is called at the top -/
theorem Flat.calls {P : Program} {g : FuncId} {args : List Value} {w : World} {r : Value} (h : Flat P g args w r) (hr : flatT r = true) : Calls P g ⟨args⟩ w fun e w' => e = .returned r ∧ Below w.heap.size w w' := by
  refine (h noPins [] args w (VRs.ext [] args) (Rel.start w)).mono ?_
  rintro e w' ⟨φ', v, v', H', h1, rfl, h3, h4, h5, rfl⟩
  have hb : Below w.heap.size w w' := by have := @Rel.below noPins _ _ _ h4; rw [h5] at this; exact this
  refine ⟨?_, hb⟩
  congr 1
  have one : ∀ {u u' : Value}, VR φ' u u' → AM.flat u = true → u' = u := fun hu hf => flat_eq hu hf
  cases h3 with
  | tuple ha hv =>
    congr 2
    simp only [flatT, List.all_eq_true] at hr
    apply List.ext_getElem?
    intro i
    rename_i a a'
    by_cases hi : i < a.length
    · have hi' : i < a'.length := ha ▸ hi
      rw [List.getElem?_eq_getElem hi, List.getElem?_eq_getElem hi']
      congr 1
      exact one (hv i _ _ (List.getElem?_eq_getElem hi) (List.getElem?_eq_getElem hi')) (hr _ (List.getElem_mem hi))
    · rw [List.getElem?_eq_none (by omega), List.getElem?_eq_none (by omega)]
  | _ => exact one (by constructor <;> assumption) hr

/-- a run without inputs -/
theorem Flat.closed {P : Program} (E : Env P) (hm : P.follows .mixedOrders = true) {g : FuncId} {r : Value} (n : Nat) (h : ∀ w : World, ∃ H', acall E n g [] (start w) = some (r, H')) (w : World) : Flat P g [] w r := by
  obtain ⟨H', hH⟩ := h w
  exact (acall_ok E hm n g [] (start w) r H' hH).2.mono fun v K hk => hk.1
end Go.AM
