/-
  The abstract machine, part 25: calls that turn an own row; texts in order.
-/
import Derived.Test.YtpfgpjopjadmiaaGreatDoorAM23
import Derived.Lib.SlicesCompact
set_option linter.unusedVariables false
set_option linter.unusedSimpArgs false
noncomputable section
namespace Go.AM
open Go.RowKit

section
variable {P : Program} {E : Env P} {G : RG} {i n d : Nat} {r : List Oper} {Q : Fr → AH → Prop} {t : Tr Value} {l : List (Nat × Value)} {H0 : AH} {A : Nat → Prop} {L L' : OL} {v : Value}
  {ty : TypeId} {ps : String} {af : Array Edge} {gd : Option (Nat × Bool)}
/-- a call that turns one own object -/
theorem so_callM {c : Call} {g : FuncId} {vs : List Value} {N : Nat} {o o' : AObj} (hw : gok G.ops l gd = true) (hdn : Nat.ble (d + 1) n = true) (hm : G.D = true → i ∈ G.ms) (hc : c.callee = .value (.func g)) (hg : ∃ fn, E.fn g = some fn) (ha : Opvs l c.args.toList vs) (hu : Upd N o o' L L') (hDs : G.D = true → G.Lw.Sublist L')
    (hk : ∀ H, HS G.S H0 G.A0 A L H → XCall P g vs H fun u H' => u = v ∧ H' = { H with tr := H.tr.set N (some o') })
    (h : SO E G (i + 1) r Q (fr n t ((d, v) :: l)) H0 A L') : SO E G i (⟨some d, .call c, ty, ps, af, gd⟩ :: r) Q (fr n t l) H0 A L :=
  so_any hw rfl hdn hm fun hD H hH => by
    obtain ⟨fn, hg⟩ := hg
    obtain ⟨u, H', ⟨rfl, rfl⟩, hw0, hcall⟩ := hk H hH
    refine ⟨u, _, H0, A, L', .inr ⟨hw0, g, vs, ?_, hcall⟩, hH.set hu, hD.list hDs, h⟩
    simp only [acallee, hc, aval_func, hg, ha.ok, List.append_nil, List.nil_append]
theorem HS.less {S H0 H : AH} {A0 A : Nat → Prop} {L L1 : OL} (h : HS S H0 A0 A L H) (hs : L1.Sublist L) : HS S H0 A0 A L1 H := ⟨h.kept, h.base, h.w0, h.sub, h.lt, fun p hp => h.own p (hs.subset hp), h.dist.sublist hs⟩
theorem so_less {f : Fr} {ops : List Oper} {L1 : OL} (hs : L1.Sublist L) (hD : G.D = true → G.Lw.Sublist L1) (h : SO E G i ops Q f H0 A L1) : SO E G i ops Q f H0 A L := fun hDs H hH => h (hDs.list hD) H (hH.less hs)
/-- behind an own row, whether it may have room or not -/
theorem so_appAny {x y : Operand} {c : Call} {e sT xT : TypeId} {dx : TypeDesc} {ii : TI} {zv : Value} {N sl m sz bt : Nat} {w : Value} {old new cs' : List Value} {ex : Bool} (hw : gok G.ops l gd = true) (hdn : Nat.ble (d + 1) n = true) (hm : G.D = true → i ∈ G.ms) (hc : c.callee = .builtin .append) (ha : c.args.toList = [x, y]) (ht : c.argTypes.toList = [sT, xT])
    (hx : opv l x = some (.slice (some ⟨2 * N + 1, 0, none⟩) sl sl)) (hy : opv l y = some w) (hu : E.und sT = some (.slice e)) (hux : E.und xT = some dx) (hdx : isIntD dx = false) (hi : E.inf e = some ii) (hz : ii.zero = some zv) (hs : ii.size = sz) (hs0 : sz ≠ 0) (hbt : ii.bytes = bt) (hm0 : m ≠ 0) (hf : FirstOk G.S H0 G.A0 A L sz m w new)
    (hr : Rem N (.cells old sz ex) L L') (hol : old.length = sl * sz) (h1 : allOne new = true) (hbig : roomB (sl + m) bt = true) (hbig2 : sl + m ≤ 140737488355328) (hcs : old ++ new = cs') (hD' : G.D = true → G.Lw.Sublist L') {k : Nat} (hk : sl + m = k)
    (h : ∀ M, SO E G (i + 1) r Q (fr n t ((d, .slice (some ⟨2 * M + 1, 0, none⟩) k k) :: l)) H0 A ((M, .cells cs' sz false) :: L')) : SO E G i (⟨some d, .call c, ty, ps, af, gd⟩ :: r) Q (fr n t l) H0 A L := by
  cases ex with
  | false => exact so_appOwn hw hdn hm hc ha ht hx hy hu hux hdx hi hz hs hs0 hbt hm0 hf hr hol h1 hbig hbig2 hcs hD' hk h
  | true =>
    refine so_appNew hw hdn hm hc ha ht hx hy hu hux hdx hi hz hs hs0 hbt hm0 hf (.inr ⟨N, rfl, hr.mem, hol⟩) hbig hbig2 hcs hk fun M => ?_
    exact so_less (List.Sublist.cons_cons _ hr.sub) (fun h => List.Sublist.cons _ (hD' h)) (h M)
theorem bin_sgtr {ta : TypeId} {a b : ByteArray} {v : Bool} (h : (!(Op.bytesLess a.data.toList b.data.toList || a.data.toList == b.data.toList)) = v) : abin E .gtr ta (.string a) (.string b) = some (.bool v) := by
  simp only [abin, abinStr, h]
end

/-! ### texts in order -/
abbrev Txt := List UInt8
theorem bytesLess_lt : ∀ (x y : Txt), Op.bytesLess x y = decide (x < y)
  | [], [] => by simp [Op.bytesLess]
  | _ :: _, [] => by simp [Op.bytesLess]
  | [], _ :: _ => by simp [Op.bytesLess]
  | a :: x, b :: y => by
    rw [Op.bytesLess, bytesLess_lt x y]
    simp only [List.cons_lt_cons_iff]
    by_cases h1 : a < b <;> by_cases h2 : a = b <;> by_cases h3 : x < y <;> simp [h1, h2, h3]
theorem txt_lt_of {x y : Txt} (h : ¬ x < y) (hn : x ≠ y) : y < x := by
  rcases Decidable.em (y < x) with k | k
  · exact k
  · exact absurd (List.le_antisymm (List.not_lt.1 k) (List.not_lt.1 h)) hn
theorem txt_irrefl (x : Txt) : ¬ x < x := List.lt_irrefl x
theorem txt_asymm {x y : Txt} (h : x < y) : ¬ y < x := List.lt_asymm h
theorem txt_trans {x y z : Txt} (h : x < y) (k : y < z) : x < z := List.lt_trans h k
theorem gtr_t {a b : Txt} (h : b < a) : (!(Op.bytesLess a b || a == b)) = true := by
  rw [bytesLess_lt, decide_eq_false (txt_asymm h), beq_eq_false_iff_ne.2 (fun e => txt_irrefl _ (e ▸ h))]; rfl
theorem gtr_f {a b : Txt} (h : ¬ b < a) : (!(Op.bytesLess a b || a == b)) = false := by
  rw [bytesLess_lt]
  by_cases e : a = b
  · subst e; simp
  · rw [decide_eq_true (txt_lt_of h (fun h => e h.symm))]; rfl

theorem ss_eq : ∀ {l l' : List Txt}, l.Pairwise (· < ·) → l'.Pairwise (· < ·) → (∀ x, x ∈ l ↔ x ∈ l') → l = l'
  | [], [], _, _, _ => rfl
  | [], y :: l', _, _, h => absurd ((h y).2 (List.mem_cons_self ..)) (by simp)
  | x :: l, [], _, _, h => absurd ((h x).1 (List.mem_cons_self ..)) (by simp)
  | x :: l, y :: l', h1, h2, h => by
    rw [List.pairwise_cons] at h1 h2
    have e : x = y := by
      rcases List.mem_cons.1 ((h x).1 (List.mem_cons_self ..)) with e | e
      · exact e
      · rcases List.mem_cons.1 ((h y).2 (List.mem_cons_self ..)) with e' | e'
        · exact e'.symm
        · exact absurd (h1.1 y e') (txt_asymm (h2.1 x e))
    subst e
    rw [ss_eq h1.2 h2.2 fun z => ?_]
    constructor
    · intro hz
      rcases List.mem_cons.1 ((h z).1 (List.mem_cons_of_mem _ hz)) with e | e
      · subst e; exact absurd (h1.1 z hz) (txt_irrefl z)
      · exact e
    · intro hz
      rcases List.mem_cons.1 ((h z).2 (List.mem_cons_of_mem _ hz)) with e | e
      · subst e; exact absurd (h2.1 z hz) (txt_irrefl z)
      · exact e

/-- a text, put ahead of the first greater one, if there is one -/
def insL (s : Txt) : List Txt → List Txt
  | [] => []
  | y :: r => if s < y then s :: y :: r else y :: insL s r
def anyG (s : Txt) (l : List Txt) : Bool := l.any fun y => decide (s < y)
def insF (s : Txt) (l : List Txt) : List Txt := if s ∈ l then l else if anyG s l = true then insL s l else l ++ [s]
theorem insL_snoc_t {s y : Txt} : ∀ {a : List Txt}, anyG s a = true → insL s (a ++ [y]) = insL s a ++ [y]
  | [], h => by simp [anyG] at h
  | x :: a, h => by
    simp only [List.cons_append, insL]
    by_cases e : s < x
    · rw [if_pos e, if_pos e]; rfl
    · rw [if_neg e, if_neg e, insL_snoc_t (a := a) (by simpa [anyG, e] using h)]; rfl
theorem insL_none {s : Txt} : ∀ {a : List Txt}, anyG s a = false → insL s a = a
  | [], _ => rfl
  | x :: a, h => by
    simp only [anyG, List.any_cons, Bool.or_eq_false_iff, decide_eq_false_iff_not] at h
    simp only [insL]
    rw [if_neg h.1, insL_none (a := a) h.2]
theorem insL_snoc_f {s y : Txt} : ∀ {a : List Txt}, anyG s a = false → insL s (a ++ [y]) = if s < y then a ++ [s, y] else a ++ [y]
  | [], _ => by simp only [List.nil_append, insL]
  | x :: a, h => by
    simp only [anyG, List.any_cons, Bool.or_eq_false_iff, decide_eq_false_iff_not] at h
    simp only [List.cons_append, insL]
    rw [if_neg h.1, insL_snoc_f (a := a) h.2]
    by_cases e : s < y
    · rw [if_pos e, if_pos e]
    · rw [if_neg e, if_neg e]
theorem anyG_snoc {s y : Txt} {a : List Txt} : anyG s (a ++ [y]) = (anyG s a || decide (s < y)) := by simp [anyG]
theorem insL_mem {s : Txt} : ∀ {a : List Txt}, anyG s a = true → ∀ x, x ∈ insL s a ↔ x = s ∨ x ∈ a
  | [], h => by simp [anyG] at h
  | y :: a, h => fun x => by
    simp only [insL]
    by_cases e : s < y
    · rw [if_pos e]; simp
    · rw [if_neg e, List.mem_cons, List.mem_cons, insL_mem (a := a) (by simpa [anyG, e] using h)]
      constructor
      · rintro (h | h | h)
        · exact .inr (.inl h)
        · exact .inl h
        · exact .inr (.inr h)
      · rintro (h | h | h)
        · exact .inr (.inl h)
        · exact .inl h
        · exact .inr (.inr h)
theorem insL_ss {s : Txt} : ∀ {a : List Txt}, anyG s a = true → s ∉ a → a.Pairwise (· < ·) → (insL s a).Pairwise (· < ·)
  | [], h, _, _ => by simp [anyG] at h
  | y :: a, h, hn, hp => by
    rw [List.pairwise_cons] at hp
    simp only [insL]
    by_cases e : s < y
    · rw [if_pos e]
      refine List.pairwise_cons.2 ⟨fun z hz => ?_, List.pairwise_cons.2 hp⟩
      rcases List.mem_cons.1 hz with rfl | hz
      · exact e
      · exact txt_trans e (hp.1 z hz)
    · rw [if_neg e]
      have ha : anyG s a = true := by simpa [anyG, e] using h
      refine List.pairwise_cons.2 ⟨fun z hz => ?_, insL_ss ha (fun hm => hn (List.mem_cons_of_mem _ hm)) hp.2⟩
      rcases (insL_mem ha z).1 hz with rfl | hz
      · exact txt_lt_of e (fun e' => hn (by rw [e']; exact List.mem_cons_self ..))
      · exact hp.1 z hz
theorem insF_mem (s : Txt) (l : List Txt) (x : Txt) : x ∈ insF s l ↔ x = s ∨ x ∈ l := by
  unfold insF
  by_cases h : s ∈ l
  · rw [if_pos h]
    constructor
    · exact .inr
    · rintro (rfl | h')
      · exact h
      · exact h'
  · rw [if_neg h]
    by_cases k : anyG s l = true
    · rw [if_pos k]; exact insL_mem k x
    · rw [if_neg k, List.mem_append, List.mem_singleton]
      exact Or.comm
theorem insF_ss {s : Txt} {l : List Txt} (hp : l.Pairwise (· < ·)) : (insF s l).Pairwise (· < ·) := by
  unfold insF
  by_cases h : s ∈ l
  · rw [if_pos h]; exact hp
  · rw [if_neg h]
    by_cases k : anyG s l = true
    · rw [if_pos k]; exact insL_ss k h hp
    · rw [if_neg k]
      refine List.pairwise_append.2 ⟨hp, List.pairwise_singleton _ _, fun x hx y hy => ?_⟩
      rw [List.mem_singleton] at hy
      subst hy
      have k' : ¬ y < x := fun h' => k (by simp only [anyG, List.any_eq_true]; exact ⟨x, hx, decide_eq_true h'⟩)
      exact txt_lt_of k' (fun e => h (e ▸ hx))
def insAll (ns : List Txt) : List Txt := ns.foldl (fun l s => insF s l) []
theorem insAll_snoc (ns : List Txt) (s : Txt) : insAll (ns ++ [s]) = insF s (insAll ns) := by simp [insAll]
theorem insAll_spec (ns : List Txt) : (insAll ns).Pairwise (· < ·) ∧ ∀ x, x ∈ insAll ns ↔ x ∈ ns := by
  have key : ∀ (m : List Txt) (acc : List Txt), acc.Pairwise (· < ·) → (m.foldl (fun l s => insF s l) acc).Pairwise (· < ·) ∧ ∀ x, x ∈ m.foldl (fun l s => insF s l) acc ↔ x ∈ acc ∨ x ∈ m := by
    intro m
    induction m with
    | nil => intro acc h; exact ⟨h, fun x => by simp⟩
    | cons s m ih =>
      intro acc h
      obtain ⟨h1, h2⟩ := ih (insF s acc) (insF_ss h)
      refine ⟨h1, fun x => ?_⟩
      rw [List.foldl_cons, h2 x, insF_mem, List.mem_cons]
      constructor
      · rintro ((h | h) | h)
        · exact .inr (.inl h)
        · exact .inl h
        · exact .inr (.inr h)
      · rintro (h | h | h)
        · exact .inl (.inr h)
        · exact .inl (.inl h)
        · exact .inr h
  obtain ⟨h1, h2⟩ := key ns [] List.Pairwise.nil
  exact ⟨h1, fun x => by rw [insAll, h2 x]; simp⟩
theorem insAll_len (ns : List Txt) : (insAll ns).length ≤ ns.length := by
  have one : ∀ (s : Txt) (l : List Txt), (insF s l).length ≤ l.length + 1 := by
    intro s l
    have hl : ∀ l : List Txt, (insL s l).length ≤ l.length + 1 := by
      intro l
      induction l with
      | nil => simp [insL]
      | cons y r ih =>
        simp only [insL]
        by_cases e : s < y
        · rw [if_pos e]; simp
        · rw [if_neg e]; simp only [List.length_cons]; omega
    unfold insF
    by_cases h : s ∈ l
    · rw [if_pos h]; omega
    · rw [if_neg h]
      by_cases k : anyG s l = true
      · rw [if_pos k]; exact hl l
      · rw [if_neg k]; simp
  have key : ∀ (m : List Txt) (acc : List Txt), (m.foldl (fun l s => insF s l) acc).length ≤ acc.length + m.length := by
    intro m
    induction m with
    | nil => intro acc; simp
    | cons s m ih =>
      intro acc
      have h1 := ih (insF s acc)
      have h2 := one s acc
      rw [List.foldl_cons, List.length_cons]; omega
  have := key ns []
  simpa [insAll] using this

def leT : Txt → Txt → Bool := fun x y => decide (x ≤ y)
theorem sort_sorted (l : List Txt) : (l.mergeSort leT).Pairwise (fun a b => a ≤ b) := by
  have tr : ∀ a b c : Txt, leT a b = true → leT b c = true → leT a c = true := fun a b c h1 h2 => by simp only [leT, decide_eq_true_eq] at *; exact List.le_trans h1 h2
  have to : ∀ a b : Txt, (leT a b || leT b a) = true := fun a b => by simp only [leT, Bool.or_eq_true, decide_eq_true_eq]; exact List.le_total a b
  refine (List.pairwise_mergeSort tr to l).imp fun {a b} h => ?_
  simpa [leT] using h
theorem sort_mem (l : List Txt) (x : Txt) : x ∈ l.mergeSort leT ↔ x ∈ l := (List.mergeSort_perm l leT).mem_iff
theorem sort_len (l : List Txt) : (l.mergeSort leT).length = l.length := List.length_mergeSort ..

theorem compact_spec {l : List Txt} (hs : l.Pairwise (fun a b => a ≤ b)) : (Lib.compact l).Pairwise (· < ·) ∧ ∀ x, x ∈ Lib.compact l ↔ x ∈ l := by
  have hget : ∀ j, (h : j < l.length) → l.toArray[j]! = l[j] := fun j h => by simp [h]
  have key : ∀ m, m ≤ l.length → (Lib.compactUpTo l.toArray m).Pairwise (· < ·) ∧ (∀ x, x ∈ Lib.compactUpTo l.toArray m ↔ ∃ j, j < m ∧ l[j]? = some x) := by
    intro m
    induction m with
    | zero => intro _; exact ⟨by simp [Lib.compactUpTo], fun x => by simp [Lib.compactUpTo]⟩
    | succ m ih =>
      intro hm
      obtain ⟨h1, h2⟩ := ih (by omega)
      have hmg : l[m]? = some l[m] := List.getElem?_eq_getElem (by omega)
      rw [Lib.compactUpTo_succ]
      cases hk : Lib.keeps l.toArray m with
      | true =>
        simp only [if_true]
        rw [hget m (by omega)]
        refine ⟨List.pairwise_append.2 ⟨h1, List.pairwise_singleton _ _, fun x hx y hy => ?_⟩, fun x => ?_⟩
        · rw [List.mem_singleton] at hy; subst hy
          obtain ⟨j, hj, hjx⟩ := (h2 x).1 hx
          obtain ⟨hjl, rfl⟩ := List.getElem?_eq_some_iff.1 hjx
          have hm0 : m ≠ 0 := by omega
          have hne : l[m] ≠ l[m - 1] := by
            simp only [Lib.keeps, decide_eq_true_eq] at hk
            rw [hget m (by omega), hget (m - 1) (by omega)] at hk
            exact hk.resolve_left hm0
          have hle1 : l[m - 1] ≤ l[m] := (List.pairwise_iff_getElem.1 hs) (m - 1) m (by omega) (by omega) (by omega)
          have hlt : l[m - 1] < l[m] := txt_lt_of (List.not_lt.2 hle1) hne
          by_cases e : j = m - 1
          · subst e; exact hlt
          · have hle2 : l[j] ≤ l[m - 1] := (List.pairwise_iff_getElem.1 hs) j (m - 1) (by omega) (by omega) (by omega)
            exact List.lt_of_le_of_lt hle2 hlt
        · rw [List.mem_append, List.mem_singleton, h2 x]
          constructor
          · rintro (⟨j, hj, hx⟩ | rfl)
            · exact ⟨j, by omega, hx⟩
            · exact ⟨m, by omega, hmg⟩
          · rintro ⟨j, hj, hx⟩
            by_cases e : j = m
            · subst e; rw [hmg] at hx; cases hx; exact .inr rfl
            · exact .inl ⟨j, by omega, hx⟩
      | false =>
        simp only [Bool.false_eq_true, if_false, List.append_nil]
        refine ⟨h1, fun x => ?_⟩
        rw [h2 x]
        constructor
        · rintro ⟨j, hj, hx⟩; exact ⟨j, by omega, hx⟩
        · rintro ⟨j, hj, hx⟩
          by_cases e : j = m
          · subst e
            simp only [Lib.keeps, decide_eq_false_iff_not, not_or, Decidable.not_not] at hk
            rw [hget j (by omega), hget (j - 1) (by omega)] at hk
            rw [hmg] at hx; cases hx
            exact ⟨j - 1, by omega, by rw [hk.2]; exact List.getElem?_eq_getElem (by omega)⟩
          · exact ⟨j, by omega, hx⟩
  obtain ⟨h1, h2⟩ := key l.length (Nat.le_refl _)
  refine ⟨h1, fun x => ?_⟩
  rw [show Lib.compact l = Lib.compactUpTo l.toArray l.length from rfl, h2 x, List.mem_iff_getElem?]
  constructor
  · rintro ⟨j, _, h⟩; exact ⟨j, h⟩
  · rintro ⟨j, h⟩; exact ⟨j, (List.getElem?_eq_some_iff.1 h).1, h⟩
theorem compact_len (l : List Txt) : (Lib.compact l).length ≤ l.length := by
  simp only [Lib.compact, Lib.compactUpTo, List.length_map]
  exact Nat.le_trans (List.length_filter_le _ _) (by simp)
/-- sorted and made single: as put in one after the other -/
theorem single_eq (ns : List Txt) : Lib.compact (ns.mergeSort leT) = insAll ns := by
  obtain ⟨h1, h2⟩ := compact_spec (sort_sorted ns)
  obtain ⟨k1, k2⟩ := insAll_spec ns
  exact ss_eq h1 k1 fun x => by rw [h2 x, sort_mem, k2 x]
end Go.AM
