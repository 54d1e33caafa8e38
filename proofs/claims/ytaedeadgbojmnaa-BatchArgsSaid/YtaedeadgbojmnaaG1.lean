/-
  Texts in a row of one's own: slices.Sort and slices.Compact as calls of the abstract machine.
-/
import Derived.Test.YtaedeadgbojmnaaB6
import Derived.Test.YtaedeadgbojmnaaAM25
import Derived.Test.YtaedeadgbojmnaaShelf
set_option linter.unusedVariables false
set_option linter.unusedSimpArgs false
set_option maxRecDepth 100000
namespace Go.Proofs.Ytaedeadgbojmnaa
open Go Go.AM Go.RowKit

def encS (s : Txt) : Value := .string ⟨⟨s⟩⟩
theorem encS_str (s : Txt) : encStr s = encS s := rfl

theorem putCells_size {off : Nat} {d : Array Txt} {c : Array Value} : (Sort.putCells encStr off d c).size = c.size := by simp [Sort.putCells]
theorem putCells_get {off : Nat} {d : List Txt} {c : Array Value} {j : Nat} (hj : j < d.length) (hle : off + d.length ≤ c.size) : (Sort.putCells encStr off d.toArray c)[off + j]? = some (encS (d[j]'hj)) := by
  simp only [Sort.putCells, Array.getElem?_mapIdx]
  rw [Array.getElem?_eq_getElem (by omega)]
  simp only [Option.map_some, List.size_toArray]
  rw [if_pos (by omega)]
  have e : off + j - off = j := by omega
  rw [e]
  congr 2
  simp [hj]

theorem rel_putRow [Pins] {φ : List AM.Place} {H : AH} {w : World} {N n : Nat} {ss ss' : List Txt} {ex : Bool} {p : AM.Place} {os : Array Obj} (R : Rel φ H w) (hg : H.tr.get N = some (.cells (ss.map encS) 1 ex)) (hp : φ[N]? = some p) (hl : ss'.length = ss.length) :
    Rel φ { H with tr := H.tr.set N (some (.cells (ss'.map encS) 1 ex)) } (Sort.grow (Sort.putRow encStr (Sort.ahead w n) p.blk p.base ss'.toArray) os) := by
  obtain ⟨q, hq, hN, hO⟩ := R.obj _ _ hg
  rw [hp] at hq; cases hq
  obtain ⟨C, e, lo, hi, hx, hf, ht, hs, hle, hex, hr⟩ := hO
  have hlen : (ss.map encS).length = ss.length := List.length_map ..
  have hlen' : (ss'.map encS).length = ss.length := by rw [List.length_map, hl]
  have hblk := alt_of_getElem? hx
  have hh : ∀ k : Nat, (Sort.grow (Sort.putRow encStr (Sort.ahead w n) p.blk p.base ss'.toArray) os).heap[k]? = (w.heap.modify p.blk (Sort.onCells (Sort.putCells encStr p.base ss'.toArray)) ++ os)[k]? := fun k => rfl
  have other : ∀ k : Nat, k < w.heap.size → k ≠ p.blk → (Sort.grow (Sort.putRow encStr (Sort.ahead w n) p.blk p.base ss'.toArray) os).heap[k]? = w.heap[k]? := by
    intro k hk hne
    rw [hh, Array.getElem?_append_left (by simpa using hk), Array.getElem?_modify, if_neg (fun h => hne h.symm)]
  have grown : w.heap.size ≤ (Sort.grow (Sort.putRow encStr (Sort.ahead w n) p.blk p.base ss'.toArray) os).heap.size := by
    have h2 : (Sort.grow (Sort.putRow encStr (Sort.ahead w n) p.blk p.base ss'.toArray) os).heap.size = (w.heap.modify p.blk (Sort.onCells (Sort.putCells encStr p.base ss'.toArray)) ++ os).size := rfl
    rw [h2, Array.size_append, Array.size_modify]; omega
  refine ⟨⟨R.below.os, R.below.tape, R.below.output, ?_, fun k hk => ?_⟩, R.len, fun j o' hj => ?_, fun j k o1 o2 p1 p2 hj hk hp1 hp2 hE => ?_, fun b x hb => ⟨(other b (alt_of_getElem? (R.pin b x hb).1) (fun e => (R.pin b x hb).2 N p hp e.symm)).trans (R.pin b x hb).1, (R.pin b x hb).2⟩, fun i q hq => Nat.lt_of_lt_of_le (R.lt i q hq) grown⟩
  · have h1 : H.w0.heap.size ≤ w.heap.size := R.below.size
    have h2 : (Sort.grow (Sort.putRow encStr (Sort.ahead w n) p.blk p.base ss'.toArray) os).heap.size = (w.heap.modify p.blk (Sort.onCells (Sort.putCells encStr p.base ss'.toArray)) ++ os).size := rfl
    show H.w0.heap.size ≤ _
    rw [h2, Array.size_append, Array.size_modify]; omega
  · have h1 : H.w0.heap.size ≤ w.heap.size := R.below.size
    have hk' : k < H.w0.heap.size := hk
    rw [other k (by omega) (by omega)]; exact R.below.block k hk
  · by_cases hji : j = N
    · subst hji
      simp only [Tr.get_set_same] at hj
      cases hj
      refine ⟨p, hp, hN, Sort.putCells encStr p.base ss'.toArray C, e, lo, hi, ?_, ?_, ?_, hs, ?_, ?_, ?_⟩
      · rw [hh, Array.getElem?_append_left (by simpa using hblk), Array.getElem?_modify, if_pos rfl, hx]; rfl
      · rw [putCells_size]; exact hf
      · rw [putCells_size]; exact ht
      · rw [putCells_size, hlen', ← hlen]; exact hle
      · rw [putCells_size, hlen', ← hlen]; exact hex
      · rw [hlen'] 
        have hsz : (Sort.putCells encStr p.base ss'.toArray C).toList.length = C.size := putCells_size
        refine ⟨by rw [hlen', List.length_take, List.length_drop, hsz]; omega, fun i u u' hu hu' => ?_⟩
        have hi' := lt_of_getElem? hu
        rw [hlen'] at hi'
        rw [List.getElem?_take, if_pos hi', List.getElem?_drop, Array.getElem?_toList, putCells_get (by omega) (by omega)] at hu'
        rw [List.getElem?_map, List.getElem?_eq_getElem (by omega)] at hu
        cases hu; cases hu'
        exact .string _
    · simp only [Tr.get_set_ne _ _ hji] at hj
      obtain ⟨q, hq, hNq, hOq⟩ := R.obj _ _ hj
      refine ⟨q, hq, hNq, ?_⟩
      have hne : q.blk ≠ p.blk := fun hE => hji (R.inj j N _ _ q p hj hg hq hp hE)
      rw [other _ (R.blk_lt hj hq) hne]; exact hOq
  · have back : ∀ j o', (H.tr.set N (some (AObj.cells (ss'.map encS) 1 ex))).get j = some o' → ∃ o'', H.tr.get j = some o'' := by
      intro j o' h
      by_cases hji : j = N
      · subst hji; exact ⟨_, hg⟩
      · exact ⟨o', by rwa [Tr.get_set_ne _ _ hji] at h⟩
    obtain ⟨o1', h1⟩ := back _ _ hj
    obtain ⟨o2', h2⟩ := back _ _ hk
    exact R.inj j k _ _ p1 p2 h1 h2 hp1 hp2 hE

/-- what an own row of texts is in the world -/
theorem rel_texts [Pins] {φ : List AM.Place} {H : AH} {w : World} {N m : Nat} {ss : List Txt} {ex : Bool} {v' : Value} (R : Rel φ H w) (hg : H.tr.get N = some (.cells (ss.map encS) 1 ex)) (hne : ss ≠ []) (hv : VR φ (.slice (some ⟨2 * N + 1, 0, none⟩) ss.length m) v') :
    ∃ p cap, φ[N]? = some p ∧ v' = .slice (some ⟨p.blk, p.base, none⟩) ss.length cap ∧ ss.length ≤ cap ∧ m ≤ cap ∧ p.base + cap * p.sz ≤ p.tot ∧ p.blk < w.heap.size ∧ Sort.Holds encStr w p.blk p.base ss.toArray := by
  have hpos : 0 < ss.length := List.length_pos_iff.2 hne
  cases hv with
  | @slc _ a' _ _ cap h =>
    rcases h with ⟨h, _⟩ | ⟨_, h1, h2, h3⟩
    · simp only at h; omega
    · rcases h3 with h3 | ⟨h3, h4⟩
      · omega
      · rcases h3 with ⟨h3, _⟩ | ⟨_, _, h5, p, hp, h6, h7⟩
        · simp only at h3; omega
        · rw [odd_div] at hp
          have hfit := h4 p (by rw [odd_div]; exact hp)
          simp only [Nat.add_zero] at h7 hfit
          obtain ⟨q, hq, hN, hO⟩ := R.obj _ _ hg
          rw [hp] at hq; cases hq
          obtain ⟨C, e, lo, hi, hx, hf, ht, hs, hle, hex, hr⟩ := hO
          have ea : a' = ⟨p.blk, p.base, none⟩ := by cases a'; simp only at h5 h6 h7; subst h5; subst h6; subst h7; rfl
          subst ea
          rw [List.length_map] at hle hr
          refine ⟨p, cap, hp, rfl, by omega, h2, hfit, R.blk_lt hg hp, fun j hj => ?_⟩
          rw [List.size_toArray] at hj
          have hC : C[p.base + j]? = some (encS ss[j]) := by
            have h8 : (ss.map encS)[j]? = some (encS ss[j]) := by rw [List.getElem?_map, List.getElem?_eq_getElem hj]; rfl
            obtain ⟨u', h9, h10⟩ := hr.get h8
            rw [List.getElem?_take, if_pos hj, List.getElem?_drop, Array.getElem?_toList] at h9
            rw [h9]
            cases h10
            rfl
          have hfr := hf (p.base + j) (by omega)
          refine ⟨?_, ?_⟩
          · simp only [World.cell?, hx]
            rw [hC]
            simp [hj, encS]
          · simp only [World.frozen?, hx]
            rw [← Bool.decide_and]; exact decide_eq_false hfr
theorem leT_eq : (fun x y : Txt => decide (x ≤ y)) = leT := rfl

theorem sortS_ok {S : AH} {N : Nat} {ss : List Txt} {ex : Bool} (hg : S.tr.get N = some (.cells (ss.map encS) 1 ex)) (hne : ss ≠ []) (hb : ss.length ≤ 140737488355328) :
    XCall Try.prog 31 [.slice (some ⟨2 * N + 1, 0, none⟩) ss.length ss.length] S fun v H' => v = .tuple ⟨[]⟩ ∧ H' = { S with tr := S.tr.set N (some (.cells ((ss.mergeSort leT).map encS) 1 ex)) } := by
  refine ⟨_, _, ⟨rfl, rfl⟩, rfl, fun π φ args' w hv hR => ?_⟩
  obtain ⟨v', rfl⟩ : ∃ v', args' = [v'] := List.length_eq_one_iff.1 hv.1.symm
  obtain ⟨p, cap, hp, rfl, hcap, _, hfit, hblk, hH⟩ := rel_texts hR hg hne hv.head
  refine (Try.slices_Sort_string p.blk p.base cap ss w hH hblk (by omega)).mono ?_
  rintro e w' ⟨rfl, n, os, rfl⟩
  exact ⟨φ, _, _, _, List.prefix_refl _, rfl, VR.tuple' (VRs.nil φ), rel_putRow hR hg hp (sort_len ss), rfl, rfl, rfl⟩

theorem compactS_ok {S : AH} {N : Nat} {ss : List Txt} {ex : Bool} (hg : S.tr.get N = some (.cells (ss.map encS) 1 ex)) (hne : ss ≠ []) (hb : ss.length ≤ 140737488355328) :
    XCall Try.prog 32 [.slice (some ⟨2 * N + 1, 0, none⟩) ss.length ss.length] S fun v H' => v = .slice (some ⟨2 * N + 1, 0, none⟩) (Lib.compact ss).length ss.length ∧ H' = { S with tr := S.tr.set N (some (.cells ((Lib.compact ss ++ List.replicate (ss.length - (Lib.compact ss).length) []).map encS) 1 ex)) } := by
  refine ⟨_, _, ⟨rfl, rfl⟩, rfl, fun π φ args' w hv hR => ?_⟩
  obtain ⟨v', rfl⟩ : ∃ v', args' = [v'] := List.length_eq_one_iff.1 hv.1.symm
  obtain ⟨p, cap, hp, rfl, hcap, hcap2, hfit, hblk, hH⟩ := rel_texts hR hg hne hv.head
  have hcl := compact_len ss
  refine (Try.slices_Compact_string p.blk p.base cap ss w hH (by omega) hcap).mono ?_
  rintro e w' ⟨rfl, n, rfl⟩
  refine ⟨φ, .slice (some ⟨2 * N + 1, 0, none⟩) (Lib.compact ss).length ss.length, _, { S with tr := S.tr.set N (some (.cells ((Lib.compact ss ++ List.replicate (ss.length - (Lib.compact ss).length) []).map encS) 1 ex)) }, List.prefix_refl _, rfl, .slc (.inr ⟨by show (2 * N + 1) % 2 = 1; omega, hcl, hcap2, .inr ⟨.inr ⟨by show (2 * N + 1) % 2 = 1; omega, rfl, rfl, p, by rw [odd_div]; exact hp, rfl, rfl⟩, fun q hq => ?_⟩⟩), ?_, rfl, rfl, rfl⟩
  · rw [odd_div] at hq; rw [hp] at hq; cases hq; exact hfit
  · have := rel_putRow (n := n) (os := #[]) (ss' := Lib.compact ss ++ List.replicate (ss.length - (Lib.compact ss).length) []) hR hg hp (by rw [List.length_append, List.length_replicate]; omega)
    rw [Sort.grow_empty] at this
    exact this

theorem sortNil_ok {S : AH} : XCall Try.prog 31 [.slice none 0 0] S fun v H' => v = .tuple ⟨[]⟩ ∧ Kept S.nx S H' := by
  refine ⟨_, S, ⟨rfl, Kept.refl _ _⟩, rfl, fun π φ args' w hv hR => ?_⟩
  obtain ⟨v', rfl⟩ : ∃ v', args' = [v'] := List.length_eq_one_iff.1 hv.1.symm
  have h := hv.head
  cases h with
  | snil =>
    refine (Try.slices_Sort_string_none none 0 w).mono ?_
    rintro e w' ⟨rfl, rfl⟩
    exact ⟨φ, _, _, S, List.prefix_refl _, rfl, VR.tuple' (VRs.nil φ), hR, rfl, rfl, rfl⟩
theorem compactNil_ok {S : AH} : XCall Try.prog 32 [.slice none 0 0] S fun v H' => v = .slice none 0 0 ∧ Kept S.nx S H' := by
  refine ⟨_, S, ⟨rfl, Kept.refl _ _⟩, rfl, fun π φ args' w hv hR => ?_⟩
  obtain ⟨v', rfl⟩ : ∃ v', args' = [v'] := List.length_eq_one_iff.1 hv.1.symm
  have h := hv.head
  cases h with
  | snil =>
    refine (Try.slices_Compact_string_empty none 0 w).mono ?_
    rintro e w' ⟨rfl, rfl⟩
    exact ⟨φ, _, _, S, List.prefix_refl _, rfl, .snil 0 0, hR, rfl, rfl, rfl⟩
end Go.Proofs.Ytaedeadgbojmnaa
