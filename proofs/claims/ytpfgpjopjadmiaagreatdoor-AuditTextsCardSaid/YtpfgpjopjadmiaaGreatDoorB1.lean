/-
  Walks, laid by program.
-/
import Derived.Test.YtpfgpjopjadmiaaGreatDoorB0
import Derived.Test.YtpfgpjopjadmiaaGreatDoorD1
import Derived.Test.YtpfgpjopjadmiaaGreatDoorShelf
import Derived.WalkSmall
import Derived.Lib.LaidTab
set_option linter.unusedVariables false
set_option linter.unusedSimpArgs false
set_option maxRecDepth 100000
namespace Go.Proofs.YtpfgpjopjadmiaaGreatDoor
open Go Go.AM

/-- an int's decimal numeral -/
def itoaB (n : Int) : ByteArray := ⟨(Lib.itoa n).toArray⟩
def catB (a b : ByteArray) : ByteArray := ⟨⟨a.data.toList ++ b.data.toList⟩⟩
def Tab (S : AH) : Prop := Lib.TabIs Tryz.prog S.w0 "internal/strconv.uint64pow10" .u64 Lib.pow10Tab
theorem wf64 {n : Int} (h : (Lit.int .i64 n).wf = true) : -9223372036854775808 ≤ n ∧ n ≤ 9223372036854775807 := by
  simp only [Lit.wf, Bool.and_eq_true, decide_eq_true_eq] at h
  exact h
theorem size_mk (l : List UInt8) : (ByteArray.mk ⟨l⟩).size = l.length := rfl
theorem cat_size (a b : ByteArray) : (catB a b).size = a.size + b.size := by
  show (a.data.toList ++ b.data.toList).length = _
  rw [List.length_append, Array.length_toList, Array.length_toList]; rfl
theorem digits_le {u : Nat} (h : u < 18446744073709551616) : Lib.nDigits u ≤ 20 := by
  by_cases h0 : u = 0
  · subst h0; rw [Lib.nDigits_small (by decide)]; decide
  · obtain ⟨e, h1⟩ := Lib.numDigits_eq u (by omega) h
    rw [← e]
    split <;> omega
theorem itoa_size {n : Int} (hn : (Lit.int .i64 n).wf = true) : (itoaB n).size ≤ 21 := by
  obtain ⟨h0, h1⟩ := wf64 hn
  show (Lib.itoa n).toArray.size ≤ 21
  unfold Lib.itoa
  split
  · simp only [List.size_toArray, List.length_cons, Lib.decDigits_length]
    have := digits_le (u := n.natAbs) (by omega)
    omega
  · simp only [List.size_toArray, Lib.decDigits_length]
    have := digits_le (u := n.toNat) (by omega)
    omega
theorem below_grow (w : World) (q : Nat) (os : Array Obj) : RowKit.Below w.heap.size w (Sort.grow (w.drewN q) os) :=
  ⟨rfl, rfl, rfl, by simp [Sort.grow], fun i hi => by
    show ((w.drewN q).heap ++ os)[i]? = _
    rw [Array.getElem?_append_left (by show i < w.heap.size; omega)]
    rfl⟩
theorem pow10g : ∃ g, Tryz.prog.globalNamed "internal/strconv.uint64pow10" = some g := by
  cases h : Tryz.prog.globalNamed "internal/strconv.uint64pow10" with
  | some g => exact ⟨g, rfl⟩
  | none => exact absurd h (by
      have : (Tryz.prog.globalNamed "internal/strconv.uint64pow10").isSome = true := by kernel_rfl
      intro e; rw [e] at this; cases this)
theorem Tab.later {S : AH} (hT : Tab S) {w : World} (h : RowKit.Below S.w0.heap.size S.w0 w) : Lib.TabIs Tryz.prog w "internal/strconv.uint64pow10" .u64 Lib.pow10Tab := by
  obtain ⟨g, hg⟩ := pow10g
  have hT2 : S.w0.var? Tryz.prog "internal/strconv.uint64pow10" = some _ := hT
  have hgB : g < S.w0.heap.size := by
    simp only [World.var?, hg, Option.bind_some] at hT2
    split at hT2
    · rename_i hx; exact alt_of_getElem? hx
    · cases hT2
  exact var?_below h hg hgB hT
theorem itoa_ok {S : AH} (hT : Tab S) {n : Int} (hn : (Lit.int .i64 n).wf = true) : XCall Tryz.prog 7 [.int .i64 n] S fun v H' => v = .string (itoaB n) ∧ Kept S.nx S H' :=
  ⟨.string (itoaB n), S, ⟨rfl, Kept.refl _ _⟩, rfl, fun π φ args' w hv hR => by
    obtain rfl := flatL_eq hv rfl
    obtain ⟨h0, h1⟩ := wf64 hn
    refine (Tryz.strconv_Itoa n h0 h1 w (hT.later hR.below)).mono ?_
    rintro e w' ⟨rfl, k, os, rfl⟩
    exact ⟨φ, .string (itoaB n), .string (itoaB n), S, List.prefix_refl _, rfl, .string _, hR.later (below_grow w k os), rfl, rfl, rfl⟩⟩
theorem bin_sadd {P : Program} {E : Env P} {t : TypeId} {a b : ByteArray} (h : a.size + b.size ≤ 9223372036854775807) : abin E .add t (.string a) (.string b) = some (.string (catB a b)) := by
  simp only [abin, abinStr]; rw [if_pos h]; rfl
def docT (words : ByteArray) (d n : Int) : ByteArray := catB (catB (catB (catB (catB ⟨#[100, 111, 99, 117, 109, 101, 110, 116, 32]⟩ (itoaB d)) ⟨#[58, 32]⟩) words) ⟨#[32]⟩) (itoaB n)
/-- the text of a finding -/
def textB (k d n : Int) : ByteArray :=
  if k = 5 then catB ⟨#[108, 105, 98, 114, 97, 114, 121, 58, 32, 105, 110, 118, 97, 108, 105, 100, 32]⟩ (itoaB n) else if k < 1 ∨ 5 < k then ⟨#[117, 110, 107, 110, 111, 119, 110]⟩ else
  if k = 1 then docT ⟨#[105, 110, 118, 97, 108, 105, 100]⟩ d n else if k = 2 then docT ⟨#[110, 111, 116, 32, 114, 101, 115, 116, 111, 114, 101, 100]⟩ d n else if k = 3 then docT ⟨#[110, 111, 116, 32, 114, 101, 99, 111, 118, 101, 114, 101, 100]⟩ d n else docT ⟨#[119, 114, 111, 110, 103, 32, 116, 105, 108, 101]⟩ d n
theorem textB_5 (d n : Int) : textB 5 d n = catB ⟨#[108, 105, 98, 114, 97, 114, 121, 58, 32, 105, 110, 118, 97, 108, 105, 100, 32]⟩ (itoaB n) := if_pos rfl
theorem textB_1 (d n : Int) : textB 1 d n = docT ⟨#[105, 110, 118, 97, 108, 105, 100]⟩ d n := by simp [textB]
theorem textB_2 (d n : Int) : textB 2 d n = docT ⟨#[110, 111, 116, 32, 114, 101, 115, 116, 111, 114, 101, 100]⟩ d n := by simp [textB]
theorem textB_3 (d n : Int) : textB 3 d n = docT ⟨#[110, 111, 116, 32, 114, 101, 99, 111, 118, 101, 114, 101, 100]⟩ d n := by simp [textB]
theorem textB_4 (d n : Int) : textB 4 d n = docT ⟨#[119, 114, 111, 110, 103, 32, 116, 105, 108, 101]⟩ d n := by simp [textB]
theorem textB_0 {k : Int} (d n : Int) (h : k < 1 ∨ 5 < k) : textB k d n = ⟨#[117, 110, 107, 110, 111, 119, 110]⟩ := by unfold textB; rw [if_neg (by omega), if_pos h]
theorem kind6 (k : Int) : k = 1 ∨ k = 2 ∨ k = 3 ∨ k = 4 ∨ k = 5 ∨ (k < 1 ∨ 5 < k) := by omega
theorem Tab.at {S H : AH} (hT : Tab S) (h : S.w0 = H.w0) : Tab H := by unfold Tab at *; rw [← h]; exact hT
end Go.Proofs.YtpfgpjopjadmiaaGreatDoor
