/-
  The abstract machine, part 37: bits, arrays, texts: more rules of single operations.
-/
import Derived.Test.YtgkfobiiebpfhaaGreatDoorAM36
import Derived.Test.YtgkfobiiebpfhaaGreatDoorAM32
import Derived.Laws.BitsLemmas
set_option linter.unusedVariables false
set_option linter.unusedSimpArgs false
noncomputable section
namespace Go.AM
open Go.RowKit

section
variable {P : Program} {E : Env P} {t : TypeId} {k k' : IntKind} {a b c : Int}
theorem bin_shr (hb : 0 ≤ b) (h : a.fdiv (2 ^ (min b.toNat k.bits)) = c) : abin E .shr t (.int k a) (.int k' b) = some (.int k c) := by
  have : ¬ b < 0 := by omega
  simp only [abin, this, if_false, h]
theorem bin_shl (hb : 0 ≤ b) (h : k.wrap (a * 2 ^ (min b.toNat k.bits)) = c) : abin E .shl t (.int k a) (.int k' b) = some (.int k c) := by
  have : ¬ b < 0 := by omega
  simp only [abin, this, if_false, h]
theorem bin_xor (h : bits .xor k a b = c) : abin E .xor t (.int k a) (.int k b) = some (.int k c) := by simp [abin, abinInt, h]
theorem bin_and (h : bits .and k a b = c) : abin E .and t (.int k a) (.int k b) = some (.int k c) := by simp [abin, abinInt, h]
theorem bin_or (h : bits .or k a b = c) : abin E .or t (.int k a) (.int k b) = some (.int k c) := by simp [abin, abinInt, h]
theorem bin_cat {s u v : ByteArray} (hl : s.data.toList.length + u.data.toList.length ≤ 9223372036854775807) (h : v = ⟨⟨s.data.toList ++ u.data.toList⟩⟩) : abin E .add t (.string s) (.string u) = some (.string v) := by
  subst h
  have e1 : s.size = s.data.toList.length := by rw [Array.length_toList]; rfl
  have e2 : u.size = u.data.toList.length := by rw [Array.length_toList]; rfl
  simp only [abin, abinStr, e1, e2, hl, if_true]
end

section
variable {P : Program} {E : Env P} {G : RG} {i n d : Nat} {r : List Oper} {Q : Fr → AH → Prop} {t : Tr Value} {l : List (Nat × Value)} {H0 : AH} {A : Nat → Prop} {L L' : OL} {v : Value}
  {ty : TypeId} {ps : String} {af : Array Edge} {gd : Option (Nat × Bool)} {x y : Operand}
theorem so_un {op : UnOp} {ta : TypeId} {a : Value} (hw : gok G.ops l gd = true) (hdn : Nat.ble (d + 1) n = true) (hx : opv l x = some a) (hb : aun op a = some v) (h : SO E G (i + 1) r Q (fr n t ((d, v) :: l)) H0 A L) :
    SO E G i (⟨some d, .unOp op ta x, ty, ps, af, gd⟩ :: r) Q (fr n t l) H0 A L :=
  so_pure hw rfl hdn rfl (fun H => by simp only [aop, opv_ok hx, hb, pairUp]) h
/-- an element of an array, by the array's address -/
theorem so_indexP {kk : IntKind} {b off m j s o' : Nat} {e : TypeId} {ii : TI} {ta : TypeId} (hw : gok G.ops l gd = true) (hdn : Nat.ble (d + 1) n = true) (hx : opv l x = some (.pointer (some ⟨b, off, none⟩))) (hy : opv l y = some (.int kk ((j : Nat) : Int))) (hu : E.und ta = some (.array m e)) (hi : E.inf e = some ii) (hs : ii.size = s)
    (hj : j < m) (ho : off + j * s = o') (h : SO E G (i + 1) r Q (fr n t ((d, .pointer (some ⟨b, o', none⟩)) :: l)) H0 A L) : SO E G i (⟨some d, .indexAddr ta x y, ty, ps, af, gd⟩ :: r) Q (fr n t l) H0 A L :=
  so_pure hw rfl hdn rfl (fun H => by
    have : aidx (.int kk ((j : Nat) : Int)) m = some j := by simp only [aidx]; rw [if_pos ⟨by omega, by omega⟩]; simp
    simp only [aop, opv_ok hx, opv_ok hy, aindexAddr, hu, hi, this, pairUp, hs, own_add, ho]) h
/-- bytes of an own row as a text -/
theorem so_bytesT {sT dT e : TypeId} {N m c sz : Nat} {cs : List Value} {ex : Bool} {bs : List UInt8} (hw : gok G.ops l gd = true) (hdn : Nat.ble (d + 1) n = true) (hm : G.D = true → i ∈ G.ms) (hx : opv l x = some (.slice (some ⟨2 * N + 1, 0, none⟩) m c)) (hs : E.und sT = some (.slice e)) (he : E.und e = some (.int .u8)) (hd : E.und dT = some .string)
    (hmem : (N, AObj.cells cs sz ex) ∈ L) (hl : cs.length = m) (hb : abytes cs = some bs) (h : SO E G (i + 1) r Q (fr n t ((d, .string ⟨⟨bs⟩⟩) :: l)) H0 A L) :
    SO E G i (⟨some d, .convert sT dT x, ty, ps, af, gd⟩ :: r) Q (fr n t l) H0 A L :=
  so_any hw rfl hdn hm fun hD H hH => by
    refine ⟨.string ⟨⟨bs⟩⟩, H, H0, A, L, .inl ?_, hH, hD, h⟩
    have hg := aloads_own (hH.own _ hmem).1 0 m none (by omega)
    rw [List.drop_zero, ← hl, List.take_length] at hg
    simp only [aop, opv_ok hx, aconv, hs, hd, he, ← hl, hg, hb]
theorem so_bytesT0 {sT dT e : TypeId} {m c : Nat} (hw : gok G.ops l gd = true) (hdn : Nat.ble (d + 1) n = true) (hm : G.D = true → i ∈ G.ms) (hx : opv l x = some (.slice none m c)) (hs : E.und sT = some (.slice e)) (he : E.und e = some (.int .u8)) (hd : E.und dT = some .string)
    (h : SO E G (i + 1) r Q (fr n t ((d, .string ⟨⟨[]⟩⟩) :: l)) H0 A L) : SO E G i (⟨some d, .convert sT dT x, ty, ps, af, gd⟩ :: r) Q (fr n t l) H0 A L :=
  so_any hw rfl hdn hm fun hD H hH => by
    refine ⟨.string ⟨⟨[]⟩⟩, H, H0, A, L, .inl ?_, hH, hD, h⟩
    simp only [aop, opv_ok hx, aconv, hs, hd, he]
end

/-! ### bytes -/
def byteV (b : UInt8) : Value := .int .u8 (b.toNat : Int)
theorem abytes_of (l : List UInt8) : abytes (l.map byteV) = some l := by
  induction l with
  | nil => rfl
  | cons b l ih => simp [abytes, byteV, ih]
theorem allOne_bytes (l : List UInt8) : allOne (l.map byteV) = true := by
  induction l with
  | nil => rfl
  | cons b l ih => simp [allOne, byteV, ih, Value.oneCell']
theorem u8_wrap (n : Nat) : IntKind.u8.wrap (n : Int) = ((n % 256 : Nat) : Int) := by
  have e : IntKind.u8.wrap (n : Int) = (n : Int) % 256 := rfl
  rw [e]; omega
theorem u8_byte (n : Nat) : ((n % 256 : Nat) : Int) = ((UInt8.ofNat n).toNat : Int) := by simp
theorem u8_wrapB (n : Nat) : IntKind.u8.wrap (n : Int) = ((UInt8.ofNat n).toNat : Int) := by rw [u8_wrap, u8_byte]
theorem wraps_u32n : ∀ n : Int, 0 ≤ n → n < 2 ^ 32 → IntKind.u32.wrap n = n := fun n h0 h1 => by
  have e : IntKind.u32.wrap n = n % 4294967296 := rfl
  rw [e]; omega
theorem wraps_u8n : ∀ n : Int, 0 ≤ n → n < 2 ^ 8 → IntKind.u8.wrap n = n := fun n h0 h1 => by
  have e : IntKind.u8.wrap n = n % 256 := rfl
  rw [e]; omega
theorem wraps_u64n : ∀ n : Int, 0 ≤ n → n < 2 ^ 64 → IntKind.u64.wrap n = n := fun n h0 h1 => by
  have e : IntKind.u64.wrap n = n % 18446744073709551616 := rfl
  rw [e]; omega
theorem shr_nat {x j : Nat} {b : Int} {k : IntKind} (h : min b.toNat k.bits = j) : ((x : Nat) : Int).fdiv (2 ^ (min b.toNat k.bits)) = ((x / 2 ^ j : Nat) : Int) := by
  rw [h, show (2 : Int) ^ j = ((2 ^ j : Nat) : Int) by simp, Int.ofNat_fdiv]
theorem bits_xor_nat (k : IntKind) (j : Nat) (hj : j ≤ k.bits) (hk : ∀ n : Int, 0 ≤ n → n < 2 ^ j → k.wrap n = n) (a b : Nat) (ha : a < 2 ^ j) (hb : b < 2 ^ j) : bits .xor k a b = ((a ^^^ b : Nat) : Int) := by
  have hp : 2 ^ j ≤ 2 ^ k.bits := Nat.pow_le_pow_right (by decide) hj
  have ha' : a % 2 ^ k.bits = a := Nat.mod_eq_of_lt (Nat.lt_of_lt_of_le ha hp)
  have hb' : b % 2 ^ k.bits = b := Nat.mod_eq_of_lt (Nat.lt_of_lt_of_le hb hp)
  have cast : ∀ n : Nat, n < 2 ^ j → ((n : Nat) : Int) < 2 ^ j := fun n h => by exact_mod_cast h
  simp only [bits, BitVec.ofInt_natCast, BitVec.toNat_xor, BitVec.toNat_ofNat, ha', hb']
  exact hk _ (Int.natCast_nonneg _) (cast _ (Nat.xor_lt_two_pow ha hb))
end Go.AM
