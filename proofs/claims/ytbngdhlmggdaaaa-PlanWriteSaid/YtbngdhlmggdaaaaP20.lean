/- The length of a word in bits; bytes. -/
import Derived.Test.YtbngdhlmggdaaaaV27
set_option autoImplicit false
set_option linter.unusedVariables false
set_option linter.unusedSimpArgs false
namespace Go.V
open Go Go.RowKit
/-- how many bits a word has, but the zeros ahead -/
def ln (w : BitVec 64) : Nat := if w.toNat = 0 then 0 else Nat.log2 w.toNat + 1
theorem ln_le {w : BitVec 64} {m : Nat} : ln w ≤ m ↔ w.toNat < 2 ^ m := by
  unfold ln
  by_cases h : w.toNat = 0
  · rw [if_pos h, h]; simp [Nat.two_pow_pos]
  · rw [if_neg h]
    constructor
    · intro e; exact (Nat.log2_lt h).1 (by omega)
    · intro e; have := (Nat.log2_lt h).2 e; omega
theorem le_ext2 {a b : Nat} (h : ∀ k, a ≤ k ↔ b ≤ k) : a = b := Nat.le_antisymm ((h b).2 (Nat.le_refl _)) ((h a).1 (Nat.le_refl _))
theorem ln_shr {w : BitVec 64} {k : Nat} (h : 2 ^ k ≤ w.toNat) : ln w = k + ln (w >>> k) := by
  apply le_ext2
  intro m
  rw [ln_le]
  by_cases hm : m < k
  · have : 2 ^ m < 2 ^ k := Nat.pow_lt_pow_right (by omega) hm
    omega
  · have e : 2 ^ m = 2 ^ k * 2 ^ (m - k) := by rw [← Nat.pow_add]; congr 1; omega
    have : (k + ln (w >>> k) ≤ m ↔ ln (w >>> k) ≤ m - k) := by omega
    rw [this, ln_le, BitVec.toNat_ushiftRight, Nat.shiftRight_eq_div_pow, Nat.div_lt_iff_lt_mul (Nat.two_pow_pos k), e, Nat.mul_comm]
theorem ln_64 (w : BitVec 64) : ln w ≤ 64 := ln_le.2 w.isLt
theorem ln_high {w : BitVec 64} {u : Int} (h : 0 ≤ u) : u ≤ (ln w : Int) - 1 ↔ ¬ w >>> u.toNat = 0#64 := by
  have h1 : (u ≤ (ln w : Int) - 1) ↔ ¬ ln w ≤ u.toNat := by omega
  rw [h1, ln_le]
  refine not_congr ?_
  rw [← BitVec.toNat_inj, BitVec.toNat_ushiftRight, Nat.shiftRight_eq_div_pow]
  show _ ↔ _ = 0
  rw [Nat.div_eq_zero_iff]
  have := Nat.two_pow_pos u.toNat
  omega
/-- the table of lengths of bytes -/
def l8 : ByteArray := ⟨((List.range 256).map fun n => UInt8.ofNat (if n = 0 then 0 else Nat.log2 n + 1)).toArray⟩
theorem l8_at {n : Nat} (h : n < 256) : l8[n]? = some (UInt8.ofNat (if n = 0 then 0 else Nat.log2 n + 1)) := by
  show (ByteArray.mk _)[n]? = _
  have hs : l8.size = 256 := by simp [l8, ByteArray.size]
  rw [show (ByteArray.mk ((List.range 256).map fun n => UInt8.ofNat (if n = 0 then 0 else Nat.log2 n + 1)).toArray) = l8 from rfl]
  rw [getElem?_pos l8 n (by rw [hs]; exact h)]
  congr 1
  show l8.data[n]'_ = _
  simp [l8]
theorem wrap_u8 {n : Nat} : IntKind.u8.wrap (n : Int) = ((n % 256 : Nat) : Int) := by
  simp [IntKind.wrap, IntKind.bits, IntKind.signed]
section
variable {T : TypeId → Option VTy} {ρ : Operand → VVal} {H : VHeap} {op : Op}
theorem v_l8 {t : TypeId} {x i : Operand} {s : ByteArray} {w : BitVec 64} {y : VTy} (ho : op = .index t x i) (hx : ρ x = .str s) (hs : s = l8) (hi : ρ i = .int .u8 (IntKind.u8.wrap (w.toNat : Int))) (hy : T t = some y) (hd : y.desc = .string) (hw : w.toNat < 256) : vop T ρ H op = some (.int .u8 (ln w : Nat), H) := by
  subst hs
  rw [ho]
  simp only [vop, hx, hi, vindex, hy, hd]
  rw [wrap_u8, Nat.mod_eq_of_lt hw, if_pos (by omega), Int.toNat_natCast, l8_at hw]
  simp only [Option.map_some]
  congr 1; congr 1; congr 1
  unfold ln
  by_cases h : w.toNat = 0
  · simp [h]
  · simp only [if_neg h]
    have h8 : w.toNat.log2 < 8 := (Nat.log2_lt h).2 hw
    simp only [UInt8.toNat_ofNat']
    rw [Nat.mod_eq_of_lt (by omega)]
end
end Go.V
