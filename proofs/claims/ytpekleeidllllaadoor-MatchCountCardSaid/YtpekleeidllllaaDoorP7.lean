/- How many ways there are, up to a bound. Plain facts. -/
import Derived.Test.YtpekleeidllllaaDoorP5
set_option autoImplicit false
set_option linter.unusedVariables false
namespace Go.V
open Go

def satW (most : BitVec 64) (n : Nat) : BitVec 64 := BitVec.ofNat 64 (min most.toNat n)
theorem satW_nat {most : BitVec 64} {n : Nat} : (satW most n).toNat = min most.toNat n := by
  unfold satW
  rw [BitVec.toNat_ofNat, Nat.mod_eq_of_lt]
  have := most.isLt; omega
theorem satW_0 {most : BitVec 64} : satW most 0 = 0#64 := by apply BitVec.eq_of_toNat_eq; rw [satW_nat]; simp
theorem satW_step {most : BitVec 64} {n c : Nat} : satW most n + satW (most - satW most n) c = satW most (n + c) := by
  apply BitVec.eq_of_toNat_eq
  have h1 := @satW_nat most n
  have hlt := most.isLt
  rw [BitVec.toNat_add, satW_nat, satW_nat, satW_nat, BitVec.toNat_sub, h1]
  omega
theorem satW_full {most : BitVec 64} {n k : Nat} (h : satW most n = most) (hk : n ≤ k) : satW most k = most := by
  apply BitVec.eq_of_toNat_eq
  have := congrArg BitVec.toNat h
  rw [satW_nat] at this ⊢
  omega
theorem satW_none {n : Nat} : satW 0#64 n = 0#64 := by apply BitVec.eq_of_toNat_eq; rw [satW_nat]; simp
theorem satW_one {most : BitVec 64} (h : most ≠ 0#64) : satW most 1 = 1#64 := by
  apply BitVec.eq_of_toNat_eq
  rw [satW_nat]
  have : most.toNat ≠ 0 := fun e => h (BitVec.eq_of_toNat_eq (by rw [e]; rfl))
  show min most.toNat 1 = 1
  omega
theorem satW_ge {most : BitVec 64} {n : Nat} (h : ¬ (satW most n).toNat < most.toNat) : satW most n = most := by
  apply BitVec.eq_of_toNat_eq
  rw [satW_nat] at h ⊢; omega

/-- the ways to go on from d through k places -/
def cntR (rdy : BitVec 64 → BitVec 64) : Nat → BitVec 64 → Nat
  | 0, _ => 1
  | k + 1, d => ((pl (rdy d) 0).map fun a => cntR rdy k (d ||| 1#64 <<< a)).sum
def cntS (rdy : BitVec 64 → BitVec 64) (k : Nat) (d : BitVec 64) (l : List Nat) : Nat := (l.map fun a => cntR rdy k (d ||| 1#64 <<< a)).sum
theorem cntS_nil {rdy : BitVec 64 → BitVec 64} {k : Nat} {d : BitVec 64} : cntS rdy k d [] = 0 := rfl
theorem cntS_app {rdy : BitVec 64 → BitVec 64} {k : Nat} {d : BitVec 64} {l l' : List Nat} : cntS rdy k d (l ++ l') = cntS rdy k d l + cntS rdy k d l' := by unfold cntS; rw [List.map_append, List.sum_append]
theorem cntS_one {rdy : BitVec 64 → BitVec 64} {k a : Nat} {d : BitVec 64} {l : List Nat} : cntS rdy k d (l ++ [a]) = cntS rdy k d l + cntR rdy k (d ||| 1#64 <<< a) := by rw [cntS_app]; simp [cntS]
theorem cntR_succ {rdy : BitVec 64 → BitVec 64} {k : Nat} {d : BitVec 64} : cntR rdy (k + 1) d = cntS rdy k d (pl (rdy d) 0) := rfl
theorem cntR_congr {f g : BitVec 64 → BitVec 64} (h : ∀ d, f d = g d) (k : Nat) (d : BitVec 64) : cntR f k d = cntR g k d := by rw [show f = g from funext h]

/-- the places below a whose bits are in w -/
def plTo (w : BitVec 64) (a : Nat) : List Nat := (List.range a).filter w.getLsbD
theorem plTo_yes {w : BitVec 64} {a : Nat} (h : w.getLsbD a = true) : plTo w (a + 1) = plTo w a ++ [a] := by
  unfold plTo; rw [List.range_succ, List.filter_append]; simp [h]
theorem plTo_no {w : BitVec 64} {a : Nat} (h : w.getLsbD a = false) : plTo w (a + 1) = plTo w a := by
  unfold plTo; rw [List.range_succ, List.filter_append]; simp [h]
theorem plTo_all {w : BitVec 64} {m : Nat} (hm : m ≤ 64) (h : ∀ a, w.getLsbD a = true → a < m) : plTo w m = pl w 0 := (pl_range hm (fun b => Iff.rfl) h).symm
theorem cntS_le {rdy : BitVec 64 → BitVec 64} {k : Nat} {d w : BitVec 64} {a b : Nat} (h : a ≤ b) : cntS rdy k d (plTo w a) ≤ cntS rdy k d (plTo w b) := by
  unfold plTo
  rw [show b = a + (b - a) from by omega, List.range_add, List.filter_append, cntS_app]
  omega
end Go.V
