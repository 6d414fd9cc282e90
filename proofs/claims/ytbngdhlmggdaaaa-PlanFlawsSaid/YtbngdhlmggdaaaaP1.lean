/- Words of 64 bits: the least place, the places rising. Plain facts. -/
import Derived.Test.YtbngdhlmggdaaaaV18
import Derived.Lib.TrailingZeros
set_option autoImplicit false
set_option linter.unusedVariables false
namespace Go.V
open Go

/-- the least place of a word; -1: there is none -/
def nx (w : BitVec 64) : Int := if w = 0#64 then -1 else (Lib.ctz 64 w.toNat : Nat)
/-- the word of all places below i -/
def bel (i : Int) : BitVec 64 := if i ≤ 0 then 0#64 else if 64 ≤ i then ~~~0#64 else 1#64 <<< i.toNat - 1#64

theorem nx_bits (w : BitVec 64) : (w = 0#64 ∧ nx w = -1) ∨ (∃ c : Nat, nx w = c ∧ c < 64 ∧ w.getLsbD c = true ∧ ∀ j, j < c → w.getLsbD j = false) := by
  by_cases h : w = 0#64
  · exact .inl ⟨h, if_pos h⟩
  · right
    have h0 : 0 < w.toNat := by
      rcases Nat.eq_zero_or_pos w.toNat with e | e
      · exact absurd (BitVec.eq_of_toNat_eq (by simpa using e)) h
      · exact e
    obtain ⟨m, h1, h2⟩ := Lib.ctzFrom_spec 64 w.toNat h0 w.isLt
    have hc : Lib.ctz 64 w.toNat = Lib.ctzFrom 64 w.toNat := by unfold Lib.ctz; rw [if_neg (by omega)]
    have hn : nx w = (Lib.ctzFrom 64 w.toNat : Nat) := by unfold nx; rw [if_neg h, hc]
    generalize Lib.ctzFrom 64 w.toNat = c at h1 h2 hn
    refine ⟨c, hn, h2, ?_, fun j hj => ?_⟩
    · rw [← BitVec.testBit_toNat, h1, Nat.testBit_two_pow_mul]
      simp
    · rw [← BitVec.testBit_toNat, h1, Nat.testBit_two_pow_mul]
      simp; omega

theorem bel_bit (k j : Nat) : (bel k).getLsbD j = (decide (j < k) && decide (j < 64)) := by
  unfold bel
  by_cases h0 : (k : Int) ≤ 0
  · rw [if_pos h0]
    have : k = 0 := by omega
    subst this; simp
  · rw [if_neg h0]
    by_cases h1 : (64 : Int) ≤ k
    · rw [if_pos h1]
      rw [BitVec.getLsbD_not]
      by_cases hj : j < 64
      · have : j < k := by omega
        rw [decide_eq_true hj, decide_eq_true this, BitVec.getLsbD_zero]; rfl
      · rw [decide_eq_false hj, Bool.and_false, Bool.false_and]
    · rw [if_neg h1]
      have hk : k < 64 := by omega
      rw [← BitVec.testBit_toNat, BitVec.toNat_sub, BitVec.toNat_shiftLeft]
      have e1 : (1 : Nat) <<< k % 2 ^ 64 = 2 ^ k := by
        rw [Nat.shiftLeft_eq, Nat.one_mul]
        exact Nat.mod_eq_of_lt (Nat.pow_lt_pow_right (by omega) hk)
      have e2 : (2 ^ 64 - (1#64).toNat + 1 <<< k % 2 ^ 64) % 2 ^ 64 = 2 ^ k - 1 := by
        rw [e1]
        have : 0 < 2 ^ k := Nat.two_pow_pos k
        have : 2 ^ k < 2 ^ 64 := Nat.pow_lt_pow_right (by omega) hk
        simp only [BitVec.toNat_ofNat]
        omega
      have e3 : (1#64).toNat <<< (k : Int).toNat = 1 <<< k := by simp
      rw [e3, e2, Nat.testBit_two_pow_sub_one]
      by_cases hj : j < k
      · have : j < 64 := by omega
        simp [hj, this]
      · simp [hj]

/-- the places of a word from k on, rising -/
def pl (w : BitVec 64) (k : Nat) : List Nat := (List.range' k (64 - k)).filter w.getLsbD

theorem pl_step (w : BitVec 64) (k : Nat) : pl w k = if k < 64 then (if w.getLsbD k = true then k :: pl w (k + 1) else pl w (k + 1)) else [] := by
  unfold pl
  by_cases h : k < 64
  · rw [if_pos h]
    have : 64 - k = (64 - (k + 1)) + 1 := by omega
    rw [this, List.range'_succ, List.filter_cons]
  · rw [if_neg h]
    have : 64 - k = 0 := by omega
    rw [this]; rfl

theorem pl_skip (w : BitVec 64) : ∀ (n k : Nat), (∀ j, k ≤ j → j < k + n → w.getLsbD j = false) → pl w k = pl w (k + n)
  | 0, k, _ => rfl
  | n + 1, k, h => by
    rw [pl_step, h k (by omega) (by omega)]
    have := pl_skip w n (k + 1) (fun j h1 h2 => h j (by omega) (by omega))
    rw [this, show k + 1 + n = k + (n + 1) from by omega]
    split
    · rfl
    · rename_i hk
      rw [pl_step, if_neg (by omega)]

theorem pl_next (w : BitVec 64) (k : Nat) : (nx (w &&& ~~~bel k) = -1 ∧ pl w k = []) ∨ (∃ c : Nat, nx (w &&& ~~~bel k) = c ∧ k ≤ c ∧ c < 64 ∧ w.getLsbD c = true ∧ pl w k = c :: pl w (c + 1)) := by
  have hb : ∀ j, j < 64 → (w &&& ~~~bel k).getLsbD j = (w.getLsbD j && decide (k ≤ j)) := by
    intro j hj
    rw [BitVec.getLsbD_and, BitVec.getLsbD_not, bel_bit]
    by_cases h : j < k
    · simp [hj, h, show ¬ k ≤ j from by omega]
    · simp [hj, h, show k ≤ j from by omega]
  rcases nx_bits (w &&& ~~~bel k) with ⟨h1, h2⟩ | ⟨c, h1, h2, h3, h4⟩
  · refine .inl ⟨h2, ?_⟩
    have : ∀ j, k ≤ j → j < k + (64 - k) → w.getLsbD j = false := by
      intro j hj hj2
      by_cases h64 : j < 64
      · have := hb j h64
        rw [h1] at this
        simp [hj] at this
        exact this
      · exact BitVec.getLsbD_of_ge _ _ (by omega)
    rw [pl_skip w _ k this, pl_step, if_neg (by omega)]
  · refine .inr ⟨c, h1, ?_⟩
    rw [hb c h2] at h3
    simp only [Bool.and_eq_true, decide_eq_true_eq] at h3
    refine ⟨h3.2, h2, h3.1, ?_⟩
    have : ∀ j, k ≤ j → j < k + (c - k) → w.getLsbD j = false := by
      intro j hj hj2
      have := h4 j (by omega)
      rw [hb j (by omega)] at this
      simpa [hj] using this
    rw [pl_skip w _ k this, show k + (c - k) = c from by omega, pl_step, if_pos h2, if_pos h3.1]

theorem pl_next' (w : BitVec 64) (k : Nat) : (nx (w &&& ~~~bel k) = -1 ∧ pl w k = []) ∨ ∃ c : Nat, nx (w &&& ~~~bel k) = c ∧ c < 64 ∧ pl w k = c :: pl w (c + 1) := by
  rcases pl_next w k with h | ⟨c, h1, _, h3, _, h5⟩
  · exact .inl h
  · exact .inr ⟨c, h1, h3, h5⟩
end Go.V
