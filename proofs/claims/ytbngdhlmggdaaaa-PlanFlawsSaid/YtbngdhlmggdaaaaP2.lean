/- Words by their places; what is reached. Plain facts. -/
import Derived.Test.YtbngdhlmggdaaaaP1
set_option autoImplicit false
set_option linter.unusedVariables false
namespace Go.V
open Go

/-! ### Words -/
/-- the word of the places below k that p holds of -/
def wdn (p : Nat → Bool) : Nat → BitVec 64
  | 0 => 0#64
  | k + 1 => if p k = true then wdn p k ||| 1#64 <<< k else wdn p k
def wd (p : Nat → Bool) : BitVec 64 := wdn p 64

theorem shl_bit (k i : Nat) : (1#64 <<< k).getLsbD i = (decide (i = k) && decide (i < 64)) := by
  rw [BitVec.getLsbD_shiftLeft]
  by_cases h : i < 64
  · by_cases h1 : i < k
    · simp [h, h1]; omega
    · by_cases h2 : i = k
      · subst h2; simp [h]
      · have : ¬ (i - k = 0) := by omega
        simp [h, h1, h2, this]
  · simp [h]
theorem or_bit (w : BitVec 64) (k i : Nat) : (w ||| 1#64 <<< k).getLsbD i = (w.getLsbD i || (decide (i = k) && decide (i < 64))) := by
  rw [BitVec.getLsbD_or, shl_bit]
theorem wdn_bit (p : Nat → Bool) : ∀ (k i : Nat), (wdn p k).getLsbD i = (decide (i < k) && decide (i < 64) && p i)
  | 0, i => by simp [wdn]
  | k + 1, i => by
    unfold wdn
    split
    · rename_i hp
      rw [or_bit, wdn_bit p k i]
      by_cases h1 : i = k
      · subst h1; simp [hp]
      · by_cases h2 : i < k
        · have h3 : i < k + 1 := by omega
          simp [h1, h2, h3]
        · have h3 : ¬ i < k + 1 := by omega
          simp [h1, h2, h3]
    · rename_i hp
      rw [wdn_bit p k i]
      by_cases h1 : i = k
      · subst h1; simp at hp; simp [hp]
      · by_cases h2 : i < k
        · have h3 : i < k + 1 := by omega
          simp [h2, h3]
        · have h3 : ¬ i < k + 1 := by omega
          simp [h2, h3]
theorem wd_bit (p : Nat → Bool) (i : Nat) : (wd p).getLsbD i = (decide (i < 64) && p i) := by
  unfold wd; rw [wdn_bit]; simp
theorem word_ext {a b : BitVec 64} (h : ∀ i, i < 64 → a.getLsbD i = b.getLsbD i) : a = b := BitVec.eq_of_getLsbD_eq h
theorem wd_eq {p : Nat → Bool} {w : BitVec 64} (h : ∀ i, i < 64 → w.getLsbD i = p i) : w = wd p := word_ext fun i hi => by rw [wd_bit, h i hi]; simp [hi]
theorem wd_congr {p q : Nat → Bool} (h : ∀ i, i < 64 → p i = q i) : wd p = wd q := wd_eq fun i hi => by rw [wd_bit, h i hi]; simp [hi]
theorem wdn_wd (p : Nat → Bool) (k : Nat) : wdn p k = wd fun i => decide (i < k) && p i := wd_eq fun i hi => by rw [wdn_bit]; simp [hi]
theorem andNot_zero {a b : BitVec 64} : a &&& ~~~b = 0#64 ↔ ∀ i, i < 64 → a.getLsbD i = true → b.getLsbD i = true := by
  constructor
  · intro h i hi ha
    have := congrArg (fun w => w.getLsbD i) h
    simp only [BitVec.getLsbD_and, BitVec.getLsbD_not, ha, hi, decide_true, Bool.true_and, BitVec.getLsbD_zero, Bool.not_eq_false'] at this
    exact this
  · intro h
    refine word_ext fun i hi => ?_
    rw [BitVec.getLsbD_and, BitVec.getLsbD_not, BitVec.getLsbD_zero]
    cases ha : a.getLsbD i with
    | false => rfl
    | true => simp [h i hi ha]
theorem and_zero {a b : BitVec 64} : a &&& b = 0#64 ↔ ∀ i, i < 64 → a.getLsbD i = true → b.getLsbD i = false := by
  constructor
  · intro h i hi ha
    have := congrArg (fun w => w.getLsbD i) h
    simpa only [BitVec.getLsbD_and, ha, Bool.true_and, BitVec.getLsbD_zero] using this
  · intro h
    refine word_ext fun i hi => ?_
    rw [BitVec.getLsbD_and, BitVec.getLsbD_zero]
    cases ha : a.getLsbD i with
    | false => rfl
    | true => simp [h i hi ha]
theorem mem_pl {w : BitVec 64} {k c : Nat} : c ∈ pl w k ↔ k ≤ c ∧ c < 64 ∧ w.getLsbD c = true := by
  unfold pl
  rw [List.mem_filter, List.mem_range'_1]
  constructor
  · rintro ⟨⟨h1, h2⟩, h3⟩; exact ⟨h1, by omega, h3⟩
  · rintro ⟨h1, h2, h3⟩; exact ⟨⟨h1, by omega⟩, h3⟩
theorem pl_contains {p : Nat → Bool} {b : Nat} (h : b < 64) : (pl (wd p) 0).contains b = p b := by
  cases hp : p b with
  | true =>
    have : b ∈ pl (wd p) 0 := mem_pl.2 ⟨Nat.zero_le _, h, by rw [wd_bit, hp]; simp [h]⟩
    simpa using this
  | false =>
    have : ¬ b ∈ pl (wd p) 0 := fun hm => by
      have := (mem_pl.1 hm).2.2
      rw [wd_bit, hp] at this; simp at this
    simpa using this
theorem word_zero {a : BitVec 64} : a = 0#64 ↔ ∀ i, i < 64 → a.getLsbD i = false := by
  constructor
  · rintro rfl i _; simp
  · intro h; exact word_ext fun i hi => by rw [h i hi]; simp

/-! ### What is reached: by ways whose places between are below k -/
def rv (E : Nat → Nat → Bool) : Nat → Nat → Nat → Bool
  | 0, a, b => E a b
  | k + 1, a, b => rv E k a b || (rv E k a k && rv E k k b)

theorem rv_row (E : Nat → Nat → Bool) (k b : Nat) : rv E (k + 1) k b = rv E k k b := by
  simp only [rv]; cases rv E k k b <;> simp
theorem rv_col (E : Nat → Nat → Bool) (k a : Nat) : rv E (k + 1) a k = rv E k a k := by
  simp only [rv]; cases rv E k a k <;> simp
theorem rv_step {E : Nat → Nat → Bool} {k a b : Nat} (h : rv E k a b = true) : rv E (k + 1) a b = true := by simp [rv, h]
theorem rv_mono {E : Nat → Nat → Bool} {k m a b : Nat} (h : k ≤ m) (hr : rv E k a b = true) : rv E m a b = true := by
  induction h with
  | refl => exact hr
  | step _ ih => exact rv_step ih

/-- places below k may be put between -/
theorem rv_trans {E : Nat → Nat → Bool} : ∀ {k a b c : Nat}, c < k → rv E k a c = true → rv E k c b = true → rv E k a b = true
  | k + 1, a, b, c, hc, h1, h2 => by
    simp only [rv, Bool.or_eq_true, Bool.and_eq_true] at h1 h2 ⊢
    by_cases hck : c = k
    · subst hck
      right
      refine ⟨?_, ?_⟩
      · rcases h1 with h1 | h1
        · exact h1
        · exact h1.1
      · rcases h2 with h2 | h2
        · exact h2
        · exact h2.2
    · have hlt : c < k := by omega
      rcases h1 with h1 | ⟨h1, h1'⟩ <;> rcases h2 with h2 | ⟨h2, h2'⟩
      · exact .inl (rv_trans hlt h1 h2)
      · exact .inr ⟨rv_trans hlt h1 h2, h2'⟩
      · exact .inr ⟨h1, rv_trans hlt h1' h2⟩
      · exact .inr ⟨h1, h2'⟩

/-- .. the least that may -/
theorem rv_least {E : Nat → Nat → Bool} {R : Nat → Nat → Prop} (hE : ∀ a b, E a b = true → R a b) : ∀ {k : Nat}, (∀ a b c, c < k → R a c → R c b → R a b) → ∀ {a b : Nat}, rv E k a b = true → R a b
  | 0, _, a, b, h => hE a b h
  | k + 1, hT, a, b, h => by
    simp only [rv, Bool.or_eq_true, Bool.and_eq_true] at h
    have hT' : ∀ a b c, c < k → R a c → R c b → R a b := fun a b c hc => hT a b c (by omega)
    rcases h with h | ⟨h1, h2⟩
    · exact rv_least hE hT' h
    · exact hT a b k (by omega) (rv_least hE hT' h1) (rv_least hE hT' h2)
end Go.V
