/- What the document's orders tell, beside what words tell. Plain facts. -/
import Derived.Test.YteocbhgdmpdklaaDoorP4
set_option autoImplicit false
set_option linter.unusedVariables false
namespace Go.V
open Go

/-- a word made bit by bit -/
def wdP (P : Nat → Bool) (k : Nat) : BitVec 64 := wd fun i => decide (i < k) && P i
theorem wdP_0 (P : Nat → Bool) : wdP P 0 = 0#64 := word_ext fun i _ => by simp [wdP, wd_bit]
theorem wdP_yes {P : Nat → Bool} {k : Nat} (h : P k = true) : wdP P k ||| 1#64 <<< k = wdP P (k + 1) := by
  unfold wdP
  rw [wd_orShl]
  refine wd_congr fun i hi => ?_
  by_cases h1 : i = k
  · subst h1; simp [h]
  · by_cases h2 : i < k
    · have : i < k + 1 := by omega
      simp [h1, h2, this]
    · have : ¬ i < k + 1 := by omega
      simp [h1, h2, this]
theorem wdP_no {P : Nat → Bool} {k : Nat} (h : P k = false) : wdP P k = wdP P (k + 1) := by
  unfold wdP
  refine wd_congr fun i hi => ?_
  by_cases h1 : i = k
  · subst h1; simp [h]
  · by_cases h2 : i < k
    · have : i < k + 1 := by omega
      simp [h2, this]
    · have : ¬ i < k + 1 := by omega
      simp [h2, this]
theorem wdP_bit {P : Nat → Bool} {k i : Nat} (hi : i < 64) : (wdP P k).getLsbD i = (decide (i < k) && P i) := by unfold wdP; rw [wd_bit]; simp [hi]

def bfr (m : Nat) (R : Nat → Nat → Bool) (a b : Int) : Bool := decide (0 ≤ a ∧ a < m) && (decide (0 ≤ b ∧ b < m) && R a.toNat b.toNat)
def prW (m : Nat) (R : Nat → Nat → Bool) (a : Int) : BitVec 64 := wdP (fun i => bfr m R i a) m
def suW (m : Nat) (R : Nat → Nat → Bool) (a : Int) : BitVec 64 := wdP (fun i => bfr m R a i) m
def rdP (m : Nat) (R : Nat → Nat → Bool) (d : BitVec 64) (a : Nat) : Bool := !d.getLsbD a && (prW m R a &&& ~~~d == 0#64)
def rdW (m : Nat) (R : Nat → Nat → Bool) (d : BitVec 64) : BitVec 64 := wdP (rdP m R d) m
def dnA (m : Nat) (R : Nat → Nat → Bool) (s : BitVec 64) (a : Nat) : Bool := !s.getLsbD a || (decide (a < m) && (prW m R a &&& ~~~s == 0#64))
def dnW (m : Nat) (R : Nat → Nat → Bool) (s : BitVec 64) : Bool := (List.range 64).all (dnA m R s)

section
variable {m : Nat} {R : Nat → Nat → Bool} {ps ss : List (BitVec 64)}
theorem Ord.prs (o : Ord m R ps ss) (a : Int) : (if 0 ≤ a ∧ a < ps.length then ps.getD a.toNat 0 else 0) = prW m R a := by
  rw [o.pl]
  refine word_ext fun i hi => ?_
  unfold prW
  rw [wdP_bit hi]
  by_cases h : 0 ≤ a ∧ a < m
  · rw [if_pos h, o.pg _ (by omega)]
    unfold bfr
    rw [decide_eq_true h, Bool.true_and, Int.toNat_natCast]
    cases hR : R i a.toNat with
    | false => simp
    | true => have := (o.rg _ _ hR).1; simp [this]
  · rw [if_neg h]; unfold bfr; rw [decide_eq_false h]; simp
theorem Ord.pr (o : Ord m R ps ss) {a : Nat} (h : a < m) : ps.getD a 0 = prW m R a := by
  rw [← o.prs, if_pos (by rw [o.pl]; omega), Int.toNat_natCast]
theorem Ord.sus (o : Ord m R ps ss) (a : Int) : (if 0 ≤ a ∧ a < ps.length then ss.getD a.toNat 0 else 0) = suW m R a := by
  rw [o.pl]
  refine word_ext fun i hi => ?_
  unfold suW
  rw [wdP_bit hi]
  by_cases h : 0 ≤ a ∧ a < m
  · rw [if_pos h, o.sg _ (by omega)]
    unfold bfr
    rw [decide_eq_true h, Bool.true_and, Int.toNat_natCast]
    cases hR : R a.toNat i with
    | false => simp
    | true => have := (o.rg _ _ hR).2; simp [this]
  · rw [if_neg h]; unfold bfr; rw [decide_eq_false h]; simp
theorem Ord.bf (o : Ord m R ps ss) (a b : Int) : (decide (0 ≤ a ∧ a < ps.length) && (decide (0 ≤ b ∧ b < 64) && (ss.getD a.toNat 0).getLsbD b.toNat)) = bfr m R a b := by
  have hm := o.le
  unfold bfr
  rw [o.pl]
  by_cases h : 0 ≤ a ∧ a < m
  · rw [decide_eq_true h, Bool.true_and, Bool.true_and, o.sg _ (by omega)]
    cases hR : R a.toNat b.toNat with
    | false => simp
    | true =>
      have := (o.rg _ _ hR).2
      by_cases hb : 0 ≤ b
      · rw [decide_eq_true (by omega), decide_eq_true (by omega)]
      · rw [decide_eq_false (by omega), decide_eq_false (by omega)]
  · rw [decide_eq_false h]; simp
theorem Ord.rd (o : Ord m R ps ss) (d : BitVec 64) : readyW ps d = rdW m R d := by
  refine word_ext fun i hi => ?_
  rw [readyW_bit hi, o.pl]
  unfold rdW
  rw [wdP_bit hi]
  by_cases h : i < m
  · rw [o.pr h]; unfold rdP; simp [h, Bool.and_comm]
  · simp [h]
theorem Ord.dn (o : Ord m R ps ss) (s : BitVec 64) : downW ps s = dnW m R s := by
  rw [Bool.eq_iff_iff]
  unfold downW dnW
  rw [List.all_eq_true, List.all_eq_true]
  constructor
  · intro h a ha
    have ha := List.mem_range.1 ha
    unfold dnA
    cases hs : s.getLsbD a with
    | false => rfl
    | true =>
      have := h a (mem_pl.2 ⟨Nat.zero_le _, ha, hs⟩)
      unfold downA at this
      rw [o.pl] at this
      simp only [Bool.and_eq_true, decide_eq_true_eq] at this
      rw [o.pr this.1] at this
      simp [this]
  · intro h a ha
    obtain ⟨_, h1, h2⟩ := mem_pl.1 ha
    have := h a (List.mem_range.2 h1)
    unfold dnA at this
    rw [h2] at this
    simp only [Bool.not_true, Bool.false_or, Bool.and_eq_true, decide_eq_true_eq] at this
    unfold downA
    rw [o.pl, o.pr this.1]; simp [this]
end

/-! ### Pairs with nothing between -/
def cvB (m : Nat) (R : Nat → Nat → Bool) (a b k : Nat) : Bool := R a b && (List.range k).all fun c => !(R a c && R c b)
theorem cvB_0 {m : Nat} {R : Nat → Nat → Bool} {a b : Nat} : cvB m R a b 0 = R a b := by simp [cvB]
theorem cvB_step {m : Nat} {R : Nat → Nat → Bool} {a b k : Nat} (h : cvB m R a b k = true) : cvB m R a b (k + 1) = !(R a k && R k b) := by
  unfold cvB at h ⊢
  rw [List.range_succ, List.all_append]
  simp only [Bool.and_eq_true] at h
  rw [h.1, h.2]; simp
theorem cvB_stop {m : Nat} {R : Nat → Nat → Bool} {a b k n : Nat} (h : cvB m R a b k = false) (hk : k ≤ n) : cvB m R a b n = false := by
  unfold cvB at h ⊢
  cases hR : R a b with
  | false => rfl
  | true =>
    rw [hR, Bool.true_and, List.all_eq_false] at h
    obtain ⟨c, hc, h2⟩ := h
    rw [Bool.true_and, List.all_eq_false]
    exact ⟨c, List.mem_range.2 (by have := List.mem_range.1 hc; omega), h2⟩
def cvRow (m : Nat) (R : Nat → Nat → Bool) (a k : Nat) : List (Int × Int) := ((List.range k).filter fun b => cvB m R a b m).map fun b : Nat => ((a : Int), (b : Int))
def cvTo (m : Nat) (R : Nat → Nat → Bool) (a : Nat) : List (Int × Int) := (List.range a).flatMap fun i => cvRow m R i m
def cvL (m : Nat) (R : Nat → Nat → Bool) : List (Int × Int) := cvTo m R m
theorem cvRow_0 {m : Nat} {R : Nat → Nat → Bool} {a : Nat} : cvRow m R a 0 = [] := rfl
theorem cvRow_yes {m : Nat} {R : Nat → Nat → Bool} {a k : Nat} (h : cvB m R a k m = true) : cvRow m R a (k + 1) = cvRow m R a k ++ [((a : Int), (k : Int))] := by
  unfold cvRow; rw [List.range_succ, List.filter_append, List.map_append]; simp [h]
theorem cvRow_no {m : Nat} {R : Nat → Nat → Bool} {a k : Nat} (h : cvB m R a k m = false) : cvRow m R a (k + 1) = cvRow m R a k := by
  unfold cvRow; rw [List.range_succ, List.filter_append, List.map_append]; simp [h]
theorem cvTo_succ {m : Nat} {R : Nat → Nat → Bool} {a : Nat} : cvTo m R (a + 1) = cvTo m R a ++ cvRow m R a m := by
  unfold cvTo; rw [List.range_succ, List.flatMap_append]; simp
theorem cvRow_len {m : Nat} {R : Nat → Nat → Bool} {a k : Nat} : (cvRow m R a k).length ≤ k := by
  unfold cvRow; rw [List.length_map]; exact Nat.le_trans (List.length_filter_le _ _) (by simp)
theorem cvTo_len {m : Nat} {R : Nat → Nat → Bool} : ∀ {a : Nat}, (cvTo m R a).length ≤ a * m
  | 0 => by simp [cvTo]
  | a + 1 => by
    rw [cvTo_succ, List.length_append, Nat.add_mul]
    have := @cvTo_len m R a
    have := @cvRow_len m R a m
    omega
theorem cv_bound {m : Nat} {R : Nat → Nat → Bool} {a k : Nat} (ha : a ≤ m) (hm : m ≤ 64) (hk : k ≤ m) : (cvTo m R a).length + k ≤ 4160 := by
  have h1 := @cvTo_len m R a
  have h2 : a * m ≤ 64 * 64 := Nat.mul_le_mul (by omega) hm
  omega

/-- the same list, as the program makes it -/
def pcB (ps ss : List (BitVec 64)) (a b : Nat) : Bool := ss.getD a 0 &&& ps.getD b 0 == 0#64
def pcRow (ps ss : List (BitVec 64)) (a : Nat) (l : List Nat) : List (Int × Int) := (l.filter (pcB ps ss a)).map fun b : Nat => ((a : Int), (b : Int))
def pcTo (ps ss : List (BitVec 64)) (a : Nat) : List (Int × Int) := (List.range a).flatMap fun i => pcRow ps ss i (pl (ss.getD i 0) 0)
theorem pcRow_yes {ps ss : List (BitVec 64)} {a b : Nat} {l : List Nat} (h : ss.getD a 0 &&& ps.getD b 0 = 0#64) : pcRow ps ss a (l ++ [b]) = pcRow ps ss a l ++ [((a : Int), (b : Int))] := by
  unfold pcRow; rw [List.filter_append, List.map_append]
  have : pcB ps ss a b = true := by unfold pcB; rw [h]; rfl
  simp [this]
theorem pcRow_no {ps ss : List (BitVec 64)} {a b : Nat} {l : List Nat} (h : ¬ ss.getD a 0 &&& ps.getD b 0 = 0#64) : pcRow ps ss a (l ++ [b]) = pcRow ps ss a l := by
  unfold pcRow; rw [List.filter_append, List.map_append]
  have : pcB ps ss a b = false := by unfold pcB; simpa using h
  simp [this]
theorem pcTo_succ {ps ss : List (BitVec 64)} {a : Nat} : pcTo ps ss (a + 1) = pcTo ps ss a ++ pcRow ps ss a (pl (ss.getD a 0) 0) := by
  unfold pcTo; rw [List.range_succ, List.flatMap_append]; simp
section
variable {m : Nat} {R : Nat → Nat → Bool} {ps ss : List (BitVec 64)}
theorem pl_range {P : Nat → Bool} {w : BitVec 64} (hm : m ≤ 64) (h : ∀ b, w.getLsbD b = true ↔ P b = true) (hP : ∀ b, P b = true → b < m) : pl w 0 = (List.range m).filter P := by
  unfold pl
  rw [show w.getLsbD = P from funext fun b => by rw [Bool.eq_iff_iff]; exact h b]
  rw [← List.range_eq_range', show 64 - 0 = m + (64 - m) from by omega, List.range_add, List.filter_append]
  have e : ((List.range (64 - m)).map fun x => m + x).filter P = [] := List.filter_eq_nil_iff.2 fun b hb => by
    obtain ⟨c, _, rfl⟩ := List.mem_map.1 hb
    intro hp
    have := hP _ hp
    omega
  rw [e, List.append_nil]
theorem Ord.pcv (o : Ord m R ps ss) : pcTo ps ss m = cvL m R := by
  have hm := o.le
  unfold pcTo cvL cvTo
  rw [List.flatMap_def, List.flatMap_def]
  refine congrArg List.flatten (List.map_congr_left fun a ha => ?_)
  have ha := List.mem_range.1 ha
  unfold pcRow cvRow
  congr 1
  rw [pl_range (m := m) (P := R a) hm (fun b => by rw [o.sg a ha]) (fun b hb => (o.rg _ _ hb).2), List.filter_filter]
  refine List.filter_congr fun b hb => ?_
  have hb := List.mem_range.1 hb
  unfold cvB pcB
  rw [Bool.and_comm]
  congr 1
  rw [Bool.eq_iff_iff, beq_iff_eq, and_zero, List.all_eq_true]
  constructor
  · intro h c hc
    have hc := List.mem_range.1 hc
    have := h c (by omega)
    rw [o.sg a ha, o.pg b hb] at this
    cases h1 : R a c with
    | false => rfl
    | true => rw [this h1]; rfl
  · intro h c _ hc
    rw [o.sg a ha] at hc
    have := h c (List.mem_range.2 (o.rg _ _ hc).2)
    rw [o.pg b hb]
    rw [hc] at this
    simpa using this
theorem cvL_len (hm : m ≤ 64) : (cvL m R).length ≤ 4096 := by
  have h1 := @cvTo_len m R m
  have h2 : m * m ≤ 64 * 64 := Nat.mul_le_mul hm hm
  unfold cvL; omega
end
end Go.V
