/- Rows of words; Warshall's way by rows. Plain facts. -/
import Derived.Test.YtbngdhlmggdaaaaP2
set_option autoImplicit false
set_option linter.unusedVariables false
namespace Go.V
open Go

theorem rmap_getD {α : Type} {m i : Nat} {f : Nat → α} {d : α} (h : i < m) : ((List.range m).map f).getD i d = f i := by
  simp [List.getD_eq_getElem?_getD, h]
theorem rmap_set {α : Type} {m a : Nat} {f : Nat → α} {v : α} : ((List.range m).map f).set a v = (List.range m).map fun i => if i = a then v else f i := by
  apply List.ext_getElem?
  intro i
  rw [List.getElem?_set]
  by_cases h : a = i
  · subst h
    by_cases hm : a < m <;> simp [hm]
  · have h' : ¬ i = a := fun e => h e.symm
    by_cases hm : i < m <;> simp [hm, h, h']
theorem rmap_congr {α : Type} {m : Nat} {f g : Nat → α} (h : ∀ i, i < m → f i = g i) : (List.range m).map f = (List.range m).map g :=
  List.map_congr_left fun i hi => h i (List.mem_range.1 hi)
theorem rmap_len {α : Type} {m : Nat} {f : Nat → α} : ((List.range m).map f).length = m := by simp

theorem wd_or {p q : Nat → Bool} : wd p ||| wd q = wd fun i => p i || q i := wd_eq fun i hi => by rw [BitVec.getLsbD_or, wd_bit, wd_bit]; simp [hi]
theorem wd_orShl {p : Nat → Bool} {k : Nat} : wd p ||| 1#64 <<< k = wd fun i => p i || decide (i = k) := wd_eq fun i hi => by rw [or_bit, wd_bit]; simp [hi]

section
variable (E : Nat → Nat → Bool)
/-- the rows as phase k has come to row a -/
def mixR (k a m : Nat) : List (BitVec 64) := (List.range m).map fun i => wd (if i < a then rv E (k + 1) i else rv E k i)
def rowsR (k m : Nat) : List (BitVec 64) := (List.range m).map fun i => wd (rv E k i)
variable {E}
theorem mix0 {k m : Nat} : mixR E k 0 m = rowsR E k m := rmap_congr fun i _ => by simp
theorem mixEnd {k m : Nat} : mixR E k m m = rowsR E (k + 1) m := rmap_congr fun i hi => by simp [hi]
theorem mix_len {k a m : Nat} : (mixR E k a m).length = m := by simp [mixR]
theorem rowsR_len {k m : Nat} : (rowsR E k m).length = m := by simp [rowsR]
theorem mix_row {k a m : Nat} (h : a < m) : (mixR E k a m).getD a 0 = wd (rv E k a) := by
  unfold mixR; rw [rmap_getD h]; simp
theorem mix_via {k a m : Nat} (h : k < m) : (mixR E k a m).getD k 0 = wd (rv E k k) := by
  unfold mixR; rw [rmap_getD h]
  split
  · exact wd_congr fun i _ => rv_row E k i
  · rfl
theorem mix_yes {k a m : Nat} (ha : a < m) (hk : k < m) (h : (wd (rv E k a)).getLsbD k = true) : (mixR E k a m).set a ((mixR E k a m).getD a 0 ||| (mixR E k a m).getD k 0) = mixR E k (a + 1) m := by
  rw [mix_row ha, mix_via hk, wd_or]
  rw [wd_bit] at h
  simp only [Bool.and_eq_true, decide_eq_true_eq] at h
  unfold mixR
  rw [rmap_set]
  refine rmap_congr fun i hi => ?_
  by_cases h1 : i = a
  · subst h1
    rw [if_pos rfl, if_pos (by omega)]
    refine wd_congr fun b _ => ?_
    simp [rv, h.2]
  · rw [if_neg h1]
    by_cases h2 : i < a
    · rw [if_pos h2, if_pos (by omega)]
    · rw [if_neg h2, if_neg (by omega)]
theorem mix_no {k a m : Nat} (ha : a < m) (hk : k < 64) (h : (wd (rv E k a)).getLsbD k = false) : mixR E k a m = mixR E k (a + 1) m := by
  rw [wd_bit] at h
  have h : rv E k a k = false := by simpa [hk] using h
  unfold mixR
  refine rmap_congr fun i hi => ?_
  by_cases h1 : i = a
  · subst h1
    rw [if_neg (by omega), if_pos (by omega)]
    refine wd_congr fun b _ => ?_
    simp [rv, h]
  · by_cases h2 : i < a
    · rw [if_pos h2, if_pos (by omega)]
    · rw [if_neg h2, if_neg (by omega)]
end

/-! pairs of places -/
def edg (l : List (Int × Int)) (a b : Nat) : Bool := l.any fun p => p.1 == (a : Int) && p.2 == (b : Int)
def inR (n : Int) (p : Int × Int) : Bool := decide (0 ≤ p.1 ∧ p.1 < n) && decide (0 ≤ p.2 ∧ p.2 < n)
def iniR (l : List (Int × Int)) (m : Nat) : List (BitVec 64) := (List.range m).map fun a => wd (edg l a)
theorem ini_len {l : List (Int × Int)} {m : Nat} : (iniR l m).length = m := by simp [iniR]
theorem ini_nil {m : Nat} : iniR [] m = List.replicate m 0#64 := by
  unfold iniR
  rw [show (fun a => wd (edg [] a)) = fun _ => 0#64 from by
    funext a
    exact word_ext fun i hi => by rw [wd_bit]; simp [edg]]
  rw [List.map_const', List.length_range]
theorem ini_step {l : List (Int × Int)} {m : Nat} {p : Int × Int} (h : inR m p = true) (hm : m ≤ 64) : (iniR l m).set p.1.toNat ((iniR l m).getD p.1.toNat 0 ||| 1#64 <<< p.2.toNat) = iniR (l ++ [p]) m := by
  simp only [inR, Bool.and_eq_true, decide_eq_true_eq] at h
  unfold iniR
  rw [rmap_getD (by omega), wd_orShl, rmap_set]
  refine rmap_congr fun i hi => ?_
  by_cases h1 : i = p.1.toNat
  · rw [if_pos h1, h1]
    refine wd_congr fun b hb => ?_
    simp only [edg, List.any_append, List.any_cons, List.any_nil, Bool.or_false]
    congr 1
    have : (p.1 == ((p.1.toNat : Nat) : Int)) = true := by simp; omega
    rw [this, Bool.true_and]
    by_cases h2 : b = p.2.toNat
    · subst h2; simp; omega
    · have : ¬ p.2 = (b : Int) := by omega
      simp [h2, this]
  · rw [if_neg h1]
    refine wd_congr fun b hb => ?_
    have : ¬ p.1 = (i : Int) := by omega
    simp [edg, this]

/-- who reaches whom, by pairs of m places -/
def rch (l : List (Int × Int)) (m : Nat) : Nat → Nat → Bool := rv (edg l) m
def sucL (l : List (Int × Int)) (m : Nat) : List (BitVec 64) := rowsR (edg l) m m
def preL (l : List (Int × Int)) (m : Nat) : List (BitVec 64) := (List.range m).map fun b => wd fun a => decide (a < m) && rch l m a b
theorem rows0 {l : List (Int × Int)} {m : Nat} : rowsR (edg l) 0 m = iniR l m := rfl

/-- the rows of those ahead, as all rows below a have been gone through, and of row a the places in pre -/
def preM (R : Nat → Nat → Bool) (a : Nat) (pre : List Nat) (m : Nat) : List (BitVec 64) := (List.range m).map fun b => wd fun i => (decide (i < a) && R i b) || (decide (i = a) && pre.contains b)
theorem preM_len {R : Nat → Nat → Bool} {a m : Nat} {pre : List Nat} : (preM R a pre m).length = m := by simp [preM]
theorem preM_0 {R : Nat → Nat → Bool} {m : Nat} : preM R 0 [] m = List.replicate m 0#64 := by
  unfold preM
  rw [show (fun b => wd fun i => (decide (i < 0) && R i b) || (decide (i = 0) && ([] : List Nat).contains b)) = fun _ => 0#64 from by
    funext b
    exact word_ext fun i hi => by rw [wd_bit]; simp]
  rw [List.map_const', List.length_range]
theorem preM_put {R : Nat → Nat → Bool} {a m b : Nat} {pre : List Nat} (hb : b < m) (ha : a < 64) : (preM R a pre m).set b ((preM R a pre m).getD b 0 ||| 1#64 <<< a) = preM R a (pre ++ [b]) m := by
  unfold preM
  rw [rmap_getD hb, wd_orShl, rmap_set]
  refine rmap_congr fun i hi => ?_
  by_cases h : i = b
  · subst h
    rw [if_pos rfl]
    refine wd_congr fun j hj => ?_
    by_cases hja : j = a
    · subst hja; simp
    · simp [hja]
  · rw [if_neg h]
    refine wd_congr fun j hj => ?_
    have : (pre ++ [b]).contains i = pre.contains i := by simp [h]
    rw [this]
theorem preM_next {R : Nat → Nat → Bool} {a m : Nat} {pre : List Nat} (h : ∀ b, b < m → pre.contains b = R a b) : preM R a pre m = preM R (a + 1) [] m := by
  unfold preM
  refine rmap_congr fun b hb => wd_congr fun i hi => ?_
  rw [h b hb]
  by_cases h1 : i = a
  · subst h1; simp
  · by_cases h2 : i < a
    · have : i < a + 1 := by omega
      simp [h1, h2, this]
    · have : ¬ i < a + 1 := by omega
      simp [h1, h2, this]
theorem preM_end {l : List (Int × Int)} {m : Nat} : preM (rch l m) m [] m = preL l m := by
  unfold preM preL
  exact rmap_congr fun b hb => wd_congr fun i hi => by simp

theorem edg_range {l : List (Int × Int)} {m a b : Nat} (hl : ∀ p, p ∈ l → inR m p = true) (h : edg l a b = true) : a < m ∧ b < m := by
  simp only [edg, List.any_eq_true, Bool.and_eq_true, beq_iff_eq] at h
  obtain ⟨p, hp, h1, h2⟩ := h
  have := hl p hp
  simp only [inR, Bool.and_eq_true, decide_eq_true_eq] at this
  omega
theorem rv_range {E : Nat → Nat → Bool} {m : Nat} (hE : ∀ a b, E a b = true → a < m ∧ b < m) : ∀ {k a b : Nat}, rv E k a b = true → a < m ∧ b < m
  | 0, a, b, h => hE a b h
  | k + 1, a, b, h => by
    simp only [rv, Bool.or_eq_true, Bool.and_eq_true] at h
    rcases h with h | ⟨h1, h2⟩
    · exact rv_range hE h
    · exact ⟨(rv_range hE h1).1, (rv_range hE h2).2⟩
theorem rch_range {l : List (Int × Int)} {m a b : Nat} (hl : ∀ p, p ∈ l → inR m p = true) (h : rch l m a b = true) : a < m ∧ b < m := rv_range (fun a b => edg_range hl) h
theorem sucL_len {l : List (Int × Int)} {m : Nat} : (sucL l m).length = m := rowsR_len
theorem preL_len {l : List (Int × Int)} {m : Nat} : (preL l m).length = m := by simp [preL]
theorem sucL_get {l : List (Int × Int)} {m a : Nat} (h : a < m) : (sucL l m).getD a 0 = wd (rch l m a) := by unfold sucL rowsR; rw [rmap_getD h]; rfl
theorem preL_get {l : List (Int × Int)} {m b : Nat} (h : b < m) : (preL l m).getD b 0 = wd fun a => decide (a < m) && rch l m a b := by unfold preL; rw [rmap_getD h]
end Go.V
