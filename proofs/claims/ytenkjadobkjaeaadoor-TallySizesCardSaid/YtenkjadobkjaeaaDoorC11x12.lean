/- Proved: Rows.TallySizesCardSaid, the statement TallySizes with its card, of the given program at the commit; no conditions beyond those in the statement. -/
import Derived.Test.YtenkjadobkjaeaaDoorC11x11
set_option autoImplicit true
set_option linter.unusedSimpArgs false
set_option linter.unusedVariables false
namespace Go.V
open Go
abbrev less (s i : Nat) : Nat := s ^^^ 2 ^ i
theorem less_bit {s i : Nat} (h : s.testBit i = true) (j : Nat) : (less s i).testBit j = (s.testBit j && decide (j ≠ i)) := by
  unfold less
  rw [Nat.testBit_xor, Nat.testBit_two_pow]
  by_cases e : j = i
  · subst e; rw [h]; simp
  · have : ¬ i = j := fun x => e x.symm
    simp [e, this]
theorem bits_lt {x y a : Nat} (hx : x.testBit a = false) (hy : y.testBit a = true) (h : ∀ j, a < j → x.testBit j = y.testBit j) : x < y := by
  have e : x / 2 ^ (a + 1) = y / 2 ^ (a + 1) := Nat.eq_of_testBit_eq fun i => by
    rw [Nat.testBit_div_two_pow, Nat.testBit_div_two_pow]; exact h (i + (a + 1)) (by omega)
  rw [Nat.testBit_eq_decide_div_mod_eq, decide_eq_false_iff_not] at hx
  rw [Nat.testBit_eq_decide_div_mod_eq, decide_eq_true_eq] at hy
  rw [Nat.pow_succ, ← Nat.div_div_eq_div_mul, ← Nat.div_div_eq_div_mul] at e
  have h1 : x / 2 ^ a < y / 2 ^ a := by omega
  apply Classical.byContradiction
  intro hn
  have := Nat.div_le_div_right (c := 2 ^ a) (show y ≤ x by omega)
  omega
theorem less_lt {s i : Nat} (h : s.testBit i = true) : less s i < s := bits_lt (a := i) (by rw [less_bit h]; simp) h fun j hj => by
  rw [less_bit h]
  have : j ≠ i := by omega
  simp [this]
def wS (rows : List (BitVec 64)) (u s : Nat) : Nat := cnI rows u (idx rows.length s) 0#64
def wP (rows : List (BitVec 64)) (u s : Nat) : Nat → Nat
  | 0 => wS rows u s
  | k + 1 => if s.testBit k = true ∧ (rows.getD k 0).getLsbD u = true then wP rows u s k + wS rows u (less s k) else wP rows u s k
theorem wP_sum {rows : List (BitVec 64)} {u s : Nat} : ∀ {k : Nat}, wP rows u s k = wS rows u s + (((List.range k).filter fun i => s.testBit i && (rows.getD i 0).getLsbD u).map fun i => wS rows u (less s i)).sum
  | 0 => rfl
  | k + 1 => by
    rw [wP, List.range_succ, List.filter_append, List.map_append, List.sum_append, wP_sum (k := k)]
    by_cases h : s.testBit k = true ∧ (rows.getD k 0).getLsbD u = true
    · rw [if_pos h]
      have : [k].filter (fun i => s.testBit i && (rows.getD i 0).getLsbD u) = [k] := by rw [List.filter_cons, if_pos (by rw [h.1, h.2]; rfl)]; rfl
      rw [this]; simp; omega
    · rw [if_neg h]
      have : [k].filter (fun i => s.testBit i && (rows.getD i 0).getLsbD u) = [] := by
        rw [List.filter_eq_nil_iff]
        intro i hi
        rw [List.mem_singleton.1 hi, Bool.and_eq_true]; exact h
      rw [this]; simp
theorem wP_all {rows : List (BitVec 64)} {u s : Nat} (hu : u < 64) : wP rows u s rows.length = wS rows (u + 1) s := by
  rw [wP_sum]
  unfold wS
  rw [cI_step hu idx_nodup (by simp)]
  congr 1
  unfold idx
  rw [List.filter_filter]
  have hf : (List.range rows.length).filter (fun i => s.testBit i && (rows.getD i 0).getLsbD u) = (List.range rows.length).filter (fun i => (rows.getD i 0).getLsbD u && s.testBit i) := by
    apply List.filter_congr
    intro i _
    rw [Bool.and_comm]
  rw [hf]
  congr 1
  apply List.map_congr_left
  intro i hi
  have hb := (List.mem_filter.1 hi).2
  rw [Bool.and_eq_true] at hb
  have := idx_erase (n := rows.length) (s := s) (i := i) (s' := less s i) (less_bit hb.2)
  unfold idx at this
  rw [this]
theorem wS_0 {rows : List (BitVec 64)} {u : Nat} : wS rows u 0 = 1 := by
  unfold wS idx
  have : (List.range rows.length).filter (Nat.testBit 0) = [] := List.filter_eq_nil_iff.2 fun i _ => by simp
  rw [this]; rfl
theorem wS_start {rows : List (BitVec 64)} {s : Nat} (hs : s < 2 ^ rows.length) : wS rows 0 s = if s = 0 then 1 else 0 := by
  by_cases h : s = 0
  · subst h; rw [if_pos rfl, wS_0]
  · rw [if_neg h]
    unfold wS
    cases hi : idx rows.length s with
    | nil =>
      exfalso
      apply h
      apply Nat.eq_of_testBit_eq
      intro i
      rw [Nat.zero_testBit]
      by_cases hin : i < rows.length
      · cases hb : s.testBit i with
        | false => rfl
        | true =>
          have : i ∈ idx rows.length s := List.mem_filter.2 ⟨List.mem_range.2 hin, hb⟩
          rw [hi] at this; cases this
      · exact Nat.testBit_lt_two_pow (Nat.lt_of_lt_of_le hs (Nat.pow_le_pow_right (by decide) (by omega)))
    | cons i L =>
      rw [cnI]
      have : ((pl (rows.getD i 0 &&& ~~~0#64) 0).filter fun v => decide (v < 0)) = [] := List.filter_eq_nil_iff.2 fun v _ => by simp
      rw [this]; rfl
theorem wS_end {rows : List (BitVec 64)} : wS rows 64 (2 ^ rows.length - 1) = cnT rows 0#64 := by
  unfold wS
  rw [cI_64]
  have h1 : idx rows.length (2 ^ rows.length - 1) = List.range rows.length := List.filter_eq_self.2 fun i hi => by
    rw [Nat.testBit_two_pow_sub_one]; simpa using hi
  rw [h1]
  congr 1
  apply List.ext_getElem (by simp)
  intro i h2 h3
  simp [List.getD_eq_getElem?_getD, h3]
def wayL (n : Nat) (f : Nat → BitVec 64) : List (BitVec 64) := (List.range (2 ^ n)).map f
theorem wayL_len {n : Nat} {f : Nat → BitVec 64} : (wayL n f).length = 2 ^ n := by unfold wayL; simp
theorem wayL_get {n s : Nat} {f : Nat → BitVec 64} (h : s < 2 ^ n) : (wayL n f).getD s 0 = f s := by
  unfold wayL
  rw [List.getD_eq_getElem?_getD, List.getElem?_map, List.getElem?_range h]; rfl
theorem wayL_set {n s : Nat} {f g : Nat → BitVec 64} {v : BitVec 64} (h1 : g s = v) (h2 : ∀ s', s' < 2 ^ n → s' ≠ s → g s' = f s') : (wayL n f).set s v = wayL n g := by
  apply List.ext_getElem?
  intro i
  unfold wayL
  rw [List.getElem?_set, List.length_map, List.length_range, List.getElem?_map, List.getElem?_map]
  by_cases hi : i < 2 ^ n
  · rw [List.getElem?_range hi]
    by_cases e : s = i
    · subst e; rw [if_pos rfl, if_pos hi, ← h1]; rfl
    · rw [if_neg e]
      show some (f i) = some (g i)
      rw [h2 i hi (fun x => e x.symm)]
  · rw [List.getElem?_eq_none (by simpa using hi)]
    by_cases e : s = i
    · subst e; rw [if_pos rfl, if_neg hi]; rfl
    · rw [if_neg e]; rfl
theorem wayL_congr {n : Nat} {f g : Nat → BitVec 64} (h : ∀ s, s < 2 ^ n → f s = g s) : wayL n f = wayL n g := by
  unfold wayL
  apply List.map_congr_left
  intro s hs
  exact h s (List.mem_range.1 hs)
def wF (rows : List (BitVec 64)) (most : BitVec 64) (u s k : Nat) (s' : Nat) : BitVec 64 := Z7 most (if s < s' then wS rows (u + 1) s' else if s' = s then wP rows u s k else wS rows u s')
def wU (rows : List (BitVec 64)) (most : BitVec 64) (u s' : Nat) : BitVec 64 := Z7 most (wS rows u s')
theorem sat_add {most : BitVec 64} {a b : Nat} (hm : most.toNat ≤ 65536) : (if (most.toNat : Int) < ((Z7 most a + Z7 most b).toNat : Int) then (most.toNat : Int) else ((Z7 most a + Z7 most b).toNat : Int)) = ((Z7 most (a + b)).toNat : Int) := by
  have h : (Z7 most a + Z7 most b).toNat = min most.toNat a + min most.toNat b := by
    rw [BitVec.toNat_add, Yv, Yv]; omega
  rw [h, Yv]; split <;> omega
open Go
variable {ws : List (BitVec 64)} {rs : List Rul}
def cnA (ws : List (BitVec 64)) (a : List Nat) : Nat := cnT (Yb ws a a.length) 0#64
theorem sat_more {M : BitVec 64} {s c : Nat} (hM : M.toNat ≤ 65536) : Z7 M s + Z7 (Z7 (M - Z7 M s) 65536) c = Z7 M (s + c) := by
  have e : Z7 (M - Z7 M s) 65536 = M - Z7 M s := by
    apply BitVec.eq_of_toNat_eq
    rw [Yv]
    have h1 : (Z7 M s).toNat ≤ M.toNat := by rw [Yv]; omega
    rw [BitVec.toNat_sub_of_le h1]; omega
  rw [e]; exact satW_step
open Go
variable {ws : List (BitVec 64)} {rs : List Rul}
def liK (ws : List (BitVec 64)) (a : List Nat) (l : List (BitVec 64)) (b k : Nat) : List (BitVec 64) := (List.range l.length).map fun i => if a.getD i 0 < b ∨ (a.getD i 0 = b ∧ i < k) then l.getD i 0 ||| frW (Yb ws a a.length) (a.getD i 0) else l.getD i 0
theorem YI : (liK ws a l b k).length = l.length := by unfold liK; simp
theorem liK_get {i : Nat} (h : i < l.length) : (liK ws a l b k).getD i 0 = if a.getD i 0 < b ∨ (a.getD i 0 = b ∧ i < k) then l.getD i 0 ||| frW (Yb ws a a.length) (a.getD i 0) else l.getD i 0 := by
  unfold liK; simp [List.getD_eq_getElem?_getD, h]
theorem list_ext_D {l m : List (BitVec 64)} (h : l.length = m.length) (he : ∀ i, i < l.length → l.getD i 0 = m.getD i 0) : l = m := by
  apply List.ext_getElem h
  intro i h1 h2
  have := he i h1
  simpa [List.getD_eq_getElem?_getD, h1, h2] using this
theorem liK_0 : liK ws a l 0 0 = l := by
  refine list_ext_D YI fun i hi => ?_
  rw [YI] at hi
  rw [liK_get hi, if_neg (by omega)]
theorem liK_next {n : Nat} (hn : n = l.length) : liK ws a l b n = liK ws a l (b + 1) 0 := by
  refine list_ext_D (by rw [YI, YI]) fun i hi => ?_
  rw [YI] at hi
  rw [liK_get hi, liK_get hi]
  by_cases h : a.getD i 0 < b + 1
  · rw [if_pos (by omega), if_pos (.inl h)]
  · rw [if_neg (by omega), if_neg (by omega)]
theorem liK_set {k : Nat} (hk : k < l.length) (h : a.getD k 0 = b) : (liK ws a l b k).set k ((liK ws a l b k).getD k 0 ||| frW (Yb ws a a.length) b) = liK ws a l b (k + 1) := by
  refine list_ext_D (by rw [List.length_set, YI, YI]) fun i hi => ?_
  rw [List.length_set, YI] at hi
  rw [liK_get hi]
  by_cases e : i = k
  · subst e
    rw [show ((liK ws a l b i).set i ((liK ws a l b i).getD i 0 ||| frW (Yb ws a a.length) b)).getD i 0 = (liK ws a l b i).getD i 0 ||| frW (Yb ws a a.length) b by simp [List.getD_eq_getElem?_getD, YI, hi], liK_get hi, if_neg (by omega), if_pos (by omega), h]
  · rw [show ((liK ws a l b k).set k ((liK ws a l b k).getD k 0 ||| frW (Yb ws a a.length) b)).getD i 0 = (liK ws a l b k).getD i 0 by simp [List.getD_eq_getElem?_getD, List.getElem?_set, Ne.symm e], liK_get hi]
    have e3 : (a.getD i 0 < b ∨ a.getD i 0 = b ∧ i < k) ↔ (a.getD i 0 < b ∨ a.getD i 0 = b ∧ i < k + 1) := by omega
    simp only [e3]
theorem liK_same {k : Nat} (h : ¬ a.getD k 0 = b) : liK ws a l b k = liK ws a l b (k + 1) := by
  refine list_ext_D (by rw [YI, YI]) fun i hi => ?_
  rw [YI] at hi
  rw [liK_get hi, liK_get hi]
  have e3 : (a.getD i 0 < b ∨ a.getD i 0 = b ∧ i < k) ↔ (a.getD i 0 < b ∨ a.getD i 0 = b ∧ i < k + 1) := by
    constructor
    · rintro (h1 | h1); exact .inl h1; exact .inr (by omega)
    · rintro (h1 | ⟨h1, h2⟩)
      · exact .inl h1
      · refine .inr ⟨h1, ?_⟩
        have : i ≠ k := fun e => h (e ▸ h1)
        omega
  simp only [e3]
def liU (ws : List (BitVec 64)) (a : List Nat) (l : List (BitVec 64)) : List (BitVec 64) := liK ws a l (szP a a.length) 0
theorem liU_len : (liU ws a l).length = l.length := YI
def liF (ws : List (BitVec 64)) : List (List Nat) → List (BitVec 64) → List (BitVec 64)
  | [], l => l
  | a :: r, l => if liU ws a l = ws then ws else liF ws r (liU ws a l)
theorem liF_hit (h : liU ws a l = ws) : liF ws (a :: r) l = ws := by rw [liF, if_pos h]
theorem liF_on (h : ¬ liU ws a l = ws) : liF ws (a :: r) l = liF ws r (liU ws a l) := by rw [liF, if_neg h]
theorem liF_len : ∀ {r : List (List Nat)} {l : List (BitVec 64)}, l.length = ws.length → (liF ws r l).length = ws.length
  | [], l, h => h
  | a :: r, l, h => by
    by_cases e : liU ws a l = ws
    · rw [liF_hit e]
    · rw [liF_on e]; exact liF_len (by rw [liU_len]; exact h)
end Go.V
