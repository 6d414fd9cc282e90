import Derived.Test.YtbngdhlmggdaaaaV17
/- Rules between steps, problems, what is wrong with a plan: plain. (own work) -/
set_option autoImplicit true
set_option linter.unusedSimpArgs false
set_option linter.unusedVariables false
namespace Go.V
open Go
/-! ### labels -/
def uqA : List Int → List Int → Nat
  | _, [] => 0
  | s, x :: l => (if x ∈ s then 0 else 1) + uqA (s ++ [x]) l
/-- how many unlike ones there are -/
def uq (l : List Int) : Nat := uqA [] l
theorem uqA_app : ∀ (l s : List Int) (x : Int), uqA s (l ++ [x]) = uqA s l + if x ∈ s ++ l then 0 else 1
  | [], s, x => by simp [uqA]
  | y :: l, s, x => by
    rw [List.cons_append, uqA, uqA, uqA_app l (s ++ [y]) x, List.append_assoc]
    simp only [List.singleton_append]; omega
theorem uq_app {l : List Int} {x : Int} : uq (l ++ [x]) = uq l + if x ∈ l then 0 else 1 := by
  unfold uq; rw [uqA_app, List.nil_append]
theorem rev_ind {α : Type} {P : List α → Prop} (h0 : P []) (h1 : ∀ l x, P l → P (l ++ [x])) (l : List α) : P l := by
  have : ∀ k : List α, P k.reverse := by
    intro k
    induction k with
    | nil => exact h0
    | cons x k ih => rw [List.reverse_cons]; exact h1 _ _ ih
  have := this l.reverse
  rwa [List.reverse_reverse] at this
theorem uq_le (l : List Int) : uq l ≤ l.length := by
  refine rev_ind (P := fun l => uq l ≤ l.length) (Nat.zero_le _) (fun l x ih => ?_) l
  rw [uq_app, List.length_append]
  show _ ≤ l.length + 1
  split <;> omega
def mxL : List Nat → Nat
  | [] => 0
  | x :: l => max x (mxL l)
theorem mxL_le {l : List Nat} {k : Nat} : mxL l ≤ k ↔ ∀ x, x ∈ l → x ≤ k := by
  induction l with
  | nil => simp [mxL]
  | cons a l ih => simp only [mxL, List.mem_cons, forall_eq_or_imp, Nat.max_le, ih]
theorem mxL_app (l : List Nat) (x : Nat) : mxL (l ++ [x]) = max (mxL l) x := by
  induction l with
  | nil => simp [mxL]
  | cons a l ih => rw [List.cons_append, mxL, mxL, ih]; omega
/-- how often the most frequent one stands -/
def oft (l : List Int) : Nat := mxL (l.map fun y => l.count y)
theorem oft_le {l : List Int} {k : Nat} : oft l ≤ k ↔ ∀ y, y ∈ l → l.count y ≤ k := by
  unfold oft; rw [mxL_le]
  constructor
  · intro h y hy; exact h _ (List.mem_map.2 ⟨y, hy, rfl⟩)
  · intro h x hx
    obtain ⟨y, hy, rfl⟩ := List.mem_map.1 hx
    exact h y hy
theorem le_ext {a b : Nat} (h : ∀ k, a ≤ k ↔ b ≤ k) : a = b := Nat.le_antisymm ((h b).2 (Nat.le_refl _)) ((h a).1 (Nat.le_refl _))
theorem oft_app {l : List Int} {x : Int} : oft (l ++ [x]) = max (oft l) (l.count x + 1) := by
  apply le_ext
  intro k
  rw [oft_le, Nat.max_le, oft_le]
  have hc : ∀ y, (l ++ [x]).count y = l.count y + if x = y then 1 else 0 := fun y => by
    rw [List.count_append, List.count_singleton]
    by_cases e : x = y <;> simp [e]
  constructor
  · intro h
    refine ⟨fun y hy => ?_, ?_⟩
    · have := h y (List.mem_append_left _ hy); rw [hc] at this; omega
    · have := h x (by simp); rw [hc, if_pos rfl] at this; exact this
  · rintro ⟨h1, h2⟩ y hy
    rw [hc]
    by_cases e : x = y
    · subst e; rw [if_pos rfl]; exact h2
    · rw [if_neg e]
      rcases List.mem_append.1 hy with hy | hy
      · exact h1 y hy
      · rw [List.mem_singleton] at hy; exact absurd hy.symm e
theorem uq_all (l : List Int) : uq l = l.length ↔ oft l ≤ 1 := by
  refine rev_ind (P := fun l => uq l = l.length ↔ oft l ≤ 1) (by simp [uq, uqA, oft, mxL]) (fun l x ih => ?_) l
  rw [uq_app, oft_app, List.length_append]
  have h1 := uq_le l
  show _ = l.length + 1 ↔ _
  by_cases hx : x ∈ l
  · rw [if_pos hx]
    have := List.count_pos_iff.2 hx
    omega
  · rw [if_neg hx]
    have := List.count_eq_zero.2 hx
    omega
/-! ### rules -/
abbrev Rul := Int × Int × List Int × Unit
abbrev Pb := Int × List (BitVec 64) × List Int × List Rul × Unit
abbrev Rul.kind (r : Rul) : Int := r.1
abbrev Rul.k (r : Rul) : Int := r.2.1
abbrev Rul.steps (r : Rul) : List Int := r.2.2.1
abbrev Pb.users (p : Pb) : Int := p.1
abbrev Pb.who (p : Pb) : List (BitVec 64) := p.2.1
abbrev Pb.fixed (p : Pb) : List Int := p.2.2.1
abbrev Pb.rules (p : Pb) : List Rul := p.2.2.2.1
def riseA (n : Int) : Int → List Int → Bool
  | _, [] => true
  | a, s :: l => decide (a < s ∧ s < n) && riseA n s l
/-- the last of them -/
def lst1 (a : Int) : List Int → Int
  | [] => a
  | s :: l => lst1 s l
theorem lst1_app : ∀ (l : List Int) (a s : Int), lst1 a (l ++ [s]) = s
  | [], _, _ => rfl
  | _ :: l, _, s => lst1_app l _ s
theorem riseA_app {n : Int} : ∀ (l : List Int) (a s : Int), riseA n a (l ++ [s]) = (riseA n a l && decide (lst1 a l < s ∧ s < n))
  | [], a, s => by rw [List.nil_append, riseA, riseA, riseA, Bool.and_true, Bool.true_and]; rfl
  | x :: l, a, s => by rw [List.cons_append, riseA, riseA, lst1, riseA_app l x s, Bool.and_assoc]
theorem riseA_split {n : Int} : ∀ (l l2 : List Int) (a : Int), riseA n a (l ++ l2) = (riseA n a l && riseA n (lst1 a l) l2)
  | [], l2, a => by simp [riseA, lst1]
  | x :: l, l2, a => by rw [List.cons_append, riseA, riseA, lst1, riseA_split l l2 x, Bool.and_assoc]
theorem riseA_len {n : Int} : ∀ (l : List Int) (a : Int), riseA n a l = true → l = [] ∨ a + l.length < n
  | [], _, _ => .inl rfl
  | s :: l, a, h => by
    rw [riseA, Bool.and_eq_true, decide_eq_true_eq] at h
    right
    rw [List.length_cons]
    rcases riseA_len l s h.2 with rfl | e
    · simp; omega
    · push_cast; omega
theorem riseA_mem {n : Int} : ∀ (l : List Int) (a : Int), riseA n a l = true → ∀ s, s ∈ l → a < s ∧ s < n
  | [], _, _, s, h => by cases h
  | x :: l, a, h, s, hs => by
    rw [riseA, Bool.and_eq_true, decide_eq_true_eq] at h
    rcases List.mem_cons.1 hs with rfl | hs
    · exact h.1
    · have := riseA_mem l x h.2 s hs; omega
theorem lst1_ge {n : Int} : ∀ (l : List Int) (a : Int), riseA n a l = true → a ≤ lst1 a l
  | [], _, _ => Int.le_refl _
  | x :: l, a, h => by
    rw [riseA, Bool.and_eq_true, decide_eq_true_eq] at h
    have := lst1_ge l x h.2; rw [lst1]; omega
abbrev rise (n : Int) (l : List Int) : Bool := riseA n (-1) l
/-- does its number go with its kind? -/
def knd (r : Rul) : Bool :=
  if r.kind = 1 ∨ r.kind = 2 then decide (r.k = 0 ∧ 2 ≤ r.steps.length)
  else if r.kind = 3 ∨ r.kind = 4 then decide ((1 ≤ r.k ∧ r.k ≤ 999999999) ∧ 1 ≤ r.steps.length)
  else if r.kind = 5 then decide (1 ≤ r.k ∧ r.k ≤ r.steps.length) else false
/-- may it be a rule between n steps? -/
def rck (n : Int) (r : Rul) : Bool := decide (0 ≤ n ∧ n ≤ 12) && (rise n r.steps && knd r)
/-- the labels of the steps, as far as there are labels; how many are to come -/
def lbls (s l : List Int) : List Int := (s.filter fun i : Int => decide (i < l.length)).map fun i : Int => l.getD i.toNat 0
def lft (s l : List Int) : Nat := (s.filter fun i : Int => !decide (i < l.length)).length
theorem lbls_lt {s l : List Int} {i : Int} (h : i < l.length) : lbls (s ++ [i]) l = lbls s l ++ [l.getD i.toNat 0] ∧ lft (s ++ [i]) l = lft s l := by
  simp [lbls, lft, List.filter_append, h]
theorem lbls_ge {s l : List Int} {i : Int} (h : ¬ i < l.length) : lbls (s ++ [i]) l = lbls s l ∧ lft (s ++ [i]) l = lft s l + 1 := by
  have : (l.length : Int) ≤ i := by omega
  simp [lbls, lft, List.filter_append, h, this]
theorem lbls_len (s l : List Int) : (lbls s l).length + lft s l = s.length := by
  refine rev_ind (P := fun s => (lbls s l).length + lft s l = s.length) rfl (fun s i ih => ?_) s
  by_cases h : i < l.length
  · rw [(lbls_lt h).1, (lbls_lt h).2, List.length_append, List.length_append]; simp; omega
  · rw [(lbls_ge h).1, (lbls_ge h).2, List.length_append]; simp; omega
/-- do labels, and those to come, keep the rule? -/
def kp (r : Rul) (L : List Int) (left : Nat) : Bool :=
  if r.kind = 1 then decide (oft L ≤ 1) else if r.kind = 2 then decide (uq L ≤ 1) else if r.kind = 3 then decide ((oft L : Int) ≤ r.k) else if r.kind = 4 then decide ((uq L : Int) ≤ r.k) else decide (r.k ≤ uq L + left)
def kpL (r : Rul) (l : List Int) : Bool := kp r (lbls r.steps l) (lft r.steps l)
/-- do the labels keep the rule? -/
def hld (r : Rul) (l : List Int) : Bool := rck l.length r && kpL r l
/-- can labels of the first steps still be made such that keep it? -/
def erl (r : Rul) (n : Int) (l : List Int) : Bool := rck n r && (decide ((l.length : Int) ≤ n) && kpL r l)
def brk (rs : List Rul) (l : List Int) : List Int := (rs.zipIdx.filter fun x => !hld x.1 l).map fun x => (x.2 : Int)
theorem brk_nil (l : List Int) : brk [] l = [] := rfl
theorem brk_app {rs : List Rul} {r : Rul} {l : List Int} : brk (rs ++ [r]) l = brk rs l ++ if hld r l = true then [] else [(rs.length : Int)] := by
  unfold brk
  rw [List.zipIdx_append, List.filter_append, List.map_append]
  congr 1
  by_cases h : hld r l = true <;> simp [h]
theorem brk_len (rs : List Rul) (l : List Int) : (brk rs l).length ≤ rs.length := by
  unfold brk; rw [List.length_map]
  exact Nat.le_trans (List.length_filter_le _ _) (by rw [List.length_zipIdx]; exact Nat.le_refl _)
/-! ### problems -/
def okW (u f : Int) (w : BitVec 64) : Bool := decide (-1 ≤ f ∧ f < u) && decide (w >>> u.toNat = 0#64)
/-- may it be a problem? -/
def pck (p : Pb) : Int :=
  if 12 < p.who.length ∨ 64 < p.users ∨ 32 < p.rules.length then 2
  else if p.users < 0 ∨ p.fixed.length ≠ p.who.length then 1
  else if ((List.range p.who.length).all fun i => okW p.users (p.fixed.getD i 0) (p.who.getD i 0)) && p.rules.all (rck p.who.length) then 0 else 1
structure Good (p : Pb) : Prop where
  n12 : p.who.length ≤ 12
  u64 : p.users ≤ 64
  r32 : p.rules.length ≤ 32
  u0 : 0 ≤ p.users
  fx : p.fixed.length = p.who.length
  ok : ∀ i, i < p.who.length → okW p.users (p.fixed.getD i 0) (p.who.getD i 0) = true
  ru : ∀ r, r ∈ p.rules → rck p.who.length r = true
theorem pck_good {p : Pb} : pck p = 0 ↔ Good p := by
  unfold pck
  constructor
  · intro h
    split at h
    · omega
    · split at h
      · omega
      · split at h
        · rename_i h1 h2 h3
          rw [Bool.and_eq_true, List.all_eq_true, List.all_eq_true] at h3
          exact ⟨by omega, by omega, by omega, by omega, by omega, fun i hi => h3.1 i (List.mem_range.2 hi), h3.2⟩
        · omega
  · intro g
    have h1 := g.n12; have h2 := g.u64; have h3 := g.r32; have h4 := g.u0; have h5 := g.fx
    rw [if_neg (by omega), if_neg (by omega), if_pos]
    rw [Bool.and_eq_true, List.all_eq_true, List.all_eq_true]
    exact ⟨fun i hi => g.ok i (List.mem_range.1 hi), g.ru⟩
/-- what is wrong with a user for a step -/
def flk (u f : Int) (w : BitVec 64) (x : Int) : Int := if x < 0 ∨ u ≤ x then 2 else if 0 ≤ f ∧ f ≠ x then 3 else if f < 0 ∧ w.getLsbD x.toNat = false then 4 else 0
def flU (p : Pb) (l : List Int) (n : Nat) : List (Int × Int × Int) := (List.range n).flatMap fun i => let k := flk p.users (p.fixed.getD i 0) (p.who.getD i 0) (l.getD i 0); if k = 0 then [] else [(k, (i : Int), 0)]
theorem flU_succ (p : Pb) (l : List Int) (n : Nat) : flU p l (n + 1) = flU p l n ++ (if flk p.users (p.fixed.getD n 0) (p.who.getD n 0) (l.getD n 0) = 0 then [] else [(flk p.users (p.fixed.getD n 0) (p.who.getD n 0) (l.getD n 0), (n : Int), 0)]) := by
  unfold flU; rw [List.range_succ, List.flatMap_append]; simp
theorem flU_len (p : Pb) (l : List Int) (n : Nat) : (flU p l n).length ≤ n := by
  induction n with
  | zero => exact Nat.le_refl _
  | succ n ih => rw [flU_succ, List.length_append]; split <;> simp <;> omega
def flR (b : List Int) : List (Int × Int × Int) := b.map fun i => (5, 0, i)
/-- what is wrong with a plan -/
def flw (p : Pb) (l : List Int) : List (Int × Int × Int) := if l.length ≠ p.who.length then [(1, 0, 0)] else flU p l l.length ++ flR (brk p.rules l)
end Go.V
