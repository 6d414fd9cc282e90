import Derived.Test.YteocbhgdmpdklaaDoorP5
/- Links between places by words: what is reached, the longest way, the list of links. (own work) -/
set_option autoImplicit true
set_option linter.unusedSimpArgs false
set_option linter.unusedVariables false
namespace Go.V
open Go
/-- a link -/
def lk (J : List (BitVec 64)) (a b : Nat) : Bool := (J.getD a 0).getLsbD b
/-- one step down -/
def nxW (J : List (BitVec 64)) (w : BitVec 64) : BitVec 64 := (pl w 0).foldl (fun n a => n ||| J.getD a 0) 0#64
theorem lk_lt {J : List (BitVec 64)} {a b : Nat} (h : lk J a b = true) : b < 64 := BitVec.lt_of_getLsbD h
theorem lk_lt' {J : List (BitVec 64)} {a b : Nat} (h : lk J a b = true) : a < J.length := by
  by_cases ha : a < J.length
  · exact ha
  · unfold lk at h; rw [List.getD_eq_getElem?_getD, List.getElem?_eq_none (by omega)] at h; simp at h
theorem fold_bit {J : List (BitVec 64)} {b : Nat} : ∀ {l : List Nat} {n : BitVec 64}, (l.foldl (fun n a => n ||| J.getD a 0) n).getLsbD b = true ↔ n.getLsbD b = true ∨ ∃ a, a ∈ l ∧ lk J a b = true
  | [], n => by simp
  | a :: l, n => by
    rw [List.foldl_cons, fold_bit, BitVec.getLsbD_or, Bool.or_eq_true]
    constructor
    · rintro ((h | h) | ⟨c, hc, h⟩)
      · exact .inl h
      · exact .inr ⟨a, List.mem_cons_self .., h⟩
      · exact .inr ⟨c, List.mem_cons_of_mem _ hc, h⟩
    · rintro (h | ⟨c, hc, h⟩)
      · exact .inl (.inl h)
      · rcases List.mem_cons.1 hc with rfl | hc
        · exact .inl (.inr h)
        · exact .inr ⟨c, hc, h⟩
theorem nxW_bit {J : List (BitVec 64)} {w : BitVec 64} {b : Nat} : (nxW J w).getLsbD b = true ↔ ∃ a, w.getLsbD a = true ∧ lk J a b = true := by
  unfold nxW
  rw [fold_bit]
  constructor
  · rintro (h | ⟨a, ha, h⟩)
    · simp at h
    · exact ⟨a, (mem_pl.1 ha).2.2, h⟩
  · rintro ⟨a, ha, h⟩
    exact .inr ⟨a, mem_pl.2 ⟨Nat.zero_le _, BitVec.lt_of_getLsbD ha, ha⟩, h⟩
theorem nxW_0 {J : List (BitVec 64)} : nxW J 0#64 = 0#64 := word_zero.2 fun i _ => by
  cases h : (nxW J 0#64).getLsbD i with
  | false => rfl
  | true => obtain ⟨a, ha, _⟩ := nxW_bit.1 h; simp at ha
/-- what is below some place of a set, and the set -/
def spr (J : List (BitVec 64)) (s : BitVec 64) : BitVec 64 := wd fun b => s.getLsbD b || (List.range 64).any fun a => s.getLsbD a && rv (lk J) 64 a b
theorem spr_bit {J : List (BitVec 64)} {s : BitVec 64} {b : Nat} (hb : b < 64) : (spr J s).getLsbD b = true ↔ s.getLsbD b = true ∨ ∃ a, s.getLsbD a = true ∧ rv (lk J) 64 a b = true := by
  unfold spr
  rw [wd_bit]
  simp only [hb, decide_true, Bool.true_and, Bool.or_eq_true, List.any_eq_true, List.mem_range, Bool.and_eq_true]
  constructor
  · rintro (h | ⟨a, _, h⟩)
    · exact .inl h
    · exact .inr ⟨a, h⟩
  · rintro (h | ⟨a, h⟩)
    · exact .inl h
    · exact .inr ⟨a, BitVec.lt_of_getLsbD h.1, h⟩
theorem rv_lt {J : List (BitVec 64)} {a b : Nat} (h : rv (lk J) 64 a b = true) : b < 64 :=
  rv_least (R := fun _ b => b < 64) (fun _ _ h => lk_lt h) (fun _ _ _ _ _ h => h) h
def closedW (J : List (BitVec 64)) (w : BitVec 64) : Prop := ∀ a b, w.getLsbD a = true → lk J a b = true → w.getLsbD b = true
def subW (v w : BitVec 64) : Prop := ∀ a, v.getLsbD a = true → w.getLsbD a = true
theorem subW.ext {v w : BitVec 64} (h : subW v w) (h' : subW w v) : v = w := word_ext fun i _ => by
  cases hv : v.getLsbD i with
  | true => rw [h i hv]
  | false => cases hw : w.getLsbD i with
    | true => rw [h' i hw] at hv; cases hv
    | false => rfl
theorem spr_sub {J : List (BitVec 64)} {s : BitVec 64} : subW s (spr J s) := fun a h => (spr_bit (BitVec.lt_of_getLsbD h)).2 (.inl h)
theorem spr_closed {J : List (BitVec 64)} {s : BitVec 64} : closedW J (spr J s) := by
  intro a b ha h
  have ha' := BitVec.lt_of_getLsbD ha
  refine (spr_bit (lk_lt h)).2 (.inr ?_)
  rcases (spr_bit ha').1 ha with h1 | ⟨c, h1, h2⟩
  · exact ⟨a, h1, rv_mono (Nat.zero_le 64) h⟩
  · exact ⟨c, h1, rv_trans ha' h2 (rv_mono (Nat.zero_le 64) h)⟩
theorem spr_least {J : List (BitVec 64)} {s w : BitVec 64} (h : subW s w) (hc : closedW J w) : subW (spr J s) w := by
  intro b hb
  rcases (spr_bit (BitVec.lt_of_getLsbD hb)).1 hb with h1 | ⟨a, h1, h2⟩
  · exact h b h1
  · exact rv_least (R := fun a b => w.getLsbD a = true → w.getLsbD b = true) (fun a b h ha => hc a b ha h) (fun _ _ _ _ h1 h2 h => h2 (h1 h)) h2 (h a h1)
theorem spr_eq {J : List (BitVec 64)} {s w : BitVec 64} (h : subW s w) (hw : subW w (spr J s)) (hc : closedW J w) : w = spr J s := hw.ext (spr_least h hc)
/-- Spread's loop -/
structure SprI (J : List (BitVec 64)) (s0 s f : BitVec 64) : Prop where
  a : subW s0 s
  b : subW s (spr J s0)
  c : ∀ a b, s.getLsbD a = true → f.getLsbD a = false → lk J a b = true → s.getLsbD b = true
theorem SprI.init {J : List (BitVec 64)} {s : BitVec 64} : SprI J s s s := ⟨fun _ h => h, spr_sub, fun a b h h' => by rw [h] at h'; cases h'⟩
theorem SprI.done {J : List (BitVec 64)} {s0 s : BitVec 64} (h : SprI J s0 s 0#64) : s = spr J s0 := spr_eq h.a h.b fun a b ha hl => h.c a b ha (by simp) hl
theorem SprI.next {J : List (BitVec 64)} {s0 s f : BitVec 64} (hf : subW f s) (h : SprI J s0 s f) : SprI J s0 (s ||| nxW J f) (nxW J f &&& ~~~s) := by
  refine ⟨fun a ha => ?_, fun b hb => ?_, fun a b ha hf' hl => ?_⟩
  · rw [BitVec.getLsbD_or, h.a a ha]; rfl
  · rw [BitVec.getLsbD_or, Bool.or_eq_true] at hb
    rcases hb with hb | hb
    · exact h.b b hb
    · obtain ⟨a, ha, hl⟩ := nxW_bit.1 hb
      exact spr_closed a b (h.b a (hf a ha)) hl
  · rw [BitVec.getLsbD_or, Bool.or_eq_true]
    have ha64 := BitVec.lt_of_getLsbD ha
    by_cases hs : s.getLsbD a = true
    · cases hfa : f.getLsbD a with
      | true => exact .inr (nxW_bit.2 ⟨a, hfa, hl⟩)
      | false => exact .inl (h.c a b hs hfa hl)
    · rw [BitVec.getLsbD_or, Bool.or_eq_true] at ha
      have hn := ha.resolve_left hs
      rw [BitVec.getLsbD_and, BitVec.getLsbD_not, hn, Bool.true_and, decide_eq_true ha64, Bool.true_and] at hf'
      exact absurd (by simpa using hf') hs
def sprM (s f : BitVec 64) : Nat := 2 * (64 - come 64 s) + if f = 0#64 then 0 else 1
theorem come_le (s : BitVec 64) : come 64 s ≤ 64 := by unfold come; exact Nat.le_trans List.countP_le_length (by simp)
theorem come_grow {s t : BitVec 64} (h : subW s t) (hx : ∃ a, t.getLsbD a = true ∧ s.getLsbD a = false) : come 64 s < come 64 t := by
  obtain ⟨a, h1, h2⟩ := hx
  exact countP_lt (fun x _ => h x) ⟨a, List.mem_range.2 (BitVec.lt_of_getLsbD h1), h1, h2⟩
theorem word_ne {w : BitVec 64} (h : w ≠ 0#64) : ∃ a, a < 64 ∧ w.getLsbD a = true := by
  apply Classical.byContradiction
  intro hn
  exact h (word_zero.2 fun i hi => by
    cases hw : w.getLsbD i with
    | false => rfl
    | true => exact absurd ⟨i, hi, hw⟩ hn)
theorem sprM_lt {J : List (BitVec 64)} {s f : BitVec 64} (hf : f ≠ 0#64) : sprM (s ||| nxW J f) (nxW J f &&& ~~~s) < sprM s f := by
  unfold sprM
  have h1 : subW s (s ||| nxW J f) := fun a ha => by rw [BitVec.getLsbD_or, ha]; rfl
  rw [if_neg hf]
  by_cases hn : nxW J f &&& ~~~s = 0#64
  · rw [if_pos hn]
    have : s ||| nxW J f = s := subW.ext (fun a ha => by
      rw [BitVec.getLsbD_or, Bool.or_eq_true] at ha
      exact ha.elim id fun h => andNot_zero.1 hn a (BitVec.lt_of_getLsbD h) h) h1
    rw [this]; omega
  · rw [if_neg hn]
    obtain ⟨a, ha, hb⟩ := word_ne hn
    rw [BitVec.getLsbD_and, BitVec.getLsbD_not, Bool.and_eq_true] at hb
    have := come_grow h1 ⟨a, by rw [BitVec.getLsbD_or, hb.1, Bool.or_true], by simpa [ha] using hb.2⟩
    have := come_le (s ||| nxW J f)
    omega

/-! ### No link leads back -/
structure Rk (J : List (BitVec 64)) : Prop where
  len : J.length = 64
  acy : ∀ a, rv (lk J) 64 a a = false
theorem Rk.ne {J : List (BitVec 64)} (r : Rk J) {a b : Nat} (h : rv (lk J) 64 a b = true) (h2 : rv (lk J) 64 b a = true) : False := by
  have := rv_trans (rv_lt h) h h2
  rw [r.acy a] at this; cases this
def rk0 : List (BitVec 64) := List.replicate 64 0#64
theorem lk_0 {a b : Nat} : lk rk0 a b = false := by
  unfold lk rk0
  rw [List.getD_eq_getElem?_getD, List.getElem?_replicate]
  split <;> simp
theorem Rk.zero : Rk rk0 := ⟨by unfold rk0; simp, fun a => by
  cases h : rv (lk rk0) 64 a a with
  | false => rfl
  | true => exact (rv_least (R := fun _ _ => False) (fun a b h => by rw [lk_0] at h; cases h) (fun _ _ _ _ h _ => h) h).elim⟩
theorem Rk.less {J J' : List (BitVec 64)} (r : Rk J) (hl : J'.length = J.length) (h : ∀ a b, lk J' a b = true → lk J a b = true) : Rk J' := ⟨hl.trans r.len, fun a => by
  cases hr : rv (lk J') 64 a a with
  | false => rfl
  | true =>
    have := rv_least (R := fun a b => rv (lk J) 64 a b = true) (fun a b e => rv_mono (Nat.zero_le 64) (h a b e)) (fun _ _ _ hc h1 h2 => rv_trans hc h1 h2) hr
    rw [r.acy a] at this; cases this⟩
theorem getD_set {J : List (BitVec 64)} {s : Nat} {w : BitVec 64} {a : Nat} (hs : s < J.length) : (J.set s w).getD a 0 = if a = s then w else J.getD a 0 := by
  rw [List.getD_eq_getElem?_getD, List.getElem?_set]
  by_cases h : s = a
  · subst h; rw [if_pos rfl, if_pos hs, if_pos rfl]; rfl
  · rw [if_neg h, if_neg (fun e => h e.symm), List.getD_eq_getElem?_getD]
def lay (J : List (BitVec 64)) (s j : Nat) : List (BitVec 64) := J.set s (J.getD s 0 ||| 1#64 <<< j)
def unl (J : List (BitVec 64)) (s j : Nat) : List (BitVec 64) := J.set s (J.getD s 0 &&& ~~~(1#64 <<< j))
theorem lk_lay {J : List (BitVec 64)} {s j a b : Nat} (hs : s < J.length) (hj : j < 64) : lk (lay J s j) a b = (lk J a b || (decide (a = s) && decide (b = j))) := by
  unfold lk lay
  rw [getD_set hs]
  by_cases h : a = s
  · subst h
    rw [if_pos rfl, or_bit]
    by_cases hb : b = j
    · subst hb; simp [hj]
    · simp [hb]
  · rw [if_neg h]; simp [h]
theorem lk_unl {J : List (BitVec 64)} {s j a b : Nat} (hs : s < J.length) : lk (unl J s j) a b = (lk J a b && !(decide (a = s) && decide (b = j))) := by
  unfold lk unl
  rw [getD_set hs]
  by_cases h : a = s
  · subst h
    rw [if_pos rfl, BitVec.getLsbD_and, BitVec.getLsbD_not, shl_bit]
    by_cases hb : b < 64
    · simp [hb]
    · rw [BitVec.getLsbD_of_ge _ _ (by omega)]; simp
  · rw [if_neg h]; simp [h]
theorem lay_unl {J : List (BitVec 64)} {s j : Nat} (hs : s < J.length) (h : lk J s j = false) : unl (lay J s j) s j = J := by
  have e : (J.getD s 0 ||| 1#64 <<< j) &&& ~~~(1#64 <<< j) = J.getD s 0 := word_ext fun i hi => by
    rw [BitVec.getLsbD_and, BitVec.getLsbD_not, or_bit, shl_bit]
    by_cases hij : i = j
    · subst hij; rw [show (J.getD s 0).getLsbD i = false from h]; simp [hi]
    · simp [hi, hij]
  unfold unl
  rw [show lay J s j = J.set s (J.getD s 0 ||| 1#64 <<< j) from rfl, getD_set hs, if_pos rfl, List.set_set, e]
  apply List.ext_getElem?
  intro i
  rw [List.getElem?_set]
  by_cases hi : s = i
  · subst hi; rw [if_pos rfl, if_pos hs, List.getD_eq_getElem?_getD, List.getElem?_eq_getElem hs]; rfl
  · rw [if_neg hi]
theorem Rk.lay {J : List (BitVec 64)} (r : Rk J) {s j : Nat} (hs : s < 64) (hj : j < 64) (h : (spr J (1#64 <<< j)).getLsbD s = false) : Rk (lay J s j) := by
  have hs' : s < J.length := by rw [r.len]; exact hs
  have h' : ¬ (s = j ∨ rv (lk J) 64 j s = true) := by
    intro hx
    have : (spr J (1#64 <<< j)).getLsbD s = true := (spr_bit hs).2 (hx.elim (fun e => .inl (by rw [shl_bit]; simp [e, hj])) fun e => .inr ⟨j, by rw [shl_bit]; simp [hj], e⟩)
    rw [h] at this; cases this
  refine ⟨by unfold Go.V.lay; rw [List.length_set]; exact r.len, fun a => ?_⟩
  cases hr : rv (lk (Go.V.lay J s j)) 64 a a with
  | false => rfl
  | true =>
    exfalso
    have hR := rv_least (E := lk (Go.V.lay J s j)) (R := fun a b => rv (lk J) 64 a b = true ∨ ((a = s ∨ rv (lk J) 64 a s = true) ∧ (b = j ∨ rv (lk J) 64 j b = true))) (k := 64)
      (fun a b e => by
        rw [lk_lay hs' hj, Bool.or_eq_true, Bool.and_eq_true, decide_eq_true_eq, decide_eq_true_eq] at e
        rcases e with e | ⟨e1, e2⟩
        · exact .inl (rv_mono (Nat.zero_le 64) e)
        · exact .inr ⟨.inl e1, .inl e2⟩)
      (fun a b c hc h1 h2 => by
        rcases h1 with h1 | ⟨h1, h1'⟩ <;> rcases h2 with h2 | ⟨h2, h2'⟩
        · exact .inl (rv_trans hc h1 h2)
        · exact .inr ⟨.inr (h2.elim (fun e => e ▸ h1) fun e => rv_trans hc h1 e), h2'⟩
        · exact .inr ⟨h1, .inr (h1'.elim (fun e => e ▸ h2) fun e => rv_trans hc e h2)⟩
        · exact .inr ⟨h1, h2'⟩) hr
    rcases hR with e | ⟨e1, e2⟩
    · rw [r.acy a] at e; cases e
    · rcases e1 with e1 | e1 <;> rcases e2 with e2 | e2
      · exact h' (.inl (e1.symm.trans e2))
      · exact h' (.inr (e1 ▸ e2))
      · exact h' (.inr (e2 ▸ e1))
      · exact h' (.inr (rv_trans (rv_lt e2) e2 e1))

/-! ### The longest way down -/
def hgt (J : List (BitVec 64)) (a : Nat) : Nat := (List.range 64).countP (rv (lk J) 64 a)
theorem Rk.hgt_lt {J : List (BitVec 64)} (r : Rk J) {a b : Nat} (h : lk J a b = true) : hgt J b < hgt J a := by
  have hab : rv (lk J) 64 a b = true := rv_mono (Nat.zero_le 64) h
  refine countP_lt (fun x _ hx => rv_trans (lk_lt h) hab hx) ⟨b, List.mem_range.2 (lk_lt h), hab, r.acy b⟩
theorem hgt_le {J : List (BitVec 64)} {a : Nat} : hgt J a ≤ 64 := Nat.le_trans List.countP_le_length (by simp)
/-- so many steps may be gone down from a set, and one -/
def dp (J : List (BitVec 64)) : Nat → BitVec 64 → Nat
  | 0, _ => 0
  | k + 1, w => if w = 0#64 then 0 else 1 + dp J k (nxW J w)
theorem Rk.dp_succ {J : List (BitVec 64)} (r : Rk J) : ∀ {k : Nat} {w : BitVec 64}, (∀ a, w.getLsbD a = true → hgt J a < k) → dp J (k + 1) w = dp J k w
  | 0, w, h => by
    have : w = 0#64 := word_zero.2 fun i _ => by
      cases hw : w.getLsbD i with
      | false => rfl
      | true => exact absurd (h i hw) (by omega)
    subst this; rfl
  | k + 1, w, h => by
    have e : dp J (k + 1) (nxW J w) = dp J k (nxW J w) := r.dp_succ fun b hb => by
      obtain ⟨a, ha, hl⟩ := nxW_bit.1 hb
      have := r.hgt_lt hl
      have := h a ha
      omega
    show (if w = 0#64 then 0 else 1 + dp J (k + 1) (nxW J w)) = if w = 0#64 then 0 else 1 + dp J k (nxW J w)
    rw [e]
def dep (J : List (BitVec 64)) (w : BitVec 64) : Nat := dp J 65 w
theorem dep_0 {J : List (BitVec 64)} : dep J 0#64 = 0 := rfl
theorem dep_le {J : List (BitVec 64)} {w : BitVec 64} : dep J w ≤ 65 := by
  have : ∀ (k : Nat) (w : BitVec 64), dp J k w ≤ k := by
    intro k
    induction k with
    | zero => intro w; exact Nat.le_refl _
    | succ k ih => 
      intro w
      have := ih (nxW J w)
      rw [dp]; split <;> omega
  exact this 65 w
theorem Rk.dep_step {J : List (BitVec 64)} (r : Rk J) {w : BitVec 64} (h : w ≠ 0#64) : dep J w = dep J (nxW J w) + 1 := by
  have e : dep J w = 1 + dp J 64 (nxW J w) := by unfold dep; rw [dp, if_neg h]
  have e2 : dep J (nxW J w) = dp J 64 (nxW J w) := r.dp_succ fun b hb => by
    obtain ⟨a, ha, hl⟩ := nxW_bit.1 hb
    have := r.hgt_lt hl
    have := @hgt_le J a
    omega
  rw [e, e2]; omega
theorem nxW_one {J : List (BitVec 64)} {a : Nat} (ha : a < 64) : nxW J (1#64 <<< a) = J.getD a 0 := word_ext fun i _ => by
  have h : (nxW J (1#64 <<< a)).getLsbD i = true ↔ (J.getD a 0).getLsbD i = true := by
    rw [nxW_bit]
    constructor
    · rintro ⟨c, hc, h⟩
      rw [shl_bit, Bool.and_eq_true, decide_eq_true_eq] at hc
      rw [hc.1] at h; exact h
    · intro h; exact ⟨a, by rw [shl_bit]; simp [ha], h⟩
  exact Bool.eq_iff_iff.2 h
theorem one_ne {a : Nat} (ha : a < 64) : (1#64 <<< a : BitVec 64) ≠ 0#64 := by
  intro e
  have := word_zero.1 e a ha
  rw [shl_bit] at this; simp [ha] at this
theorem dp_le_iff {J : List (BitVec 64)} : ∀ {k n : Nat} {w : BitVec 64}, dp J k w ≤ n ↔ ∀ a, w.getLsbD a = true → dp J k (1#64 <<< a) ≤ n
  | 0, n, w => by simp [dp]
  | k + 1, n, w => by
    rw [dp]
    by_cases hw : w = 0#64
    · subst hw; simp
    · rw [if_neg hw]
      cases n with
      | zero =>
        constructor
        · intro h; omega
        · intro h
          obtain ⟨a, ha, hb⟩ := word_ne hw
          have := h a hb
          rw [dp, if_neg (one_ne ha)] at this; omega
      | succ n =>
        have h1 : (1 + dp J k (nxW J w) ≤ n + 1) ↔ dp J k (nxW J w) ≤ n := by omega
        rw [h1, dp_le_iff]
        constructor
        · intro h a ha
          have ha64 := BitVec.lt_of_getLsbD ha
          rw [dp, if_neg (one_ne ha64)]
          have : dp J k (nxW J (1#64 <<< a)) ≤ n := dp_le_iff.2 fun b hb => h b (by
            rw [nxW_one ha64] at hb
            exact nxW_bit.2 ⟨a, ha, hb⟩)
          omega
        · intro h b hb
          obtain ⟨a, ha, hl⟩ := nxW_bit.1 hb
          have ha64 := BitVec.lt_of_getLsbD ha
          have := h a ha
          rw [dp, if_neg (one_ne ha64)] at this
          exact dp_le_iff.1 (by omega : dp J k (nxW J (1#64 <<< a)) ≤ n) b (by rw [nxW_one ha64]; exact hl)
/-- the depth of a place -/
def dpt (J : List (BitVec 64)) (a : Nat) : Nat := dep J (J.getD a 0)
theorem Rk.dpt_one {J : List (BitVec 64)} (r : Rk J) {a : Nat} (ha : a < 64) : dep J (1#64 <<< a) = dpt J a + 1 := by
  rw [r.dep_step (one_ne ha), nxW_one ha]; rfl
theorem Rk.dpt_le {J : List (BitVec 64)} (r : Rk J) {a n : Nat} : dpt J a ≤ n ↔ ∀ b, lk J a b = true → dpt J b + 1 ≤ n := by
  unfold dpt dep
  rw [dp_le_iff]
  constructor
  · intro h b hb
    have := h b hb
    have e := r.dpt_one (lk_lt hb)
    unfold dep at e; rw [e] at this; exact this
  · intro h b hb
    have := h b hb
    have e := r.dpt_one (lk_lt (J := J) (a := a) hb)
    unfold dep at e; rw [e]; exact this
def dptI (J : List (BitVec 64)) (a : Int) : Int := if 0 ≤ a ∧ a < 64 then (dpt J a.toNat : Int) else 0

/-! ### The list of links -/
def lkR (J : List (BitVec 64)) (a : Nat) (l : List Nat) : List (Int × Int) := l.map fun b : Nat => ((a : Int), (b : Int))
def lkTo (J : List (BitVec 64)) (a : Nat) : List (Int × Int) := (List.range a).flatMap fun i => lkR J i (pl (J.getD i 0) 0)
def lkL (J : List (BitVec 64)) : List (Int × Int) := lkTo J 64
theorem lkR_snoc {J : List (BitVec 64)} {a b : Nat} {l : List Nat} : lkR J a (l ++ [b]) = lkR J a l ++ [((a : Int), (b : Int))] := by unfold lkR; simp
theorem lkTo_succ {J : List (BitVec 64)} {a : Nat} : lkTo J (a + 1) = lkTo J a ++ lkR J a (pl (J.getD a 0) 0) := by
  unfold lkTo; rw [List.range_succ, List.flatMap_append]; simp
theorem pl_len' (w : BitVec 64) : (pl w 0).length ≤ 64 := by unfold pl; exact Nat.le_trans (List.length_filter_le _ _) (by simp)
theorem lkTo_len {J : List (BitVec 64)} : ∀ {a : Nat}, (lkTo J a).length ≤ a * 64
  | 0 => by simp [lkTo]
  | a + 1 => by
    rw [lkTo_succ, List.length_append]
    have := @lkTo_len J a
    have := pl_len' (J.getD a 0)
    unfold lkR; rw [List.length_map]; omega
theorem mem_lkTo {J : List (BitVec 64)} {n : Nat} {p : Int × Int} : p ∈ lkTo J n ↔ ∃ a b : Nat, a < n ∧ lk J a b = true ∧ p = ((a : Int), (b : Int)) := by
  unfold lkTo lkR
  simp only [List.mem_flatMap, List.mem_range, List.mem_map]
  constructor
  · rintro ⟨a, ha, b, hb, rfl⟩
    exact ⟨a, b, ha, (mem_pl.1 hb).2.2, rfl⟩
  · rintro ⟨a, b, ha, h, rfl⟩
    exact ⟨a, ha, b, mem_pl.2 ⟨Nat.zero_le _, lk_lt h, h⟩, rfl⟩
theorem Rk.mem_lkL {J : List (BitVec 64)} (r : Rk J) {p : Int × Int} : p ∈ lkL J ↔ ∃ a b : Nat, lk J a b = true ∧ p = ((a : Int), (b : Int)) := by
  unfold lkL
  rw [mem_lkTo]
  constructor
  · rintro ⟨a, b, _, h⟩; exact ⟨a, b, h⟩
  · rintro ⟨a, b, h, e⟩; exact ⟨a, b, by have := lk_lt' h; rw [r.len] at this; exact this, h, e⟩
/-- the best that the law finds in a list of links -/
def bst (J : List (BitVec 64)) (a : Int) (l : List (Int × Int)) : Int := l.foldl (fun m p => if p.1 = a ∧ m < 1 + dptI J p.2 then 1 + dptI J p.2 else m) 0
theorem bst_snoc {J : List (BitVec 64)} {a : Int} {l : List (Int × Int)} {p : Int × Int} : bst J a (l ++ [p]) = if p.1 = a ∧ bst J a l < 1 + dptI J p.2 then 1 + dptI J p.2 else bst J a l := by
  unfold bst; rw [List.foldl_append]; rfl
theorem bst_le {J : List (BitVec 64)} {a : Int} {n : Int} (hn : 0 ≤ n) : ∀ {l : List (Int × Int)}, bst J a l ≤ n ↔ ∀ p, p ∈ l → p.1 = a → 1 + dptI J p.2 ≤ n := by
  intro l
  have : ∀ (l : List (Int × Int)) (m : Int), l.foldl (fun m p => if p.1 = a ∧ m < 1 + dptI J p.2 then 1 + dptI J p.2 else m) m ≤ n ↔ m ≤ n ∧ ∀ p, p ∈ l → p.1 = a → 1 + dptI J p.2 ≤ n := by
    intro l
    induction l with
    | nil => intro m; simp
    | cons q l ih =>
      intro m
      rw [List.foldl_cons, ih]
      constructor
      · rintro ⟨h1, h2⟩
        refine ⟨?_, fun p hp e => ?_⟩
        · split at h1 <;> omega
        · rcases List.mem_cons.1 hp with rfl | hp
          · split at h1 <;> omega
          · exact h2 p hp e
      · rintro ⟨h1, h2⟩
        refine ⟨?_, fun p hp => h2 p (List.mem_cons_of_mem _ hp)⟩
        split
        · rename_i hc; exact h2 q (List.mem_cons_self ..) hc.1
        · exact h1
  unfold bst; rw [this]; simp [hn]
theorem bst_nn {J : List (BitVec 64)} {a : Int} : ∀ {l : List (Int × Int)}, 0 ≤ bst J a l := by
  intro l
  have : ∀ (l : List (Int × Int)) (m : Int), 0 ≤ m → 0 ≤ l.foldl (fun m p => if p.1 = a ∧ m < 1 + dptI J p.2 then 1 + dptI J p.2 else m) m := by
    intro l
    induction l with
    | nil => intro m hm; exact hm
    | cons q l ih => intro m hm; rw [List.foldl_cons]; apply ih; split <;> omega
  exact this l 0 (Int.le_refl 0)
theorem Rk.best {J : List (BitVec 64)} (r : Rk J) {a : Nat} (ha : a < 64) : bst J a (lkL J) = dptI J a := by
  have e : dptI J a = (dpt J a : Int) := by unfold dptI; rw [if_pos (by omega)]; simp
  rw [e]
  apply Int.le_antisymm
  · refine (bst_le (by omega)).2 fun p hp he => ?_
    obtain ⟨c, b, hl, rfl⟩ := r.mem_lkL.1 hp
    have hca : c = a := by simp only at he; omega
    subst hca
    have := (r.dpt_le (a := c) (n := dpt J c)).1 (Nat.le_refl _) b hl
    have hb := lk_lt hl
    show 1 + dptI J (b : Int) ≤ _
    unfold dptI; rw [if_pos (by omega)]
    simp only [Int.toNat_natCast]; omega
  · have hn := @bst_nn J a (lkL J)
    have h0 := (bst_le (J := J) (a := (a : Int)) hn (l := lkL J)).1 (Int.le_refl _)
    have : dpt J a ≤ (bst J a (lkL J)).toNat := r.dpt_le.2 fun b hl => by
      have := h0 ((a : Int), (b : Int)) (r.mem_lkL.2 ⟨a, b, hl, rfl⟩) rfl
      have hb := lk_lt hl
      simp only at this
      unfold dptI at this; rw [if_pos (by omega)] at this
      simp only [Int.toNat_natCast] at this; omega
    omega
/-! ### Reckoning what is below -/
def sprF (J : List (BitVec 64)) : Nat → BitVec 64 → BitVec 64 → Option (BitVec 64)
  | 0, _, _ => none
  | k + 1, s, f => if f = 0#64 then some s else sprF J k (s ||| nxW J f) (nxW J f &&& ~~~s)
theorem spr_run {J : List (BitVec 64)} {s0 : BitVec 64} : ∀ {k : Nat} {s f w : BitVec 64}, SprI J s0 s f → subW f s → sprF J k s f = some w → spr J s0 = w
  | 0, s, f, w, _, _, h => by cases h
  | k + 1, s, f, w, hS, hf, h => by
    rw [sprF] at h
    by_cases h0 : f = 0#64
    · rw [if_pos h0] at h; subst h0; cases h; exact hS.done.symm
    · rw [if_neg h0] at h
      exact spr_run (hS.next hf) (fun a ha => by rw [BitVec.getLsbD_and, Bool.and_eq_true] at ha; rw [BitVec.getLsbD_or, ha.1, Bool.or_true]) h
theorem spr_is {J : List (BitVec 64)} {s w : BitVec 64} (k : Nat) (h : sprF J k s s = some w) : spr J s = w := spr_run SprI.init (fun _ h => h) h
theorem bst_take {J : List (BitVec 64)} {a : Int} {l : List (Int × Int)} {i : Nat} (hi : i < l.length) : bst J a (l.take (i + 1)) = if (l.getD i (0, 0)).1 = a ∧ bst J a (l.take i) < 1 + dptI J (l.getD i (0, 0)).2 then 1 + dptI J (l.getD i (0, 0)).2 else bst J a (l.take i) := by
  rw [List.take_succ_eq_append_getElem hi, bst_snoc, List.getD_eq_getElem?_getD, List.getElem?_eq_getElem hi]; rfl
theorem dptI_le {J : List (BitVec 64)} {a : Int} : 0 ≤ dptI J a ∧ dptI J a ≤ 65 := by
  unfold dptI
  split
  · have := @dep_le J (J.getD a.toNat 0)
    unfold dpt; omega
  · omega
end Go.V
