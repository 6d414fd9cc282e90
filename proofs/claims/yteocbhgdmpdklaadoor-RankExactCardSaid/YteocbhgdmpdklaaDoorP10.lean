import Derived.Test.YteocbhgdmpdklaaDoorP8
/- Links: going down them round by round; taking a place's links away; how many bits a word has. (own work) -/
set_option autoImplicit true
set_option linter.unusedSimpArgs false
set_option linter.unusedVariables false
namespace Go.V
open Go
/-! ### Round by round -/
def stepW (w : BitVec 64) (p : Int × Int) : BitVec 64 := if w.getLsbD p.1.toNat = true then w ||| 1#64 <<< p.2.toNat else w
def passW (l : List (Int × Int)) (w : BitVec 64) : BitVec 64 := l.foldl stepW w
def rndW (l : List (Int × Int)) (w : BitVec 64) : Nat → BitVec 64
  | 0 => w
  | k + 1 => passW l (rndW l w k)
theorem passW_take {l : List (Int × Int)} {w : BitVec 64} {i : Nat} (hi : i < l.length) : passW (l.take (i + 1)) w = stepW (passW (l.take i) w) (l.getD i (0, 0)) := by
  unfold passW
  rw [List.take_succ_eq_append_getElem hi, List.foldl_append, List.getD_eq_getElem?_getD, List.getElem?_eq_getElem hi]; rfl
theorem stepW_sub {w : BitVec 64} {p : Int × Int} : subW w (stepW w p) := fun a h => by
  unfold stepW; split
  · rw [or_bit, h]; rfl
  · exact h
theorem passW_sub : ∀ {l : List (Int × Int)} {w : BitVec 64}, subW w (passW l w)
  | [], w => fun _ h => h
  | p :: l, w => fun a h => passW_sub (l := l) a (stepW_sub a h)
theorem stepW_in {w t : BitVec 64} {p : Int × Int} (h : subW w t) (hc : t.getLsbD p.1.toNat = true → t.getLsbD p.2.toNat = true) : subW (stepW w p) t := fun a ha => by
  unfold stepW at ha; split at ha
  · rename_i hw
    rw [or_bit, Bool.or_eq_true, Bool.and_eq_true, decide_eq_true_eq] at ha
    rcases ha with ha | ⟨rfl, _⟩
    · exact h a ha
    · exact hc (h _ hw)
  · exact h a ha
theorem passW_in : ∀ {l : List (Int × Int)} {w t : BitVec 64}, subW w t → (∀ p, p ∈ l → t.getLsbD p.1.toNat = true → t.getLsbD p.2.toNat = true) → subW (passW l w) t
  | [], w, t, h, _ => h
  | p :: l, w, t, h, hc => passW_in (l := l) (stepW_in h (hc p (List.mem_cons_self ..))) fun q hq => hc q (List.mem_cons_of_mem _ hq)
/-- where a pass changes nothing, all is closed -/
theorem passW_fix : ∀ {l : List (Int × Int)} {w : BitVec 64}, (∀ p, p ∈ l → p.2.toNat < 64) → passW l w = w → ∀ p, p ∈ l → w.getLsbD p.1.toNat = true → w.getLsbD p.2.toNat = true
  | [], w, _, _, p, hp, _ => by cases hp
  | q :: l, w, hl, h, p, hp, hw => by
    have h1 : stepW w q = w := subW.ext (fun a ha => by rw [← h]; exact passW_sub (l := l) a ha) stepW_sub
    rcases List.mem_cons.1 hp with rfl | hp
    · rw [← h1]; unfold stepW; rw [if_pos hw, or_bit]
      simp [hl p (List.mem_cons_self ..)]
    · have h2 : passW l w = w := by
        have : passW (q :: l) w = passW l (stepW w q) := rfl
        rw [h1, h] at this; exact this.symm
      exact passW_fix (fun r hr => hl r (List.mem_cons_of_mem _ hr)) h2 p hp hw
theorem Rk.lnk_lt {J : List (BitVec 64)} (r : Rk J) {p : Int × Int} (h : p ∈ lkL J) : 0 ≤ p.1 ∧ p.1 < 64 ∧ 0 ≤ p.2 ∧ p.2 < 64 ∧ lk J p.1.toNat p.2.toNat = true := by
  obtain ⟨a, b, hl, rfl⟩ := r.mem_lkL.1 h
  have h1 := lk_lt hl
  have h2 := lk_lt' hl
  rw [r.len] at h2
  refine ⟨?_, ?_, ?_, ?_, ?_⟩ <;> simp only [Int.toNat_natCast] <;> first | omega | exact hl
theorem Rk.lnk_closed {J : List (BitVec 64)} (r : Rk J) {w : BitVec 64} : closedW J w ↔ ∀ p, p ∈ lkL J → w.getLsbD p.1.toNat = true → w.getLsbD p.2.toNat = true := by
  constructor
  · intro h p hp hw; exact h _ _ hw (r.lnk_lt hp).2.2.2.2
  · intro h a b ha hl
    exact h ((a : Int), (b : Int)) (r.mem_lkL.2 ⟨a, b, hl, rfl⟩) ha
theorem rnd_sub {l : List (Int × Int)} {w : BitVec 64} : ∀ {k : Nat}, subW w (rndW l w k)
  | 0 => fun _ h => h
  | k + 1 => fun a h => passW_sub a (rnd_sub (k := k) a h)
theorem Rk.rnd {J : List (BitVec 64)} (r : Rk J) {w : BitVec 64} (hw : w ≠ 0#64) : rndW (lkL J) w 64 = spr J w := by
  have h64 : ∀ p, p ∈ lkL J → p.2.toNat < 64 := fun p hp => by have := r.lnk_lt hp; omega
  have hin : ∀ k, subW (rndW (lkL J) w k) (spr J w) := by
    intro k
    induction k with
    | zero => exact spr_sub
    | succ k ih => exact passW_in ih (r.lnk_closed.1 spr_closed)
  have hgo : ∀ k, closedW J (rndW (lkL J) w k) ∨ k + 1 ≤ come 64 (rndW (lkL J) w k) := by
    intro k
    induction k with
    | zero =>
      right
      obtain ⟨a, ha, hb⟩ := word_ne hw
      have := come_grow (s := 0#64) (t := w) (fun _ h => by simp at h) ⟨a, hb, by simp⟩
      rw [come_0] at this; exact this
    | succ k ih =>
      by_cases hf : passW (lkL J) (rndW (lkL J) w k) = rndW (lkL J) w k
      · left
        show closedW J (passW (lkL J) (rndW (lkL J) w k))
        rw [hf]
        exact r.lnk_closed.2 (passW_fix h64 hf)
      · right
        have hc : ¬ closedW J (rndW (lkL J) w k) := fun hc => hf (subW.ext (passW_in (fun _ h => h) (r.lnk_closed.1 hc)) passW_sub)
        have h1 := ih.resolve_left hc
        have : ∃ a, (passW (lkL J) (rndW (lkL J) w k)).getLsbD a = true ∧ (rndW (lkL J) w k).getLsbD a = false := by
          apply Classical.byContradiction
          intro hn
          refine hf (subW.ext (fun a ha => ?_) passW_sub)
          cases hb : (rndW (lkL J) w k).getLsbD a with
          | true => rfl
          | false => exact absurd ⟨a, ha, hb⟩ hn
        have := come_grow passW_sub this
        show _ ≤ come 64 (passW (lkL J) (rndW (lkL J) w k))
        omega
  rcases hgo 64 with h | h
  · exact spr_eq rnd_sub (hin 64) h
  · have := come_le (rndW (lkL J) w 64); omega
/-- in order, none twice -/
def lexP (p q : Int × Int) : Prop := p.1 < q.1 ∨ p.1 = q.1 ∧ p.2 < q.2
theorem pl_rise (w : BitVec 64) : (pl w 0).Pairwise (· < ·) := by
  unfold pl
  exact List.Pairwise.filter _ (List.pairwise_lt_range' ..)
theorem lkTo_rise {J : List (BitVec 64)} : ∀ {n : Nat}, (lkTo J n).Pairwise lexP
  | 0 => by rw [show lkTo J 0 = [] from rfl]; exact .nil
  | n + 1 => by
    rw [lkTo_succ, List.pairwise_append]
    refine ⟨lkTo_rise, ?_, fun p hp q hq => ?_⟩
    · unfold lkR
      rw [List.pairwise_map]
      exact (pl_rise _).imp fun h => .inr ⟨rfl, by simp only; omega⟩
    · obtain ⟨a, b, ha, _, rfl⟩ := mem_lkTo.1 hp
      unfold lkR at hq
      obtain ⟨c, _, rfl⟩ := List.mem_map.1 hq
      left; simp only; omega
theorem lkL_at {J : List (BitVec 64)} {i : Nat} (h : i + 1 < (lkL J).length) : lexP ((lkL J).getD i (0, 0)) ((lkL J).getD (i + 1) (0, 0)) := by
  have := List.pairwise_iff_getElem.1 (lkTo_rise (J := J) (n := 64)) i (i + 1) (by exact Nat.lt_of_succ_lt h) h (by omega)
  rw [List.getD_eq_getElem?_getD, List.getD_eq_getElem?_getD, List.getElem?_eq_getElem (Nat.lt_of_succ_lt h), List.getElem?_eq_getElem h]
  exact this
theorem getD_mem {α : Type} {l : List α} {i : Nat} {d : α} (h : i < l.length) : l.getD i d ∈ l := by
  rw [List.getD_eq_getElem?_getD, List.getElem?_eq_getElem h]; exact List.getElem_mem h
/-- what a set's places have together -/
theorem spr_or {J : List (BitVec 64)} {s t : BitVec 64} : spr J (s ||| t) = spr J s ||| spr J t := word_ext fun i hi => by
  rw [Bool.eq_iff_iff, spr_bit hi, BitVec.getLsbD_or, BitVec.getLsbD_or, Bool.or_eq_true, Bool.or_eq_true, spr_bit hi, spr_bit hi]
  constructor
  · rintro ((h | h) | ⟨a, h, h2⟩)
    · exact .inl (.inl h)
    · exact .inr (.inl h)
    · rw [BitVec.getLsbD_or, Bool.or_eq_true] at h
      exact h.elim (fun h => .inl (.inr ⟨a, h, h2⟩)) fun h => .inr (.inr ⟨a, h, h2⟩)
  · rintro ((h | ⟨a, h, h2⟩) | (h | ⟨a, h, h2⟩))
    · exact .inl (.inl h)
    · exact .inr ⟨a, by rw [BitVec.getLsbD_or, h]; rfl, h2⟩
    · exact .inl (.inr h)
    · exact .inr ⟨a, by rw [BitVec.getLsbD_or, h, Bool.or_true], h2⟩
theorem spr_0 {J : List (BitVec 64)} : spr J 0#64 = 0#64 := (spr_eq (fun _ h => h) spr_sub fun a b h => by simp at h).symm
/-- every third place below k -/
def th3 : Nat → BitVec 64
  | 0 => 0#64
  | k + 1 => if k % 3 = 0 then th3 k ||| 1#64 <<< k else th3 k
theorem th3_all : th3 64 = 0x9249249249249249#64 := by decide +kernel
theorem Rk.spr_2 {J : List (BitVec 64)} (r : Rk J) {a b : Nat} (ha : a < 64) (hb : b < 64) (hne : b ≠ a) (h1 : (spr J (1#64 <<< a)).getLsbD b = true) (h2 : (spr J (1#64 <<< b)).getLsbD a = true) : False := by
  have e : ∀ {x y : Nat}, x < 64 → y < 64 → y ≠ x → (spr J (1#64 <<< x)).getLsbD y = true → rv (lk J) 64 x y = true := fun {x y} hx hy hne h => by
    rcases (spr_bit hy).1 h with h | ⟨c, h, h3⟩
    · rw [shl_bit, Bool.and_eq_true, decide_eq_true_eq] at h; exact absurd h.1 hne
    · rw [shl_bit, Bool.and_eq_true, decide_eq_true_eq] at h; rw [← h.1]; exact h3
  exact r.ne (e ha hb hne h1) (e hb ha (Ne.symm hne) h2)

/-! ### Taking a place's links away -/
theorem rk_ext {J K : List (BitVec 64)} (hJ : J.length = 64) (hK : K.length = 64) (h : ∀ a b, lk J a b = lk K a b) : J = K := by
  apply List.ext_getElem (by omega)
  intro i h1 h2
  have : J.getD i 0 = K.getD i 0 := word_ext fun b _ => h i b
  rw [List.getD_eq_getElem?_getD, List.getD_eq_getElem?_getD, List.getElem?_eq_getElem h1, List.getElem?_eq_getElem h2] at this
  exact this
def cntO (J : List (BitVec 64)) (a k : Nat) : Nat := (List.range k).countP fun i => decide (i ≠ a) && lk J i a
theorem cntO_succ {J : List (BitVec 64)} {a k : Nat} : cntO J a (k + 1) = cntO J a k + if (decide (k ≠ a) && lk J k a) = true then 1 else 0 := by
  unfold cntO; rw [List.range_succ, List.countP_append, List.countP_singleton]
theorem pl_one {w : BitVec 64} {a : Nat} (ha : a < 64) : (pl w 0).countP (fun b => decide (b = a)) = if w.getLsbD a = true then 1 else 0 := by
  unfold pl
  rw [List.countP_filter, ← List.range_eq_range']
  have h : ∀ n, (List.range n).countP (fun b => decide (b = a) && w.getLsbD b) = if a < n ∧ w.getLsbD a = true then 1 else 0 := by
    intro n
    induction n with
    | zero => simp
    | succ n ih =>
      rw [List.range_succ, List.countP_append, ih, List.countP_singleton]
      by_cases e : n = a
      · subst e; simp
      · have : (decide (n = a) && w.getLsbD n) = false := by simp [e]
        rw [this]
        by_cases hw : w.getLsbD a = true
        · simp only [hw, and_true, Bool.false_eq_true, if_false, Nat.add_zero]
          by_cases h : a < n
          · rw [if_pos h, if_pos (by omega)]
          · rw [if_neg h, if_neg (by omega)]
        · simp [hw]
  rw [h]; simp [ha]
def isP (a : Nat) (p : Int × Int) : Bool := decide (p.1 = a) || decide (p.2 = a)
theorem lkTo_count {J : List (BitVec 64)} {a : Nat} (ha : a < 64) : ∀ {n : Nat}, (lkTo J n).countP (isP a) = cntO J a n + if a < n then come 64 (J.getD a 0) else 0
  | 0 => by simp [lkTo, cntO]
  | n + 1 => by
    rw [lkTo_succ, List.countP_append, lkTo_count ha, cntO_succ]
    have hrow : (lkR J n (pl (J.getD n 0) 0)).countP (isP a) = if n = a then come 64 (J.getD a 0) else if lk J n a = true then 1 else 0 := by
      unfold lkR
      rw [List.countP_map]
      by_cases e : n = a
      · subst e
        rw [if_pos rfl]
        have : (isP n ∘ fun b : Nat => ((n : Int), (b : Int))) = fun _ => true := by
          funext b; simp [isP]
        rw [this, List.countP_true]
        unfold pl come
        rw [← List.range_eq_range', List.countP_eq_length_filter]
      · rw [if_neg e]
        have : (isP a ∘ fun b : Nat => ((n : Int), (b : Int))) = fun b => decide (b = a) := by
          funext b
          simp only [isP, Function.comp]
          rw [show decide ((n : Int) = a) = false from decide_eq_false (by omega), Bool.false_or]
          exact decide_eq_decide.2 (by omega)
        rw [this, pl_one ha]; rfl
    rw [hrow]
    by_cases e : n = a
    · subst e; simp
    · rw [if_neg e]
      have : (decide (n ≠ a) && lk J n a) = lk J n a := by simp [e]
      rw [this]
      by_cases h1 : a < n
      · rw [if_pos h1, if_pos (show a < n + 1 by omega)]; omega
      · rw [if_neg h1, if_neg (show ¬ a < n + 1 by omega)]; omega
theorem lkTo_filter {J K : List (BitVec 64)} {a : Nat} (h : ∀ x y, lk K x y = (lk J x y && decide (x ≠ a) && decide (y ≠ a))) : ∀ {n : Nat}, lkTo K n = (lkTo J n).filter fun p => !isP a p
  | 0 => rfl
  | n + 1 => by
    rw [lkTo_succ, lkTo_succ, List.filter_append, lkTo_filter h]
    have : lkR K n (pl (K.getD n 0) 0) = (lkR J n (pl (J.getD n 0) 0)).filter fun p => !isP a p := by
      unfold lkR
      rw [List.filter_map]
      congr 1
      unfold pl
      rw [List.filter_filter]
      apply List.filter_congr
      intro b _
      have := h n b
      unfold lk at this
      rw [this]
      simp only [isP, Function.comp]
      rw [show decide ((n : Int) = (a : Int)) = decide (n = a) from decide_eq_decide.2 (by omega), show decide ((b : Int) = (a : Int)) = decide (b = a) from decide_eq_decide.2 (by omega)]
      cases (J.getD n 0).getLsbD b <;> by_cases h1 : n = a <;> by_cases h2 : b = a <;> simp [h1, h2]
    rw [this]
theorem lkTo_lay {J : List (BitVec 64)} {s j : Nat} (hs : s < J.length) (hj : j < 64) (h0 : lk J s j = false) : ∀ {n : Nat}, (lkTo (lay J s j) n).length = (lkTo J n).length + if s < n then 1 else 0
  | 0 => by simp [lkTo]
  | n + 1 => by
    rw [lkTo_succ, lkTo_succ, List.length_append, List.length_append, lkTo_lay hs hj h0]
    have : (lkR (lay J s j) n (pl ((lay J s j).getD n 0) 0)).length = (lkR J n (pl (J.getD n 0) 0)).length + if n = s then 1 else 0 := by
      unfold lkR
      rw [List.length_map, List.length_map]
      unfold pl
      rw [← List.range_eq_range', ← List.countP_eq_length_filter, ← List.countP_eq_length_filter]
      by_cases e : n = s
      · subst e
        rw [if_pos rfl]
        refine countP_set hj h0 ?_ fun i hi hne => ?_
        · have := lk_lay (a := n) (b := j) hs hj; unfold lk at this; rw [this]; simp
        · have := lk_lay (a := n) (b := i) hs hj; unfold lk at this; rw [this]; simp [hne]
      · rw [if_neg e]
        have e2 : (lay J s j).getD n 0 = J.getD n 0 := by unfold lay; rw [getD_set hs, if_neg e]
        rw [e2]; omega
    rw [this]
    by_cases e : n = s
    · subst e; simp; omega
    · by_cases h1 : s < n
      · rw [if_pos h1, if_neg e, if_pos (show s < n + 1 by omega)]; omega
      · rw [if_neg h1, if_neg e, if_neg (show ¬ s < n + 1 by omega)]; omega
end Go.V
