/- Orders by words: what may come next, what is down. Plain facts. -/
import Derived.Test.YtbngdhlmggdaaaaP3
set_option autoImplicit false
set_option linter.unusedVariables false
set_option linter.unusedSimpArgs false
set_option linter.unusedVariables false
namespace Go.V
open Go

theorem sh0 {d : BitVec 64} {k : Nat} : d >>> k &&& 1#64 = 0#64 ↔ d.getLsbD k = false := by
  have h := bit1 d k
  constructor
  · intro e; rw [e] at h; rw [← h]; decide
  · intro e
    rw [e] at h
    refine word_ext fun i hi => ?_
    rw [BitVec.getLsbD_and, BitVec.getLsbD_ushiftRight]
    by_cases h0 : i = 0
    · subst h0; simp [e]
    · have : (1#64).getLsbD i = false := by
        rw [show (1#64) = 1#64 <<< 0 from by decide, shl_bit]; simp [h0]
      rw [this, Bool.and_false]; simp
theorem sh1 {d : BitVec 64} {k : Nat} : d >>> k &&& 1#64 = 1#64 ↔ d.getLsbD k = true := by
  rw [← bit1 d k]; simp
theorem sh1n {d : BitVec 64} {k : Nat} : ¬ d >>> k &&& 1#64 = 1#64 ↔ d.getLsbD k = false := by
  rw [sh1]; simp

/-- the places below k all of whose words' bits are in d -/
def rdyN (ps : List (BitVec 64)) (d : BitVec 64) (k : Nat) : BitVec 64 := wd fun a => decide (a < k) && (ps.getD a 0 &&& ~~~d == 0#64)
def readyW (ps : List (BitVec 64)) (d : BitVec 64) : BitVec 64 := rdyN ps d ps.length &&& ~~~d
theorem rdyN_0 (ps : List (BitVec 64)) (d : BitVec 64) : rdyN ps d 0 = 0#64 := word_ext fun i _ => by simp [rdyN, wd_bit]
theorem rdyN_yes {ps : List (BitVec 64)} {d : BitVec 64} {k : Nat} (h : ps.getD k 0 &&& ~~~d = 0#64) : rdyN ps d k ||| 1#64 <<< k = rdyN ps d (k + 1) := by
  unfold rdyN
  rw [wd_orShl]
  refine wd_congr fun i hi => ?_
  by_cases h1 : i = k
  · subst h1
    have e : (ps.getD i 0 &&& ~~~d == 0#64) = true := by rw [h]; rfl
    rw [e]; simp
  · by_cases h2 : i < k
    · have : i < k + 1 := by omega
      simp [h1, h2, this]
    · have : ¬ i < k + 1 := by omega
      simp [h1, h2, this]
theorem rdyN_no {ps : List (BitVec 64)} {d : BitVec 64} {k : Nat} (h : ¬ ps.getD k 0 &&& ~~~d = 0#64) : rdyN ps d k = rdyN ps d (k + 1) := by
  unfold rdyN
  refine wd_congr fun i hi => ?_
  by_cases h1 : i = k
  · subst h1
    have : (ps.getD i 0 &&& ~~~d == 0#64) = false := by simpa using h
    simp only [this, Bool.and_false]
  · by_cases h2 : i < k
    · have : i < k + 1 := by omega
      simp [h2, this]
    · have : ¬ i < k + 1 := by omega
      simp [h2, this]
theorem readyW_bit {ps : List (BitVec 64)} {d : BitVec 64} {a : Nat} (ha : a < 64) : (readyW ps d).getLsbD a = (decide (a < ps.length) && (ps.getD a 0 &&& ~~~d == 0#64) && !d.getLsbD a) := by
  unfold readyW rdyN
  rw [BitVec.getLsbD_and, wd_bit, BitVec.getLsbD_not]; simp [ha]

def downA (ps : List (BitVec 64)) (s : BitVec 64) (a : Nat) : Bool := decide (a < ps.length) && (ps.getD a 0 &&& ~~~s == 0#64)
def downW (ps : List (BitVec 64)) (s : BitVec 64) : Bool := (pl s 0).all (downA ps s)
theorem downW_iff {ps : List (BitVec 64)} {s : BitVec 64} : downW ps s = true ↔ ∀ a, a < 64 → s.getLsbD a = true → a < ps.length ∧ ∀ b, b < 64 → (ps.getD a 0).getLsbD b = true → s.getLsbD b = true := by
  unfold downW
  rw [List.all_eq_true]
  constructor
  · intro h a ha hs
    have := h a (mem_pl.2 ⟨Nat.zero_le _, ha, hs⟩)
    simp only [downA, Bool.and_eq_true, decide_eq_true_eq, beq_iff_eq] at this
    exact ⟨this.1, andNot_zero.1 this.2⟩
  · intro h a ha
    obtain ⟨_, h1, h2⟩ := mem_pl.1 ha
    obtain ⟨h3, h4⟩ := h a h1 h2
    simp only [downA, Bool.and_eq_true, decide_eq_true_eq, beq_iff_eq]
    exact ⟨h3, andNot_zero.2 h4⟩

theorem downA_yes {ps : List (BitVec 64)} {s : BitVec 64} {a : Nat} (h : a < ps.length) (h2 : ps.getD a 0 &&& ~~~s = 0#64) : downA ps s a = true := by
  simp only [downA, Bool.and_eq_true, decide_eq_true_eq, beq_iff_eq]; exact ⟨h, h2⟩
theorem downW_no {ps : List (BitVec 64)} {s : BitVec 64} {a : Nat} (hc : a ∈ pl s 0) (h : ¬ (a < ps.length ∧ ps.getD a 0 &&& ~~~s = 0#64)) : downW ps s = false := by
  unfold downW
  rw [List.all_eq_false]
  refine ⟨a, hc, ?_⟩
  simp only [downA, Bool.and_eq_true, decide_eq_true_eq, beq_iff_eq]; exact h

/-! ### Counting -/
theorem countP_lt {α : Type} {p q : α → Bool} : ∀ {l : List α}, (∀ x, x ∈ l → p x = true → q x = true) → (∃ x, x ∈ l ∧ q x = true ∧ p x = false) → l.countP p < l.countP q
  | [], _, ⟨x, hx, _⟩ => by cases hx
  | y :: l, h, ⟨x, hx, h1, h2⟩ => by
    have hle : l.countP p ≤ l.countP q := List.countP_mono_left fun z hz => h z (List.mem_cons_of_mem _ hz)
    rcases List.mem_cons.1 hx with rfl | hx
    · rw [List.countP_cons_of_pos h1, List.countP_cons_of_neg (by simp [h2])]; omega
    · have ih := countP_lt (fun z hz => h z (List.mem_cons_of_mem _ hz)) ⟨x, hx, h1, h2⟩
      rw [List.countP_cons, List.countP_cons]
      have := h y (List.mem_cons_self ..)
      by_cases hp : p y = true
      · simp [hp, this hp]; omega
      · have hp' : p y = false := by simpa using hp
        cases hq : q y <;> simp [hp', hq] <;> omega
theorem countP_set {m a : Nat} {p q : Nat → Bool} (ha : a < m) (h0 : p a = false) (h1 : q a = true) (h : ∀ i, i < m → i ≠ a → p i = q i) : (List.range m).countP q = (List.range m).countP p + 1 := by
  induction m with
  | zero => omega
  | succ m ih =>
    rw [List.range_succ, List.countP_append, List.countP_append, List.countP_singleton, List.countP_singleton]
    by_cases hm : a = m
    · subst hm
      have : (List.range a).countP q = (List.range a).countP p := List.countP_congr fun i hi => by rw [h i (by have := List.mem_range.1 hi; omega) (by have := List.mem_range.1 hi; omega)]
      rw [this, h0, h1]; simp
    · rw [ih (by omega) (fun i hi hne => h i (by omega) hne), h m (by omega) (fun e => hm e.symm)]
      split <;> omega

/-- an order by words -/
structure Ord (m : Nat) (R : Nat → Nat → Bool) (ps ss : List (BitVec 64)) : Prop where
  le : m ≤ 64
  pl : ps.length = m
  sl : ss.length = m
  pg : ∀ a, a < m → ∀ b, (ps.getD a 0).getLsbD b = R b a
  sg : ∀ a, a < m → ∀ b, (ss.getD a 0).getLsbD b = R a b
  rg : ∀ a b, R a b = true → a < m ∧ b < m
  ir : ∀ a, R a a = false
  tr : ∀ a b c, R a b = true → R b c = true → R a c = true
theorem ord_of {l : List (Int × Int)} {m : Nat} (hm : m ≤ 64) (hl : ∀ p, p ∈ l → inR m p = true) (hc : ∀ i, i < m → rch l m i i = false) : Ord m (rch l m) (preL l m) (sucL l m) := by
  have hr : ∀ a b, rch l m a b = true → a < m ∧ b < m := fun a b h => rch_range hl h
  refine ⟨hm, preL_len, sucL_len, fun a ha b => ?_, fun a ha b => ?_, hr, fun a => ?_, fun a b c h1 h2 => rv_trans (hr _ _ h1).2 h1 h2⟩
  · rw [preL_get ha, wd_bit, Bool.eq_iff_iff]
    simp only [Bool.and_eq_true, decide_eq_true_eq]
    exact ⟨fun h => h.2.2, fun h => ⟨by have := hr _ _ h; omega, (hr _ _ h).1, h⟩⟩
  · rw [sucL_get ha, wd_bit, Bool.eq_iff_iff]
    simp only [Bool.and_eq_true, decide_eq_true_eq]
    exact ⟨fun h => h.2, fun h => ⟨by have := hr _ _ h; omega, h⟩⟩
  · by_cases h : a < m
    · exact hc a h
    · cases h2 : rch l m a a with
      | false => rfl
      | true => exact absurd (hr _ _ h2).1 h

section
variable {m : Nat} {R : Nat → Nat → Bool} {ps ss : List (BitVec 64)}
/-- what has come: closed downwards -/
structure Come (m : Nat) (R : Nat → Nat → Bool) (d : BitVec 64) : Prop where
  rg : ∀ a, d.getLsbD a = true → a < m
  dn : ∀ a b, R a b = true → d.getLsbD b = true → d.getLsbD a = true
theorem Come.nil : Come m R 0#64 := ⟨fun a h => by simp at h, fun a b _ h => by simp at h⟩
theorem Ord.pred (o : Ord m R ps ss) {a : Nat} (ha : a < m) {d : BitVec 64} : ps.getD a 0 &&& ~~~d = 0#64 ↔ ∀ b, R b a = true → d.getLsbD b = true := by
  rw [andNot_zero]
  have hm := o.le
  exact ⟨fun h b hb => h b (by have := (o.rg _ _ hb).1; omega) (by rw [o.pg a ha]; exact hb), fun h b _ hb => h b (by rw [o.pg a ha] at hb; exact hb)⟩
theorem Ord.ready (o : Ord m R ps ss) {d : BitVec 64} {a : Nat} : (readyW ps d).getLsbD a = true ↔ a < m ∧ (∀ b, R b a = true → d.getLsbD b = true) ∧ d.getLsbD a = false := by
  have hm := o.le
  by_cases h : a < 64
  · rw [readyW_bit h]
    simp only [Bool.and_eq_true, decide_eq_true_eq, beq_iff_eq, Bool.not_eq_true', o.pl]
    constructor
    · rintro ⟨⟨h1, h2⟩, h3⟩; exact ⟨h1, (o.pred h1).1 h2, h3⟩
    · rintro ⟨h1, h2, h3⟩; exact ⟨⟨h1, (o.pred h1).2 h2⟩, h3⟩
  · constructor
    · intro h2; rw [BitVec.getLsbD_of_ge _ _ (by omega)] at h2; cases h2
    · rintro ⟨h1, _⟩; omega
theorem Ord.down (o : Ord m R ps ss) {d : BitVec 64} : downW ps d = true ↔ Come m R d := by
  have hm := o.le
  rw [downW_iff]
  constructor
  · intro h
    refine ⟨fun a ha => ?_, fun a b hab hb => ?_⟩
    · have h64 : a < 64 := by
        rcases Nat.lt_or_ge a 64 with h1 | h1
        · exact h1
        · rw [BitVec.getLsbD_of_ge _ _ h1] at ha; cases ha
      have := (h a h64 ha).1; rw [o.pl] at this; exact this
    · obtain ⟨h1, h2⟩ := o.rg _ _ hab
      refine (h b (by omega) hb).2 a (by omega) ?_
      rw [o.pg b h2]; exact hab
  · intro c a ha hd
    have := c.rg a hd
    exact ⟨by rw [o.pl]; exact this, fun b _ hb => c.dn b a (by rw [o.pg a this] at hb; exact hb) hd⟩
/-- where not all have come, one may come -/
theorem Ord.some_ready (o : Ord m R ps ss) {d : BitVec 64} (hd : ∃ a, a < m ∧ d.getLsbD a = false) : ∃ a, (readyW ps d).getLsbD a = true := by
  have key : ∀ n a, a < m → d.getLsbD a = false → (List.range m).countP (fun b => R b a && !d.getLsbD b) ≤ n → ∃ a, (readyW ps d).getLsbD a = true := by
    intro n
    induction n with
    | zero =>
      intro a ha hda hn
      refine ⟨a, o.ready.2 ⟨ha, fun b hb => ?_, hda⟩⟩
      cases hbd : d.getLsbD b with
      | true => rfl
      | false =>
        have : 0 < (List.range m).countP (fun b => R b a && !d.getLsbD b) := List.countP_pos_iff.2 ⟨b, List.mem_range.2 (o.rg _ _ hb).1, by simp [hb, hbd]⟩
        omega
    | succ n ih =>
      intro a ha hda hn
      by_cases hex : ∃ b, R b a = true ∧ d.getLsbD b = false
      · obtain ⟨b, hb, hbd⟩ := hex
        refine ih b (o.rg _ _ hb).1 hbd ?_
        have : (List.range m).countP (fun c => R c b && !d.getLsbD c) < (List.range m).countP (fun c => R c a && !d.getLsbD c) := countP_lt (fun c _ h => by
          simp only [Bool.and_eq_true] at h ⊢
          exact ⟨o.tr _ _ _ h.1 hb, h.2⟩) ⟨b, List.mem_range.2 (o.rg _ _ hb).1, by simp [hb, hbd], by simp [o.ir]⟩
        omega
      · refine ⟨a, o.ready.2 ⟨ha, fun b hb => ?_, hda⟩⟩
        cases hbd : d.getLsbD b with
        | true => rfl
        | false => exact absurd ⟨b, hb, hbd⟩ hex
  obtain ⟨a, h1, h2⟩ := hd
  exact key _ a h1 h2 (Nat.le_refl _)
/-- one more has come -/
theorem Come.next (o : Ord m R ps ss) {d : BitVec 64} (c : Come m R d) {a : Nat} (ha : (readyW ps d).getLsbD a = true) : Come m R (d ||| 1#64 <<< a) := by
  obtain ⟨h1, h2, h3⟩ := o.ready.1 ha
  have hm := o.le
  refine ⟨fun b hb => ?_, fun b c2 hbc hc => ?_⟩
  · rw [or_bit] at hb
    rcases Bool.or_eq_true _ _ ▸ hb with h | h
    · exact c.rg b h
    · simp at h; omega
  · rw [or_bit] at hc ⊢
    rcases Bool.or_eq_true _ _ ▸ hc with h | h
    · rw [c.dn b c2 hbc h]; rfl
    · simp only [Bool.and_eq_true, decide_eq_true_eq] at h
      obtain ⟨rfl, _⟩ := h
      rw [h2 b hbc]; rfl
def come (m : Nat) (d : BitVec 64) : Nat := (List.range m).countP d.getLsbD
theorem come_next {d : BitVec 64} {a : Nat} (ha : a < m) (hm : m ≤ 64) (h : d.getLsbD a = false) : come m (d ||| 1#64 <<< a) = come m d + 1 := by
  unfold come
  refine countP_set ha h ?_ fun i hi hne => ?_
  · rw [or_bit]; simp; omega
  · rw [or_bit]; simp [hne]
theorem come_lt {d : BitVec 64} (h : come m d < m) : ∃ a, a < m ∧ d.getLsbD a = false := by
  apply Classical.byContradiction
  intro hn
  have : come m d = (List.range m).length := List.countP_eq_length.2 fun a ha => by
    cases hd : d.getLsbD a with
    | true => rfl
    | false => exact absurd ⟨a, List.mem_range.1 ha, hd⟩ hn
  simp at this; omega
theorem come_all {d : BitVec 64} (h : come m d = m) : ∀ a, a < m → d.getLsbD a = true := by
  have : (List.range m).countP d.getLsbD = (List.range m).length := by simp; exact h
  exact fun a ha => List.countP_eq_length.1 this a (List.mem_range.2 ha)
theorem come_0 : come m 0#64 = 0 := by unfold come; rw [List.countP_eq_zero]; simp
theorem Ord.ready_end (o : Ord m R ps ss) {d : BitVec 64} (h : come m d = m) : readyW ps d = 0#64 := by
  refine word_zero.2 fun i hi => ?_
  cases hr : (readyW ps d).getLsbD i with
  | false => rfl
  | true =>
    obtain ⟨h1, _, h3⟩ := o.ready.1 hr
    rw [come_all h i h1] at h3; cases h3
theorem Ord.ready_and {d : BitVec 64} (o : Ord m R ps ss) : readyW ps d &&& d = 0#64 := and_zero.2 fun i hi h => (o.ready.1 h).2.2
theorem Ord.ready_ne (o : Ord m R ps ss) {d : BitVec 64} (h : come m d < m) : readyW ps d ≠ 0#64 := by
  obtain ⟨a, ha⟩ := o.some_ready (come_lt h)
  intro e; rw [e] at ha; simp at ha
/-- none behind one that may come has come -/
theorem Ord.succ_none (o : Ord m R ps ss) {d : BitVec 64} (c : Come m R d) {a : Nat} (ha : (readyW ps d).getLsbD a = true) : ss.getD a 0 &&& d = 0#64 := by
  obtain ⟨h1, h2, h3⟩ := o.ready.1 ha
  refine and_zero.2 fun i hi h => ?_
  rw [o.sg a h1] at h
  cases hd : d.getLsbD i with
  | false => rfl
  | true => rw [c.dn a i h hd] at h3; cases h3
end

/-- going round by one to a place that is sought -/
def togo (c : Nat) (a : Nat) : Nat := if a ≤ c then c - a else 64 - a + c
theorem togo_next {c a : Nat} (hc : c < 64) (ha : a < 64) (h : a ≠ c) : togo c ((a + 1) % 64) < togo c a := by
  unfold togo
  by_cases h1 : a < c
  · rw [Nat.mod_eq_of_lt (by omega), if_pos (by omega), if_pos (by omega)]; omega
  · by_cases h2 : a = 63
    · subst h2; rw [if_pos (by simp), if_neg (by omega)]; simp
    · rw [Nat.mod_eq_of_lt (by omega), if_neg (by omega), if_neg (by omega)]; omega
end Go.V
