import Derived.Test.YteocbhgdmpdklaaDoorP10
/- The document's links: a list; what it tells beside the words. (own work) -/
set_option autoImplicit true
set_option linter.unusedSimpArgs false
set_option linter.unusedVariables false
namespace Go.V
open Go
def hasL (L : List (Int × Int)) (a b : Int) : Bool := L.any fun p => decide (p.1 = a) && decide (p.2 = b)
theorem hasL_iff {L : List (Int × Int)} {a b : Int} : hasL L a b = true ↔ (a, b) ∈ L := by
  unfold hasL
  rw [List.any_eq_true]
  constructor
  · rintro ⟨p, hp, h⟩
    rw [Bool.and_eq_true, decide_eq_true_eq, decide_eq_true_eq] at h
    obtain ⟨x, y⟩ := p
    obtain ⟨rfl, rfl⟩ := h
    exact hp
  · intro h; exact ⟨(a, b), h, by simp⟩
theorem hasL_at {L : List (Int × Int)} {a b : Int} {i : Nat} (hi : i < L.length) (h1 : (L.getD i (0, 0)).1 = a) (h2 : (L.getD i (0, 0)).2 = b) : hasL L a b = true := by
  have h : L.getD i (0, 0) ∈ L := getD_mem hi
  refine hasL_iff.2 ?_
  rw [← h1, ← h2]; exact h
theorem hasL_no {L : List (Int × Int)} {a b : Int} (h : ∀ j, j < L.length → ¬ ((L.getD j (0, 0)).1 = a ∧ (L.getD j (0, 0)).2 = b)) : hasL L a b = false := by
  cases hh : hasL L a b with
  | false => rfl
  | true =>
    obtain ⟨j, hj, e⟩ := List.getElem_of_mem (hasL_iff.1 hh)
    refine absurd ?_ (h j hj)
    rw [List.getD_eq_getElem?_getD, List.getElem?_eq_getElem hj, e]; exact ⟨rfl, rfl⟩
/-- the list and the words tell the same links -/
structure CoL (L : List (Int × Int)) (J : List (BitVec 64)) : Prop where
  nd : L.Nodup
  mem : ∀ p, p ∈ L ↔ p ∈ lkL J
theorem CoL.rg {L : List (Int × Int)} {J : List (BitVec 64)} (c : CoL L J) (r : Rk J) {i : Nat} (hi : i < L.length) : 0 ≤ (L.getD i (0, 0)).1 ∧ (L.getD i (0, 0)).1 < 64 ∧ 0 ≤ (L.getD i (0, 0)).2 ∧ (L.getD i (0, 0)).2 < 64 ∧ lk J (L.getD i (0, 0)).1.toNat (L.getD i (0, 0)).2.toNat = true :=
  r.lnk_lt ((c.mem _).1 (getD_mem hi))
theorem CoL.closed {L : List (Int × Int)} {J : List (BitVec 64)} (c : CoL L J) (r : Rk J) {w : BitVec 64} : closedW J w ↔ ∀ p, p ∈ L → w.getLsbD p.1.toNat = true → w.getLsbD p.2.toNat = true := by
  rw [r.lnk_closed]
  exact ⟨fun h p hp => h p ((c.mem p).1 hp), fun h p hp => h p ((c.mem p).2 hp)⟩
theorem stepW_has {w : BitVec 64} {p : Int × Int} (h : w.getLsbD p.2.toNat = true) : stepW w p = w := by
  unfold stepW
  split
  · refine subW.ext (fun a ha => ?_) (fun a ha => by rw [or_bit, ha]; rfl)
    rw [or_bit, Bool.or_eq_true, Bool.and_eq_true, decide_eq_true_eq] at ha
    rcases ha with ha | ⟨rfl, _⟩
    · exact ha
    · exact h
  · rfl
theorem stepW_new {w : BitVec 64} {p : Int × Int} (h1 : w.getLsbD p.1.toNat = true) (h2 : w.getLsbD p.2.toNat = false) (hp : p.2.toNat < 64) : stepW w p = w ||| 1#64 <<< p.2.toNat ∧ stepW w p ≠ w := by
  have e : stepW w p = w ||| 1#64 <<< p.2.toNat := by unfold stepW; rw [if_pos h1]
  refine ⟨e, fun h => ?_⟩
  rw [e] at h
  have := congrArg (fun x : BitVec 64 => x.getLsbD p.2.toNat) h
  simp only [or_bit, h2] at this
  simp [hp] at this
theorem stepW_out {w : BitVec 64} {p : Int × Int} (h1 : w.getLsbD p.1.toNat = false) : stepW w p = w := by unfold stepW; rw [if_neg (by rw [h1]; decide)]
/-- a pass changes something just if some step does -/
theorem pass_chg {L : List (Int × Int)} {w v : BitVec 64} (h1 : subW w v) (h : v ≠ w) {p : Int × Int} : stepW v p ≠ w := fun e => by
  apply h
  refine subW.ext (fun a ha => ?_) h1
  rw [← e]; exact stepW_sub a ha
/-- where the search for what is below stands -/
structure BeL (J : List (BitVec 64)) (s w : BitVec 64) (again : Bool) : Prop where
  a : subW s w
  b : subW w (spr J s)
  c : again = false → closedW J w
theorem BeL.init {J : List (BitVec 64)} {s : BitVec 64} : BeL J s s true := ⟨fun _ h => h, spr_sub, fun h => by cases h⟩
theorem BeL.done {J : List (BitVec 64)} {s w : BitVec 64} (h : BeL J s w false) : w = spr J s := spr_eq h.a h.b (h.c rfl)
theorem BeL.next {L : List (Int × Int)} {J : List (BitVec 64)} (c : CoL L J) (r : Rk J) {s w : BitVec 64} {again : Bool} (h : BeL J s w again) : BeL J s (passW L w) (decide (passW L w ≠ w)) := by
  refine ⟨fun a ha => passW_sub a (h.a a ha), passW_in h.b ((c.closed r).1 spr_closed), fun hf => ?_⟩
  have e : passW L w = w := by simpa using hf
  rw [e]
  exact (c.closed r).2 (passW_fix (fun p hp => by have := r.lnk_lt ((c.mem p).1 hp); omega) e)
def beM (w : BitVec 64) (again : Bool) : Nat := 2 * (64 - come 64 w) + if again then 1 else 0
theorem beM_lt {L : List (Int × Int)} {w : BitVec 64} : beM (passW L w) (decide (passW L w ≠ w)) < beM w true := by
  unfold beM
  by_cases e : passW L w = w
  · rw [e]; simp
  · have : ∃ a, (passW L w).getLsbD a = true ∧ w.getLsbD a = false := by
      apply Classical.byContradiction
      intro hn
      refine e (subW.ext (fun a ha => ?_) passW_sub)
      cases hb : w.getLsbD a with
      | true => rfl
      | false => exact absurd ⟨a, ha, hb⟩ hn
    have := come_grow passW_sub this
    have := come_le (passW L w)
    rw [decide_eq_true e]; simp; omega
/-! ### The longest way, round by round -/
def dStep (d : List Int) (p : Int × Int) : List Int := if d.getD p.1.toNat 0 < d.getD p.2.toNat 0 + 1 then d.set p.1.toNat (d.getD p.2.toNat 0 + 1) else d
def dPass (L : List (Int × Int)) (d : List Int) : List Int := L.foldl dStep d
def dRnd (L : List (Int × Int)) : Nat → List Int
  | 0 => List.replicate 64 0
  | k + 1 => dPass L (dRnd L k)
theorem dPass_take {L : List (Int × Int)} {d : List Int} {i : Nat} (hi : i < L.length) : dPass (L.take (i + 1)) d = dStep (dPass (L.take i) d) (L.getD i (0, 0)) := by
  unfold dPass
  rw [List.take_succ_eq_append_getElem hi, List.foldl_append, List.getD_eq_getElem?_getD, List.getElem?_eq_getElem hi]; rfl
theorem dStep_len {d : List Int} {p : Int × Int} : (dStep d p).length = d.length := by unfold dStep; split <;> simp
theorem dPass_len : ∀ {L : List (Int × Int)} {d : List Int}, (dPass L d).length = d.length
  | [], d => rfl
  | p :: L, d => by
    show (dPass L (dStep d p)).length = _
    rw [dPass_len, dStep_len]
theorem getD_setZ {O : List Int} {u v : Nat} {r : Int} (h : u < O.length) : (O.set u r).getD v 0 = if v = u then r else O.getD v 0 := by
  rw [List.getD_eq_getElem?_getD, List.getElem?_set]
  by_cases e : u = v
  · subst e; rw [if_pos rfl, if_pos h, if_pos rfl]; rfl
  · rw [if_neg e, if_neg (fun x => e x.symm), List.getD_eq_getElem?_getD]
theorem dStep_ge {d : List Int} {p : Int × Int} (hp : p.1.toNat < d.length) (v : Nat) : d.getD v 0 ≤ (dStep d p).getD v 0 := by
  unfold dStep
  split
  · rename_i h
    rw [getD_setZ hp]
    split
    · rename_i e; subst e; omega
    · exact Int.le_refl _
  · exact Int.le_refl _
theorem dPass_ge : ∀ {L : List (Int × Int)} {d : List Int}, (∀ p, p ∈ L → p.1.toNat < d.length) → ∀ v, d.getD v 0 ≤ (dPass L d).getD v 0
  | [], d, _, v => Int.le_refl _
  | p :: L, d, h, v => Int.le_trans (dStep_ge (h p (List.mem_cons_self ..)) v) (dPass_ge (L := L) (fun q hq => by rw [dStep_len]; exact h q (List.mem_cons_of_mem _ hq)) v)
/-- after a pass the front of each link is past its end -/
theorem dPass_link : ∀ {L : List (Int × Int)} {d : List Int}, (∀ p, p ∈ L → p.1.toNat < d.length) → ∀ p, p ∈ L → d.getD p.2.toNat 0 + 1 ≤ (dPass L d).getD p.1.toNat 0
  | [], d, _, p, hp => by cases hp
  | q :: L, d, h, p, hp => by
    have hq := h q (List.mem_cons_self ..)
    have hL : ∀ p, p ∈ L → p.1.toNat < (dStep d q).length := fun p hp => by rw [dStep_len]; exact h p (List.mem_cons_of_mem _ hp)
    rcases List.mem_cons.1 hp with rfl | hp
    · have h1 : d.getD p.2.toNat 0 + 1 ≤ (dStep d p).getD p.1.toNat 0 := by
        unfold dStep
        split
        · rw [getD_setZ hq, if_pos rfl]; exact Int.le_refl _
        · omega
      exact Int.le_trans h1 (dPass_ge (L := L) hL _)
    · exact Int.le_trans (Int.add_le_add_right (dStep_ge hq _) 1) (dPass_link hL p hp)
/-- never past the longest way -/
theorem dPass_le {J : List (BitVec 64)} (r : Rk J) : ∀ {L : List (Int × Int)} {d : List Int}, d.length = 64 → (∀ p, p ∈ L → p ∈ lkL J) → (∀ v, v < 64 → d.getD v 0 ≤ dpt J v) → ∀ v, v < 64 → (dPass L d).getD v 0 ≤ dpt J v
  | [], d, _, _, h, v, hv => h v hv
  | p :: L, d, hd, hL, h, v, hv => by
    refine dPass_le r (d := dStep d p) (by rw [dStep_len]; exact hd) (fun q hq => hL q (List.mem_cons_of_mem _ hq)) (fun v hv => ?_) v hv
    have hp := r.lnk_lt (hL p (List.mem_cons_self ..))
    unfold dStep
    split
    · rw [getD_setZ (by omega)]
      split
      · rename_i e
        subst e
        have h1 := h p.2.toNat (by omega)
        have h2 := (r.dpt_le (a := p.1.toNat) (n := dpt J p.1.toNat)).1 (Nat.le_refl _) p.2.toNat hp.2.2.2.2
        omega
      · exact h v hv
    · exact h v hv
theorem dRnd_len {L : List (Int × Int)} : ∀ {k : Nat}, (dRnd L k).length = 64
  | 0 => by simp [dRnd]
  | k + 1 => by rw [dRnd, dPass_len, dRnd_len]
theorem dRnd_nn {L : List (Int × Int)} (h : ∀ p, p ∈ L → p.1.toNat < 64) : ∀ {k : Nat} (v : Nat), v < 64 → 0 ≤ (dRnd L k).getD v 0
  | 0, v, hv => by rw [dRnd, List.getD_eq_getElem?_getD, List.getElem?_replicate, if_pos hv]; exact Int.le_refl _
  | k + 1, v, hv => Int.le_trans (dRnd_nn h v hv) (dPass_ge (fun p hp => by rw [dRnd_len]; exact h p hp) v)
/-- as many rounds as the way is long -/
theorem dRnd_ge {L : List (Int × Int)} {J : List (BitVec 64)} (c : CoL L J) (r : Rk J) : ∀ {k : Nat} (n v : Nat), v < 64 → n ≤ k → n ≤ dpt J v → (n : Int) ≤ (dRnd L k).getD v 0
  | k, 0, v, hv, _, _ => dRnd_nn (fun p hp => by have := r.lnk_lt ((c.mem p).1 hp); omega) v hv
  | 0, n + 1, v, hv, h, _ => by omega
  | k + 1, n + 1, v, hv, h, hn => by
    have hex : ∃ b, lk J v b = true ∧ n ≤ dpt J b := by
      apply Classical.byContradiction
      intro hno
      have : dpt J v ≤ n := r.dpt_le.2 fun b hb => by
        apply Classical.byContradiction
        intro hlt
        exact hno ⟨b, hb, by omega⟩
      omega
    obtain ⟨b, hb, hnb⟩ := hex
    have hb64 := lk_lt hb
    have ih := dRnd_ge c r (k := k) n b hb64 (by omega) hnb
    have hl : ((v : Int), (b : Int)) ∈ L := (c.mem _).2 (r.mem_lkL.2 ⟨v, b, hb, rfl⟩)
    have := dPass_link (L := L) (d := dRnd L k) (fun p hp => by rw [dRnd_len]; have := r.lnk_lt ((c.mem p).1 hp); omega) _ hl
    simp only [Int.toNat_natCast] at this
    rw [dRnd]
    omega
theorem dRnd_is {L : List (Int × Int)} {J : List (BitVec 64)} (c : CoL L J) (r : Rk J) {v : Nat} (hv : v < 64) : (dRnd L 64).getD v 0 = dpt J v := by
  have hle : ∀ k, (dRnd L k).getD v 0 ≤ dpt J v := by
    have : ∀ k v, v < 64 → (dRnd L k).getD v 0 ≤ dpt J v := by
      intro k
      induction k with
      | zero => intro v hv; rw [dRnd, List.getD_eq_getElem?_getD, List.getElem?_replicate, if_pos hv]; simp
      | succ k ih => intro v hv; rw [dRnd]; exact dPass_le r dRnd_len (fun p hp => (c.mem p).1 hp) ih v hv
    exact fun k => this k v hv
  have h64 : dpt J v ≤ 64 := by
    have := @dep_le J (1#64 <<< v)
    rw [r.dpt_one hv] at this; omega
  have := dRnd_ge c r (k := 64) (dpt J v) v hv h64 (Nat.le_refl _)
  have := hle 64
  omega
end Go.V
