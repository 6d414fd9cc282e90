import Derived.Test.YteocbhgdmpdklaaDoorP5
/- The down sets of an order, rising. (own work) -/
set_option autoImplicit true
namespace Go.V
open Go
/-- the sets that `downs` tells -/
def dwn (ps ss : List (BitVec 64)) : Nat → BitVec 64 → BitVec 64 → List (BitVec 64)
  | 0, i, _ => [i]
  | k + 1, i, o => if (i ||| o).getLsbD k then dwn ps ss k i o else dwn ps ss k i (o ||| 1#64 <<< k ||| ss.getD k 0) ++ dwn ps ss k (i ||| 1#64 <<< k ||| ps.getD k 0) o
section
variable {m : Nat} {R : Nat → Nat → Bool} {ps ss : List (BitVec 64)}
/-- what stands in and what out, where all places from k on are in one of both -/
structure Dn (m : Nat) (R : Nat → Nat → Bool) (k : Nat) (i o : BitVec 64) : Prop where
  irg : ∀ a, i.getLsbD a = true → a < m
  org : ∀ a, o.getLsbD a = true → a < m
  all : ∀ a, k ≤ a → a < m → i.getLsbD a = true ∨ o.getLsbD a = true
  dis : ∀ a, i.getLsbD a = true → o.getLsbD a = false
  idn : ∀ a b, R a b = true → i.getLsbD b = true → i.getLsbD a = true
  oup : ∀ a b, R a b = true → o.getLsbD a = true → o.getLsbD b = true
theorem Dn.init : Dn m R m 0#64 0#64 := ⟨fun a h => by simp at h, fun a h => by simp at h, fun a h h' => absurd h' (by omega), fun a h => by simp at h, fun a b _ h => by simp at h, fun a b _ h => by simp at h⟩
theorem Dn.skip {k : Nat} {i o : BitVec 64} (d : Dn m R (k + 1) i o) (h : (i ||| o).getLsbD k = true) : Dn m R k i o := by
  refine ⟨d.irg, d.org, fun a ha hm => ?_, d.dis, d.idn, d.oup⟩
  rcases Nat.lt_or_ge k a with hk | hk
  · exact d.all a hk hm
  · have : a = k := by omega
    subst this
    rw [BitVec.getLsbD_or, Bool.or_eq_true] at h; exact h
theorem or3 {w v : BitVec 64} {k a : Nat} (hk : k < 64) : (w ||| 1#64 <<< k ||| v).getLsbD a = true ↔ w.getLsbD a = true ∨ a = k ∨ v.getLsbD a = true := by
  rw [BitVec.getLsbD_or, or_bit]
  simp only [Bool.or_eq_true, Bool.and_eq_true, decide_eq_true_eq, or_assoc]
  constructor
  · rintro (h | ⟨h, _⟩ | h)
    · exact .inl h
    · exact .inr (.inl h)
    · exact .inr (.inr h)
  · rintro (h | h | h)
    · exact .inl h
    · exact .inr (.inl ⟨h, by omega⟩)
    · exact .inr (.inr h)
theorem not_t {b : Bool} (h : ¬ b = true) : b = false := by cases b <;> simp_all
theorem Dn.out (r : Ord m R ps ss) {k : Nat} {i o : BitVec 64} (hk : k < m) (d : Dn m R (k + 1) i o) (h : (i ||| o).getLsbD k = false) : Dn m R k i (o ||| 1#64 <<< k ||| ss.getD k 0) := by
  have hm := r.le
  have hk64 : k < 64 := by omega
  rw [BitVec.getLsbD_or, Bool.or_eq_false_iff] at h
  refine ⟨d.irg, fun a ha => ?_, fun a ha hm => ?_, fun a ha => not_t fun hx => ?_, d.idn, fun a b hr ha => ?_⟩
  · rcases (or3 hk64).1 ha with h1 | h1 | h1
    · exact d.org a h1
    · omega
    · rw [r.sg k hk] at h1; exact (r.rg _ _ h1).2
  · rcases Nat.lt_or_ge k a with hk' | hk'
    · exact (d.all a hk' hm).imp id fun e => (or3 hk64).2 (.inl e)
    · exact .inr ((or3 hk64).2 (.inr (.inl (by omega))))
  · rcases (or3 hk64).1 hx with h1 | h1 | h1
    · rw [d.dis a ha] at h1; cases h1
    · subst h1; rw [h.1] at ha; cases ha
    · rw [r.sg k hk] at h1
      have := d.idn k a h1 ha
      rw [h.1] at this; cases this
  · rcases (or3 hk64).1 ha with h1 | h1 | h1
    · exact (or3 hk64).2 (.inl (d.oup a b hr h1))
    · subst h1; exact (or3 hk64).2 (.inr (.inr (by rw [r.sg a hk]; exact hr)))
    · exact (or3 hk64).2 (.inr (.inr (by rw [r.sg k hk] at h1 ⊢; exact r.tr _ _ _ h1 hr)))
theorem Dn.inn (r : Ord m R ps ss) {k : Nat} {i o : BitVec 64} (hk : k < m) (d : Dn m R (k + 1) i o) (h : (i ||| o).getLsbD k = false) : Dn m R k (i ||| 1#64 <<< k ||| ps.getD k 0) o := by
  have hm := r.le
  have hk64 : k < 64 := by omega
  rw [BitVec.getLsbD_or, Bool.or_eq_false_iff] at h
  refine ⟨fun a ha => ?_, d.org, fun a ha hm => ?_, fun a hx => not_t fun ha => ?_, fun a b hr ha => ?_, d.oup⟩
  · rcases (or3 hk64).1 ha with h1 | h1 | h1
    · exact d.irg a h1
    · omega
    · rw [r.pg k hk] at h1; exact (r.rg _ _ h1).1
  · rcases Nat.lt_or_ge k a with hk' | hk'
    · exact (d.all a hk' hm).imp (fun e => (or3 hk64).2 (.inl e)) id
    · exact .inl ((or3 hk64).2 (.inr (.inl (by omega))))
  · rcases (or3 hk64).1 hx with h1 | h1 | h1
    · rw [d.dis a h1] at ha; cases ha
    · subst h1; rw [h.2] at ha; cases ha
    · rw [r.pg k hk] at h1
      have := d.oup a k h1 ha
      rw [h.2] at this; cases this
  · rcases (or3 hk64).1 ha with h1 | h1 | h1
    · exact (or3 hk64).2 (.inl (d.idn a b hr h1))
    · subst h1; exact (or3 hk64).2 (.inr (.inr (by rw [r.pg b hk]; exact hr)))
    · exact (or3 hk64).2 (.inr (.inr (by rw [r.pg k hk] at h1 ⊢; exact r.tr _ _ _ hr h1)))
/-- just the down sets that hold the one and none of the other -/
theorem mem_dwn (r : Ord m R ps ss) : ∀ {k : Nat} {i o s : BitVec 64}, k ≤ m → Dn m R k i o → (s ∈ dwn ps ss k i o ↔ Come m R s ∧ (∀ a, i.getLsbD a = true → s.getLsbD a = true) ∧ ∀ a, o.getLsbD a = true → s.getLsbD a = false)
  | 0, i, o, s, _, d => by
    rw [dwn, List.mem_singleton]
    constructor
    · rintro rfl
      exact ⟨⟨d.irg, d.idn⟩, fun _ h => h, fun a ha => not_t fun hx => by rw [d.dis a hx] at ha; cases ha⟩
    · rintro ⟨c, h1, h2⟩
      refine word_ext fun a _ => ?_
      cases hi : i.getLsbD a with
      | true => exact h1 a hi
      | false =>
        apply not_t
        intro hs
        rcases d.all a (Nat.zero_le _) (c.rg a hs) with h | h
        · rw [hi] at h; cases h
        · rw [h2 a h] at hs; cases hs
  | k + 1, i, o, s, hk, d => by
    have hm := r.le
    have hk64 : k < 64 := by omega
    rw [dwn]
    by_cases h : (i ||| o).getLsbD k = true
    · rw [if_pos h]; exact mem_dwn r (by omega) (d.skip h)
    · have hf := not_t h
      rw [if_neg h, List.mem_append, mem_dwn r (by omega) (d.out r (by omega) hf), mem_dwn r (by omega) (d.inn r (by omega) hf)]
      constructor
      · rintro (⟨c, h1, h2⟩ | ⟨c, h1, h2⟩)
        · exact ⟨c, h1, fun a ha => h2 a ((or3 hk64).2 (.inl ha))⟩
        · exact ⟨c, fun a ha => h1 a ((or3 hk64).2 (.inl ha)), h2⟩
      · rintro ⟨c, h1, h2⟩
        by_cases hs : s.getLsbD k = true
        · refine .inr ⟨c, fun a ha => ?_, h2⟩
          rcases (or3 hk64).1 ha with e | e | e
          · exact h1 a e
          · subst e; exact hs
          · rw [r.pg k (by omega)] at e; exact c.dn a k e hs
        · refine .inl ⟨c, h1, fun a ha => ?_⟩
          rcases (or3 hk64).1 ha with e | e | e
          · exact h2 a e
          · subst e; exact not_t hs
          · rw [r.sg k (by omega)] at e
            exact not_t fun hx => hs (c.dn k a e hx)
theorem word_lt {x y : BitVec 64} {a : Nat} (hx : x.getLsbD a = false) (hy : y.getLsbD a = true) (h : ∀ j, a < j → x.getLsbD j = y.getLsbD j) : x.toNat < y.toNat := by
  have e : x.toNat / 2 ^ (a + 1) = y.toNat / 2 ^ (a + 1) := Nat.eq_of_testBit_eq fun i => by
    rw [Nat.testBit_div_two_pow, Nat.testBit_div_two_pow]; exact h (i + (a + 1)) (by omega)
  have hx' : x.toNat.testBit a = false := hx
  have hy' : y.toNat.testBit a = true := hy
  rw [Nat.testBit_eq_decide_div_mod_eq, decide_eq_false_iff_not] at hx'
  rw [Nat.testBit_eq_decide_div_mod_eq, decide_eq_true_eq] at hy'
  rw [Nat.pow_succ, ← Nat.div_div_eq_div_mul, ← Nat.div_div_eq_div_mul] at e
  have h1 : x.toNat / 2 ^ a < y.toNat / 2 ^ a := by omega
  apply Classical.byContradiction
  intro hn
  have := Nat.div_le_div_right (c := 2 ^ a) (show y.toNat ≤ x.toNat by omega)
  omega
theorem dwn_rise (r : Ord m R ps ss) : ∀ {k : Nat} {i o : BitVec 64}, k ≤ m → Dn m R k i o → (dwn ps ss k i o).Pairwise fun x y => x.toNat < y.toNat
  | 0, i, o, _, d => by rw [dwn]; exact List.pairwise_singleton _ _
  | k + 1, i, o, hk, d => by
    have hm := r.le
    have hk64 : k < 64 := by omega
    rw [dwn]
    by_cases h : (i ||| o).getLsbD k = true
    · rw [if_pos h]; exact dwn_rise r (by omega) (d.skip h)
    · have hf := not_t h
      rw [if_neg h, List.pairwise_append]
      refine ⟨dwn_rise r (by omega) (d.out r (by omega) hf), dwn_rise r (by omega) (d.inn r (by omega) hf), fun x hx y hy => ?_⟩
      obtain ⟨cx, x1, x2⟩ := (mem_dwn r (by omega) (d.out r (by omega) hf)).1 hx
      obtain ⟨cy, y1, y2⟩ := (mem_dwn r (by omega) (d.inn r (by omega) hf)).1 hy
      refine word_lt (a := k) (x2 k ((or3 hk64).2 (.inr (.inl rfl)))) (y1 k ((or3 hk64).2 (.inr (.inl rfl)))) fun j hj => ?_
      by_cases hjm : j < m
      · rcases d.all j hj hjm with e | e
        · rw [x1 j e, y1 j ((or3 hk64).2 (.inl e))]
        · rw [x2 j ((or3 hk64).2 (.inl e)), y2 j e]
      · rw [not_t fun e => hjm (cx.rg j e), not_t fun e => hjm (cy.rg j e)]
/-- the list of all down sets -/
def dwnL (m : Nat) (ps ss : List (BitVec 64)) : List (BitVec 64) := dwn ps ss m 0#64 0#64
theorem Ord.mem_dwnL (r : Ord m R ps ss) {s : BitVec 64} : s ∈ dwnL m ps ss ↔ dnW m R s = true := by
  unfold dwnL
  rw [mem_dwn r (Nat.le_refl _) Dn.init, ← r.dn, r.down]
  exact ⟨fun h => h.1, fun h => ⟨h, fun a h => by simp at h, fun a h => by simp at h⟩⟩
theorem Ord.dwn_ne (r : Ord m R ps ss) : 0#64 ∈ dwnL m ps ss := r.mem_dwnL.2 (by rw [← r.dn, r.down]; exact Come.nil)
/-- where the law stands: all down sets below `a` have been told -/
structure At (m : Nat) (R : Nat → Nat → Bool) (rest : List (BitVec 64)) (a : BitVec 64) : Prop where
  ri : rest.Pairwise fun x y => x.toNat < y.toNat
  ge : ∀ x, x ∈ rest → a.toNat ≤ x.toNat
  dn : ∀ x, x ∈ rest → dnW m R x = true
  al : ∀ x : BitVec 64, dnW m R x = true → a.toNat ≤ x.toNat → x ∈ rest
theorem Ord.at0 (r : Ord m R ps ss) : At m R (dwnL m ps ss) 0#64 := ⟨dwn_rise r (Nat.le_refl _) Dn.init, fun _ _ => by simp, fun _ h => r.mem_dwnL.1 h, fun _ h _ => r.mem_dwnL.2 h⟩
/-- none between -/
theorem At.none {s a : BitVec 64} {l : List (BitVec 64)} (h : At m R (s :: l) a) {x : BitVec 64} (h1 : a.toNat ≤ x.toNat) (h2 : x.toNat < s.toNat) : dnW m R x = false := by
  cases hd : dnW m R x with
  | false => rfl
  | true =>
    rcases List.mem_cons.1 (h.al x hd h1) with e | e
    · subst e; omega
    · have := List.rel_of_pairwise_cons h.ri e; omega
theorem At.next {s a : BitVec 64} {l : List (BitVec 64)} (h : At m R (s :: l) a) (hs : s + 1#64 ≠ 0#64) : At m R l (s + 1#64) := by
  have e : (s + 1#64).toNat = s.toNat + 1 := by
    have h1 : s.toNat + 1 ≠ 2 ^ 64 := fun e => hs (by apply BitVec.eq_of_toNat_eq; rw [BitVec.toNat_add]; simp; omega)
    rw [BitVec.toNat_add]
    have := s.isLt
    simp; omega
  have hp := List.pairwise_cons.1 h.ri
  have hge := h.ge s (List.mem_cons_self ..)
  refine ⟨hp.2, fun x hx => ?_, fun x hx => h.dn x (List.mem_cons_of_mem _ hx), fun x hd hx => ?_⟩
  · have := hp.1 x hx; omega
  · rcases List.mem_cons.1 (h.al x hd (by omega)) with e' | e'
    · subst e'; omega
    · exact e'
theorem add_one_nat {a : BitVec 64} (h : a.toNat < 18446744073709551615) : (a + 1#64).toNat = a.toNat + 1 := by
  rw [BitVec.toNat_add]; simp; omega
theorem At.up {s a : BitVec 64} {l : List (BitVec 64)} (h : At m R (s :: l) a) (hs : a.toNat < s.toNat) : At m R (s :: l) (a + 1#64) := by
  have hl := s.isLt
  have e := add_one_nat (a := a) (by omega)
  refine ⟨h.ri, fun x hx => ?_, h.dn, fun x hd hx => h.al x hd (by omega)⟩
  rcases List.mem_cons.1 hx with e' | hx
  · subst e'; omega
  · have := List.rel_of_pairwise_cons h.ri hx; omega
theorem At.up0 {a : BitVec 64} (h : At m R [] a) (hs : a.toNat < 4096) : At m R [] (a + 1#64) := by
  have e := add_one_nat (a := a) (by omega)
  exact ⟨h.ri, fun x hx => absurd hx List.not_mem_nil, h.dn, fun x hd hx => h.al x hd (by omega)⟩
theorem At.no {a x : BitVec 64} (h : At m R [] a) (hx : a.toNat ≤ x.toNat) : dnW m R x = false := by
  cases hd : dnW m R x with
  | false => rfl
  | true => cases h.al x hd hx
theorem sp1 {s : BitVec 64} (h : s + 1#64 = 0#64) : (s.toNat : Int) = 18446744073709551615 := by
  have := congrArg BitVec.toNat h
  rw [BitVec.toNat_add] at this
  have hl := s.isLt
  simp at this; omega
end
end Go.V
