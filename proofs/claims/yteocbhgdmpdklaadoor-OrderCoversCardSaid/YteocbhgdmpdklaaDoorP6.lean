/- Covers: pairs with nothing between are enough, and none too many. Plain facts. -/
import Derived.Test.YteocbhgdmpdklaaDoorP5
set_option autoImplicit false
set_option linter.unusedVariables false
namespace Go.V
open Go

theorem mem_cv {m : Nat} {R : Nat → Nat → Bool} {p : Int × Int} : p ∈ cvL m R ↔ ∃ a b : Nat, p = ((a : Int), (b : Int)) ∧ a < m ∧ b < m ∧ R a b = true ∧ ∀ c, c < m → R a c = true → R c b = true → False := by
  unfold cvL cvTo
  rw [List.mem_flatMap]
  constructor
  · rintro ⟨a, ha, h⟩
    have ha := List.mem_range.1 ha
    unfold cvRow at h
    obtain ⟨b, hb, rfl⟩ := List.mem_map.1 h
    obtain ⟨hb, h2⟩ := List.mem_filter.1 hb
    have hb := List.mem_range.1 hb
    unfold cvB at h2
    rw [Bool.and_eq_true, List.all_eq_true] at h2
    refine ⟨a, b, rfl, ha, hb, h2.1, fun c hc h3 h4 => ?_⟩
    have := h2.2 c (List.mem_range.2 hc)
    rw [h3, h4] at this; cases this
  · rintro ⟨a, b, rfl, ha, hb, h1, h2⟩
    refine ⟨a, List.mem_range.2 ha, ?_⟩
    unfold cvRow
    refine List.mem_map.2 ⟨b, List.mem_filter.2 ⟨List.mem_range.2 hb, ?_⟩, rfl⟩
    unfold cvB
    rw [Bool.and_eq_true, List.all_eq_true]
    refine ⟨h1, fun c hc => ?_⟩
    cases h3 : R a c with
    | false => rfl
    | true =>
      cases h4 : R c b with
      | false => rfl
      | true => exact (h2 c (List.mem_range.1 hc) h3 h4).elim
theorem cv_nodup {m : Nat} {R : Nat → Nat → Bool} : (cvL m R).Nodup := by
  unfold cvL cvTo List.Nodup
  rw [List.pairwise_flatMap]
  refine ⟨fun a _ => ?_, ?_⟩
  · unfold cvRow
    rw [List.pairwise_map]
    refine List.Pairwise.imp ?_ (List.Pairwise.filter _ (List.nodup_range))
    intro x y h e
    simp only [Prod.mk.injEq] at e
    omega
  · refine List.Pairwise.imp ?_ List.nodup_range
    intro a1 a2 h x hx y hy e
    unfold cvRow at hx hy
    obtain ⟨b1, _, rfl⟩ := List.mem_map.1 hx
    obtain ⟨b2, _, rfl⟩ := List.mem_map.1 hy
    simp only [Prod.mk.injEq] at e
    omega

theorem edg_iff {l : List (Int × Int)} {a b : Nat} : edg l a b = true ↔ ((a : Int), (b : Int)) ∈ l := by
  unfold edg
  rw [List.any_eq_true]
  constructor
  · rintro ⟨p, hp, h⟩
    simp only [Bool.and_eq_true, beq_iff_eq] at h
    have : p = ((a : Int), (b : Int)) := Prod.ext h.1 h.2
    rw [← this]; exact hp
  · intro h; exact ⟨_, h, by simp⟩

section
variable {m : Nat} {R : Nat → Nat → Bool} {ps ss : List (BitVec 64)}
theorem cv_in {p : Int × Int} (h : p ∈ cvL m R) : inR m p = true := by
  obtain ⟨a, b, rfl, ha, hb, _⟩ := mem_cv.1 h
  simp only [inR, Bool.and_eq_true, decide_eq_true_eq]; omega
/-- what pairs out of the order reach lies in the order -/
theorem Ord.sub (o : Ord m R ps ss) {l : List (Int × Int)} (hl : ∀ p, p ∈ l → p ∈ cvL m R) {a b : Nat} (h : rch l m a b = true) : R a b = true := by
  refine rv_least (R := fun a b => R a b = true) (fun a b h => ?_) (fun a b c _ h1 h2 => o.tr _ _ _ h1 h2) h
  obtain ⟨a', b', e, _, _, h, _⟩ := mem_cv.1 (hl _ (edg_iff.1 h))
  simp only [Prod.mk.injEq] at e
  obtain ⟨e1, e2⟩ := e
  have e1 : a = a' := by omega
  have e2 : b = b' := by omega
  subst e1 e2; exact h
/-- .. and pairs with nothing between reach all of it -/
theorem Ord.sup (o : Ord m R ps ss) : ∀ (n : Nat) {a b : Nat}, (List.range m).countP (fun c => R a c && R c b) ≤ n → R a b = true → rch (cvL m R) m a b = true := by
  intro n
  induction n with
  | zero =>
    intro a b hn hR
    refine rv_mono (Nat.zero_le m) (show edg (cvL m R) a b = true from edg_iff.2 (mem_cv.2 ⟨a, b, rfl, (o.rg _ _ hR).1, (o.rg _ _ hR).2, hR, fun c hc h1 h2 => ?_⟩))
    have : 0 < (List.range m).countP (fun c => R a c && R c b) := List.countP_pos_iff.2 ⟨c, List.mem_range.2 hc, by simp [h1, h2]⟩
    omega
  | succ n ih =>
    intro a b hn hR
    by_cases hex : ∃ c, c < m ∧ R a c = true ∧ R c b = true
    · obtain ⟨c, hc, h1, h2⟩ := hex
      refine rv_trans hc (ih ?_ h1) (ih ?_ h2)
      · have : (List.range m).countP (fun d => R a d && R d c) < (List.range m).countP (fun d => R a d && R d b) := countP_lt (fun d _ h => by
          simp only [Bool.and_eq_true] at h ⊢
          exact ⟨h.1, o.tr _ _ _ h.2 h2⟩) ⟨c, List.mem_range.2 hc, by simp [h1, h2], by simp [o.ir]⟩
        omega
      · have : (List.range m).countP (fun d => R c d && R d b) < (List.range m).countP (fun d => R a d && R d b) := countP_lt (fun d _ h => by
          simp only [Bool.and_eq_true] at h ⊢
          exact ⟨o.tr _ _ _ h1 h.1, h.2⟩) ⟨c, List.mem_range.2 hc, by simp [h1, h2], by simp [o.ir]⟩
        omega
    · refine rv_mono (Nat.zero_le m) (show edg (cvL m R) a b = true from edg_iff.2 (mem_cv.2 ⟨a, b, rfl, (o.rg _ _ hR).1, (o.rg _ _ hR).2, hR, fun c hc h1 h2 => hex ⟨c, hc, h1, h2⟩⟩))
theorem Ord.cv (o : Ord m R ps ss) : rch (cvL m R) m = R := by
  funext a b
  rw [Bool.eq_iff_iff]
  exact ⟨o.sub fun p h => h, o.sup _ (Nat.le_refl _)⟩
/-- pairs of the order are an order -/
theorem Ord.subOrd (o : Ord m R ps ss) {l : List (Int × Int)} (hl : ∀ p, p ∈ l → p ∈ cvL m R) : Ord m (rch l m) (preL l m) (sucL l m) :=
  ord_of o.le (fun p h => cv_in (hl p h)) fun i _ => by
    cases h : rch l m i i with
    | false => rfl
    | true => have := o.sub hl h; rw [o.ir] at this; cases this
theorem preL_R {l l' : List (Int × Int)} (h : rch l m = rch l' m) : preL l m = preL l' m := by unfold preL; rw [h]
/-- with one of them less it is another order -/
theorem Ord.less (o : Ord m R ps ss) {k : Nat} (hk : k < (cvL m R).length) {a b : Nat} (hab : (cvL m R).getD k (0, 0) = ((a : Int), (b : Int))) : rch ((cvL m R).take k ++ (cvL m R).drop (k + 1)) m a b = false := by
  have hg : (cvL m R)[k] = ((a : Int), (b : Int)) := by rw [← hab]; simp [List.getD_eq_getElem?_getD, hk]
  have hmem : ((a : Int), (b : Int)) ∈ cvL m R := hg ▸ List.getElem_mem hk
  obtain ⟨a', b', e, ha, hb, hR, hno⟩ := mem_cv.1 hmem
  simp only [Prod.mk.injEq] at e
  obtain rfl : a = a' := by omega
  obtain rfl : b = b' := by omega
  have hnot : ((a : Int), (b : Int)) ∉ (cvL m R).take k ++ (cvL m R).drop (k + 1) := by
    have hn := @cv_nodup m R
    have e : cvL m R = (cvL m R).take k ++ ((a : Int), (b : Int)) :: (cvL m R).drop (k + 1) := by
      conv => lhs; rw [← List.take_append_drop k (cvL m R)]
      rw [List.drop_eq_getElem_cons hk, hg]
    rw [e] at hn
    unfold List.Nodup at hn
    rw [List.pairwise_append, List.pairwise_cons] at hn
    intro h
    rcases List.mem_append.1 h with h | h
    · exact hn.2.2 _ h _ (List.mem_cons_self ..) rfl
    · exact hn.2.1.1 _ h rfl
  have hsub : ∀ p, p ∈ (cvL m R).take k ++ (cvL m R).drop (k + 1) → p ∈ cvL m R := fun p h => by
    rcases List.mem_append.1 h with h | h
    · exact List.mem_of_mem_take h
    · exact List.mem_of_mem_drop h
  cases hr : rch ((cvL m R).take k ++ (cvL m R).drop (k + 1)) m a b with
  | false => rfl
  | true =>
    have := rv_least (R := fun x y => R x y = true ∧ ¬ (x = a ∧ y = b)) (fun x y h => ?_) (fun x y c _ h1 h2 => ⟨o.tr _ _ _ h1.1 h2.1, fun e => ?_⟩) hr
    · exact absurd ⟨rfl, rfl⟩ this.2
    · have hxy := edg_iff.1 h
      refine ⟨?_, fun e => hnot (by rw [← e.1, ← e.2]; exact hxy)⟩
      obtain ⟨x', y', e, _, _, h, _⟩ := mem_cv.1 (hsub _ hxy)
      simp only [Prod.mk.injEq] at e
      obtain rfl : x = x' := by omega
      obtain rfl : y = y' := by omega
      exact h
    · obtain ⟨rfl, rfl⟩ := e
      exact hno c (o.rg _ _ h1.1).2 h1.1 h2.1
end
end Go.V
