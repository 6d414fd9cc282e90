import Derived.Test.YtpekleeidllllaaDoorP13
/- Rows without places; the first full matching; the places that are free. (own work) -/
set_option autoImplicit true
set_option linter.unusedSimpArgs false
set_option linter.unusedVariables false
namespace Go.V
open Go
def msk (l : List (BitVec 64)) (t : BitVec 64) : List (BitVec 64) := l.map fun w => w &&& ~~~t
theorem msk_len {l : List (BitVec 64)} {t : BitVec 64} : (msk l t).length = l.length := by unfold msk; simp
theorem msk_getD {l : List (BitVec 64)} {t : BitVec 64} {k : Nat} : (msk l t).getD k 0 = l.getD k 0 &&& ~~~t := by
  unfold msk
  rw [List.getD_eq_getElem?_getD, List.getElem?_map, List.getD_eq_getElem?_getD]
  cases l[k]? <;> simp
theorem msk_bit {w t : BitVec 64} {u : Nat} : (w &&& ~~~t).getLsbD u = true ↔ w.getLsbD u = true ∧ t.getLsbD u = false := by
  rw [BitVec.getLsbD_and, BitVec.getLsbD_not, Bool.and_eq_true]
  constructor
  · rintro ⟨h1, h2⟩; exact ⟨h1, by simpa [BitVec.lt_of_getLsbD h1] using h2⟩
  · rintro ⟨h1, h2⟩; exact ⟨h1, by rw [h2, decide_eq_true (BitVec.lt_of_getLsbD h1)]; rfl⟩
theorem msk_0 {l : List (BitVec 64)} : msk l 0#64 = l := by
  unfold msk
  conv => rhs; rw [← List.map_id l]
  apply List.map_congr_left
  intro w _
  refine word_ext fun i hi => ?_
  rw [BitVec.getLsbD_and, BitVec.getLsbD_not, BitVec.getLsbD_zero, decide_eq_true hi]
  simp
theorem msk_msk {l : List (BitVec 64)} {s t : BitVec 64} : msk (msk l s) t = msk l (s ||| t) := by
  unfold msk
  rw [List.map_map]
  apply List.map_congr_left
  intro w _
  refine word_ext fun i hi => ?_
  simp only [Function.comp, BitVec.getLsbD_and, BitVec.getLsbD_not, BitVec.getLsbD_or, hi, decide_true, Bool.true_and, Bool.not_or, Bool.and_assoc]
def fullB (l : List (BitVec 64)) (t : BitVec 64) : Bool := szN (msk l t) == l.length
theorem fullB_iff {l : List (BitVec 64)} {t : BitVec 64} : fullB l t = true ↔ Mat (msk l t) := by
  unfold fullB; rw [beq_iff_eq, ← full_iff, msk_len]
theorem matU_nil {us : List Nat} : MatU [] us ↔ us = [] := by
  constructor
  · intro h; exact List.eq_nil_of_length_eq_zero h.len
  · rintro rfl; exact ⟨rfl, List.nodup_nil, fun k h => by simp at h⟩
theorem matU_cons {w : BitVec 64} {l : List (BitVec 64)} {u : Nat} {us : List Nat} : MatU (w :: l) (u :: us) ↔ w.getLsbD u = true ∧ u ∉ us ∧ MatU l us := by
  constructor
  · intro h
    have hn := List.nodup_cons.1 h.nd
    exact ⟨h.ok 0 (by simp), hn.1, ⟨by simpa using h.len, hn.2, fun k hk => h.ok (k + 1) (by simpa using hk)⟩⟩
  · rintro ⟨h1, h2, h3⟩
    refine ⟨by simp [h3.len], List.nodup_cons.2 ⟨h2, h3.nd⟩, fun k hk => ?_⟩
    cases k with
    | zero => exact h1
    | succ k => exact h3.ok k (by simpa using hk)
theorem matU_msk : ∀ {l : List (BitVec 64)} {us : List Nat} {t : BitVec 64}, MatU (msk l t) us ↔ MatU l us ∧ ∀ u, u ∈ us → t.getLsbD u = false
  | [], us, t => by
    show MatU [] us ↔ _
    rw [matU_nil]
    constructor
    · rintro rfl; exact ⟨rfl, fun u h => by cases h⟩
    · exact fun h => h.1
  | w :: l, [], t => by
    constructor
    · intro h; have := h.len; simp [msk] at this
    · intro h; have := h.1.len; simp at this
  | w :: l, u :: us, t => by
    show MatU ((w &&& ~~~t) :: msk l t) (u :: us) ↔ _
    rw [matU_cons, matU_cons, matU_msk, msk_bit]
    constructor
    · rintro ⟨⟨h1, h2⟩, h3, h4, h5⟩
      exact ⟨⟨h1, h3, h4⟩, fun v hv => (List.mem_cons.1 hv).elim (fun e => e ▸ h2) (h5 v)⟩
    · rintro ⟨⟨h1, h2, h3⟩, h4⟩
      exact ⟨⟨h1, h4 u (List.mem_cons_self ..)⟩, h2, h3, fun v hv => h4 v (List.mem_cons_of_mem _ hv)⟩
theorem one_bit {u v : Nat} (hu : u < 64) : (1#64 <<< u : BitVec 64).getLsbD v = false ↔ v ≠ u := by
  rw [shl_bit]
  by_cases h : v = u
  · subst h; simp [hu]
  · simp [h]
theorem mat_cons {w : BitVec 64} {l : List (BitVec 64)} : Mat (w :: l) ↔ ∃ u, w.getLsbD u = true ∧ Mat (msk l (1#64 <<< u)) := by
  constructor
  · rintro ⟨us, h⟩
    cases us with
    | nil => have := h.len; simp at this
    | cons u us =>
      obtain ⟨h1, h2, h3⟩ := matU_cons.1 h
      have hu := BitVec.lt_of_getLsbD h1
      exact ⟨u, h1, us, matU_msk.2 ⟨h3, fun v hv => (one_bit hu).2 fun e => h2 (e ▸ hv)⟩⟩
  · rintro ⟨u, h1, us, h2⟩
    have hu := BitVec.lt_of_getLsbD h1
    obtain ⟨h3, h4⟩ := matU_msk.1 h2
    exact ⟨u :: us, matU_cons.2 ⟨h1, fun hm => (one_bit hu).1 (h4 u hm) rfl, h3⟩⟩
theorem mat_consT {w : BitVec 64} {l : List (BitVec 64)} {t : BitVec 64} : Mat (msk (w :: l) t) ↔ ∃ u, (w &&& ~~~t).getLsbD u = true ∧ Mat (msk l (t ||| 1#64 <<< u)) := by
  show Mat ((w &&& ~~~t) :: msk l t) ↔ _
  rw [mat_cons]
  simp only [msk_msk]
/-- one row drawn ahead -/
theorem mat_pull : ∀ {i : Nat} {l : List (BitVec 64)} {t : BitVec 64}, i < l.length → (Mat (msk l t) ↔ ∃ u, (l.getD i 0 &&& ~~~t).getLsbD u = true ∧ Mat (msk (l.eraseIdx i) (t ||| 1#64 <<< u)))
  | _, [], _, h => by simp at h
  | 0, w :: l, t, _ => mat_consT
  | i + 1, w :: l, t, h => by
    have hi : i < l.length := by simpa using h
    rw [mat_consT]
    simp only [List.getD_cons_succ, List.eraseIdx_cons_succ]
    have sw : ∀ u v : Nat, t ||| 1#64 <<< u ||| 1#64 <<< v = t ||| 1#64 <<< v ||| 1#64 <<< u := fun u v => by rw [BitVec.or_assoc, BitVec.or_comm (1#64 <<< u), ← BitVec.or_assoc]
    constructor
    · rintro ⟨u, h1, h2⟩
      obtain ⟨v, h3, h4⟩ := (mat_pull hi).1 h2
      obtain ⟨h1a, h1b⟩ := msk_bit.1 h1
      obtain ⟨h3a, h3b⟩ := msk_bit.1 h3
      have hu := BitVec.lt_of_getLsbD h1a
      have hv := BitVec.lt_of_getLsbD h3a
      rw [BitVec.getLsbD_or, Bool.or_eq_false_iff] at h3b
      have hne := (one_bit hu).1 h3b.2
      refine ⟨v, msk_bit.2 ⟨h3a, h3b.1⟩, mat_consT.2 ⟨u, msk_bit.2 ⟨h1a, ?_⟩, by rw [sw]; exact h4⟩⟩
      rw [BitVec.getLsbD_or, h1b, (one_bit hv).2 (Ne.symm hne)]; rfl
    · rintro ⟨v, h3, h4⟩
      obtain ⟨u, h1, h2⟩ := mat_consT.1 h4
      obtain ⟨h1a, h1b⟩ := msk_bit.1 h1
      obtain ⟨h3a, h3b⟩ := msk_bit.1 h3
      have hu := BitVec.lt_of_getLsbD h1a
      have hv := BitVec.lt_of_getLsbD h3a
      rw [BitVec.getLsbD_or, Bool.or_eq_false_iff] at h1b
      have hne := (one_bit hv).1 h1b.2
      refine ⟨u, msk_bit.2 ⟨h1a, h1b.1⟩, (mat_pull hi).2 ⟨v, msk_bit.2 ⟨h3a, ?_⟩, by rw [sw]; exact h2⟩⟩
      rw [BitVec.getLsbD_or, h3b, (one_bit hu).2 (Ne.symm hne)]; rfl
theorem mat_pull0 {i : Nat} {l : List (BitVec 64)} (hi : i < l.length) : Mat l ↔ ∃ u, (l.getD i 0).getLsbD u = true ∧ Mat (msk (l.eraseIdx i) (1#64 <<< u)) := by
  have := mat_pull (t := 0#64) hi
  rw [msk_0] at this
  rw [this]
  have h0 : ∀ u : Nat, (0#64 : BitVec 64) ||| 1#64 <<< u = 1#64 <<< u := fun u => by simp
  simp only [h0, msk_bit]
  simp
/-- the first full matching -/
def lst : List (BitVec 64) → BitVec 64 → List Nat
  | [], _ => []
  | w :: l, t => match (pl (w &&& ~~~t) 0).find? (fun u => fullB l (t ||| 1#64 <<< u)) with
    | some u => u :: lst l (t ||| 1#64 <<< u)
    | none => lst l t
theorem lst_ok : ∀ {l : List (BitVec 64)} {t : BitVec 64}, Mat (msk l t) → MatU (msk l t) (lst l t)
  | [], t, _ => matU_nil.2 rfl
  | w :: l, t, h => by
    obtain ⟨u, h1, h2⟩ := mat_consT.1 h
    rw [lst]
    cases hf : (pl (w &&& ~~~t) 0).find? (fun u => fullB l (t ||| 1#64 <<< u)) with
    | none =>
      have := List.find?_eq_none.1 hf u (mem_pl.2 ⟨Nat.zero_le _, BitVec.lt_of_getLsbD h1, h1⟩)
      rw [fullB_iff.2 h2] at this; simp at this
    | some v =>
      have hv := (mem_pl.1 (List.mem_of_find?_eq_some hf)).2
      have hv2 : Mat (msk l (t ||| 1#64 <<< v)) := fullB_iff.1 (by have := List.find?_some hf; exact this)
      have ih := matU_msk.1 (lst_ok hv2)
      show MatU ((w &&& ~~~t) :: msk l t) _
      refine matU_cons.2 ⟨hv.2, fun hm => ?_, matU_msk.2 ⟨ih.1, fun x hx => ?_⟩⟩
      · have := ih.2 v hm
        rw [BitVec.getLsbD_or, Bool.or_eq_false_iff] at this
        exact (one_bit hv.1).1 this.2 rfl
      · have := ih.2 x hx
        rw [BitVec.getLsbD_or, Bool.or_eq_false_iff] at this
        exact this.1
/-- the places that row i has in some full matching -/
def frF (l : List (BitVec 64)) (i : Nat) (us : List Nat) : BitVec 64 := us.foldl (fun f u => if fullB (l.eraseIdx i) (1#64 <<< u) = true then f ||| 1#64 <<< u else f) 0#64
def frW (l : List (BitVec 64)) (i : Nat) : BitVec 64 := frF l i (pl (l.getD i 0) 0)
theorem frF_snoc {l : List (BitVec 64)} {i : Nat} {us : List Nat} {u : Nat} : frF l i (us ++ [u]) = if fullB (l.eraseIdx i) (1#64 <<< u) = true then frF l i us ||| 1#64 <<< u else frF l i us := by
  unfold frF; rw [List.foldl_append]; rfl
theorem frW_bit {l : List (BitVec 64)} {i u : Nat} : (frW l i).getLsbD u = true ↔ (l.getD i 0).getLsbD u = true ∧ Mat (msk (l.eraseIdx i) (1#64 <<< u)) := by
  have h : ∀ (us : List Nat) (f : BitVec 64), (∀ v, v ∈ us → v < 64) → ((us.foldl (fun f u => if fullB (l.eraseIdx i) (1#64 <<< u) = true then f ||| 1#64 <<< u else f) f).getLsbD u = true ↔ f.getLsbD u = true ∨ (u ∈ us ∧ Mat (msk (l.eraseIdx i) (1#64 <<< u)))) := by
    intro us
    induction us with
    | nil => intro f _; simp
    | cons v us ih =>
      intro f hv
      have hv64 := hv v (List.mem_cons_self ..)
      rw [List.foldl_cons, ih _ fun x hx => hv x (List.mem_cons_of_mem _ hx)]
      by_cases hf : fullB (l.eraseIdx i) (1#64 <<< v) = true
      · rw [if_pos hf, or1 hv64]
        constructor
        · rintro ((h | h) | h)
          · exact .inl h
          · subst h; exact .inr ⟨List.mem_cons_self .., fullB_iff.1 hf⟩
          · exact .inr ⟨List.mem_cons_of_mem _ h.1, h.2⟩
        · rintro (h | ⟨h, h2⟩)
          · exact .inl (.inl h)
          · rcases List.mem_cons.1 h with rfl | h
            · exact .inl (.inr rfl)
            · exact .inr ⟨h, h2⟩
      · rw [if_neg hf]
        constructor
        · rintro (h | h)
          · exact .inl h
          · exact .inr ⟨List.mem_cons_of_mem _ h.1, h.2⟩
        · rintro (h | ⟨h, h2⟩)
          · exact .inl h
          · rcases List.mem_cons.1 h with rfl | h
            · exact absurd (fullB_iff.2 h2) hf
            · exact .inr ⟨h, h2⟩
  unfold frW frF
  rw [h _ _ fun v hv => (mem_pl.1 hv).2.1]
  constructor
  · rintro (h | ⟨h, h2⟩)
    · simp at h
    · exact ⟨(mem_pl.1 h).2.2, h2⟩
  · rintro ⟨h, h2⟩
    exact .inr ⟨mem_pl.2 ⟨Nat.zero_le _, BitVec.lt_of_getLsbD h, h⟩, h2⟩
theorem frW_sub {l : List (BitVec 64)} {i : Nat} : frW l i &&& ~~~(l.getD i 0) = 0#64 := andNot_zero.2 fun u _ h => (frW_bit.1 h).1
theorem frW_ne {l : List (BitVec 64)} {i : Nat} (hi : i < l.length) : frW l i ≠ 0#64 ↔ Mat l := by
  rw [mat_pull0 hi]
  constructor
  · intro h
    obtain ⟨u, _, hu⟩ := word_ne h
    exact ⟨u, frW_bit.1 hu⟩
  · rintro ⟨u, hu⟩ e
    have := frW_bit.2 hu
    rw [e] at this; simp at this
/-- only one place for the row -/
theorem frW_one {l : List (BitVec 64)} {i u : Nat} (hi : i < l.length) (hu : u < 64) : (frW l i).getLsbD u = true ↔ Mat (l.set i (l.getD i 0 &&& 1#64 <<< u)) := by
  rw [mat_pull0 (i := i) (by rw [List.length_set]; exact hi), frW_bit]
  have h1 : (l.set i (l.getD i 0 &&& 1#64 <<< u)).getD i 0 = l.getD i 0 &&& 1#64 <<< u := by
    rw [List.getD_eq_getElem?_getD, List.getElem?_set_self hi]; rfl
  have h2 : (l.set i (l.getD i 0 &&& 1#64 <<< u)).eraseIdx i = l.eraseIdx i := List.eraseIdx_set_eq
  rw [h1, h2]
  constructor
  · rintro ⟨h3, h4⟩
    exact ⟨u, by rw [BitVec.getLsbD_and, h3, shl_bit]; simp [hu], h4⟩
  · rintro ⟨v, h3, h4⟩
    rw [BitVec.getLsbD_and, Bool.and_eq_true, shl_bit, Bool.and_eq_true, decide_eq_true_eq] at h3
    obtain ⟨h3, rfl, _⟩ := h3
    exact ⟨h3, h4⟩
theorem getD_memN {us : List Nat} {i : Nat} (h : i < us.length) : us.getD i 0 ∈ us := by
  rw [List.getD_eq_getElem?_getD, List.getElem?_eq_getElem h]; exact List.getElem_mem h
theorem matU_er : ∀ {i : Nat} {l : List (BitVec 64)} {us : List Nat}, MatU l us → i < l.length → MatU (l.eraseIdx i) (us.eraseIdx i) ∧ ∀ v, v ∈ us.eraseIdx i → v ≠ us.getD i 0 ∧ v ∈ us
  | _, [], _, _, h => by simp at h
  | _, _ :: _, [], h, _ => by have := h.len; simp at this
  | 0, w :: l, u :: us, h, _ => by
    obtain ⟨h1, h2, h3⟩ := matU_cons.1 h
    exact ⟨h3, fun v hv => ⟨fun e => h2 (by have e : v = u := e; rw [← e]; exact hv), List.mem_cons_of_mem _ hv⟩⟩
  | i + 1, w :: l, u :: us, h, hi => by
    obtain ⟨h1, h2, h3⟩ := matU_cons.1 h
    have hi' : i < l.length := by simpa using hi
    obtain ⟨h4, h5⟩ := matU_er h3 hi'
    have hiu : i < us.length := by rw [h3.len]; exact hi'
    rw [List.eraseIdx_cons_succ, List.eraseIdx_cons_succ, List.getD_cons_succ]
    refine ⟨matU_cons.2 ⟨h1, fun hm => h2 (h5 u hm).2, h4⟩, fun v hv => ?_⟩
    rcases List.mem_cons.1 hv with rfl | hv
    · exact ⟨fun e => h2 (e ▸ getD_memN hiu), List.mem_cons_self ..⟩
    · exact ⟨(h5 v hv).1, List.mem_cons_of_mem _ (h5 v hv).2⟩
theorem matU_erase {i : Nat} {l : List (BitVec 64)} {us : List Nat} (h : MatU l us) (hi : i < l.length) : (frW l i).getLsbD (us.getD i 0) = true := by
  obtain ⟨h1, h2⟩ := matU_er h hi
  have hb := h.ok i hi
  exact frW_bit.2 ⟨hb, _, matU_msk.2 ⟨h1, fun v hv => (one_bit (BitVec.lt_of_getLsbD hb)).2 (h2 v hv).1⟩⟩
end Go.V
