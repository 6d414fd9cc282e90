import Derived.Test.YtpekleeidllllaaDoorP12
/- Rows with places of their own: the tries find them just if there are any. (own work) -/
set_option autoImplicit true
set_option linter.unusedSimpArgs false
set_option linter.unusedVariables false
namespace Go.V
open Go
/-- a place for each row, none twice -/
structure MatU (l : List (BitVec 64)) (us : List Nat) : Prop where
  len : us.length = l.length
  nd : us.Nodup
  ok : ∀ k, k < l.length → (l.getD k 0).getLsbD (us.getD k 0) = true
def Mat (l : List (BitVec 64)) : Prop := ∃ us, MatU l us
/-- owners after k rows, and how many found a place -/
def szO (rows : List (BitVec 64)) : Nat → List Int × Nat
  | 0 => (List.replicate 64 0, 0)
  | k + 1 => ((grw rows 65 k ((szO rows k).1, 0#64)).2.1, if (grw rows 65 k ((szO rows k).1, 0#64)).1 = true then (szO rows k).2 + 1 else (szO rows k).2)
def szN (rows : List (BitVec 64)) : Nat := (szO rows rows.length).2
theorem szO_le {rows : List (BitVec 64)} : ∀ {k : Nat}, (szO rows k).2 ≤ k
  | 0 => Nat.le_refl _
  | k + 1 => by
    have := @szO_le rows k
    rw [szO]; simp only; split <;> omega
theorem Gok.init {rows : List (BitVec 64)} : Gok rows (List.replicate 64 0) := by
  have h : ∀ u, (List.replicate 64 (0 : Int)).getD u 0 = 0 := fun u => by
    rw [List.getD_eq_getElem?_getD, List.getElem?_replicate]; split <;> rfl
  exact ⟨by simp, fun u _ => by rw [h]; omega, fun u _ h' => absurd (h u) h'⟩
theorem szO_gro {rows : List (BitVec 64)} {k : Nat} (hk : k < rows.length) (hg : Gok rows (szO rows k).1) : Gro rows k ((szO rows k).1, 0#64) (grw rows 65 k ((szO rows k).1, 0#64)).1 (grw rows 65 k ((szO rows k).1, 0#64)).2 :=
  grw_ok (by omega) (by omega) hg (by rw [come_0]; omega)
theorem szO_ok {rows : List (BitVec 64)} : ∀ {k : Nat}, k ≤ rows.length → Gok rows (szO rows k).1
  | 0, _ => Gok.init
  | k + 1, h => by
    have hg := szO_gro (show k < rows.length by omega) (szO_ok (by omega))
    rw [szO]
    cases hb : (grw rows 65 k ((szO rows k).1, 0#64)).1 with
    | true => exact (hg.yes hb).1
    | false => rw [show ((grw rows 65 (k : Int) ((szO rows k).1, 0#64)).2.1, _).1 = _ from rfl, (hg.no hb).1]; exact szO_ok (by omega)
theorem ownd_0 {r : Int} (h : 0 ≤ r) : ownd (List.replicate 64 0) r = 0 := by
  unfold ownd
  rw [List.countP_eq_zero]
  intro u hu
  rw [List.getD_eq_getElem?_getD, List.getElem?_replicate]
  split <;> simp <;> omega
/-- where all rows before found a place, each of them has one -/
theorem szO_own {rows : List (BitVec 64)} : ∀ {k : Nat}, k ≤ rows.length → (szO rows k).2 = k → ∀ r : Nat, ownd (szO rows k).1 r = if r < k then 1 else 0
  | 0, _, _, r => by rw [szO]; simp only; rw [ownd_0 (by omega)]; rfl
  | k + 1, h, hn, r => by
    have hg := szO_gro (show k < rows.length by omega) (szO_ok (by omega))
    have hle := @szO_le rows k
    rw [szO] at hn
    simp only at hn
    cases hb : (grw rows 65 k ((szO rows k).1, 0#64)).1 with
    | false => rw [hb] at hn; simp at hn; omega
    | true =>
      rw [hb] at hn; simp only [if_true] at hn
      have ih := szO_own (show k ≤ rows.length by omega) (by omega) r
      have := (hg.yes hb).2.2 r (by omega)
      rw [szO]; simp only
      rw [this]; simp only
      rw [ih]
      by_cases e : r = k
      · subst e; simp
      · have : ¬ ((k : Int) = (r : Int)) := by omega
        rw [if_neg this]
        by_cases h1 : r < k
        · rw [if_pos h1, if_pos (by omega)]
        · rw [if_neg h1, if_neg (by omega)]
theorem nodup_sub : ∀ {l m : List Nat}, l.Nodup → (∀ x, x ∈ l → x ∈ m) → l.length ≤ m.length
  | [], m, _, _ => by simp
  | x :: l, m, hn, h => by
    have hx := h x (List.mem_cons_self ..)
    have hn' := List.nodup_cons.1 hn
    have := nodup_sub (l := l) (m := m.erase x) hn'.2 fun y hy => by
      have hne : y ≠ x := fun e => hn'.1 (e ▸ hy)
      exact (List.mem_erase_of_ne hne).2 (h y (List.mem_cons_of_mem _ hy))
    rw [List.length_erase_of_mem hx] at this
    have hp := List.length_pos_of_mem hx
    rw [List.length_cons]; omega
theorem pl_nodup (w : BitVec 64) : (pl w 0).Nodup := by
  unfold pl
  exact List.Nodup.sublist List.filter_sublist (List.nodup_range' ..)
theorem own_one {O : List Int} {u v : Nat} {r : Int} (hu : u < 64) (hv : v < 64) (h1 : O.getD u 0 = r + 1) (h2 : O.getD v 0 = r + 1) (hne : u ≠ v) : 2 ≤ ownd O r := by
  unfold ownd
  rw [List.countP_eq_length_filter]
  exact nodup_sub (l := [u, v]) (by simp [hne]) fun x hx => by
    simp only [List.mem_cons, List.not_mem_nil, or_false] at hx
    rcases hx with rfl | rfl
    · exact List.mem_filter.2 ⟨List.mem_range.2 hu, by rw [beq_iff_eq]; exact h1⟩
    · exact List.mem_filter.2 ⟨List.mem_range.2 hv, by rw [beq_iff_eq]; exact h2⟩
theorem nodup_getD {us : List Nat} (h : us.Nodup) {i j : Nat} (hi : i < us.length) (hj : j < us.length) (e : us.getD i 0 = us.getD j 0) : i = j := by
  rw [List.getD_eq_getElem?_getD, List.getD_eq_getElem?_getD, List.getElem?_eq_getElem hi, List.getElem?_eq_getElem hj] at e
  have hp := List.pairwise_iff_getElem.1 (List.nodup_iff_pairwise_ne.1 h)
  rcases Nat.lt_trichotomy i j with h1 | h1 | h1
  · exact absurd e (hp i j hi hj h1)
  · exact h1
  · exact absurd (Eq.symm e) (hp j i hj hi h1)
/-- a try that fails shows rows with too few places -/
theorem no_mat {rows : List (BitVec 64)} {k : Nat} (hk : k < rows.length) (hn : (szO rows k).2 = k) (hb : (grw rows 65 k ((szO rows k).1, 0#64)).1 = false) : ¬ Mat rows := by
  rintro ⟨us, hm⟩
  have hok := szO_ok (rows := rows) (k := k) (by omega)
  have hg := szO_gro hk hok
  obtain ⟨_, h1, h2⟩ := hg.no hb
  have hown := szO_own (rows := rows) (k := k) (by omega) hn
  simp only at h1 h2
  let S := (grw rows 65 k ((szO rows k).1, 0#64)).2.2
  let O := (szO rows k).1
  have h2' : ∀ u, u ∈ pl S 0 → u < 64 ∧ O.getD u 0 ≠ 0 ∧ subW (rows.getD (O.getD u 0 - 1).toNat 0) S := fun u hu => by
    have hb := (mem_pl.1 hu).2
    exact ⟨hb.1, h2 u hb.2 (by simp)⟩
  -- the owner of such a place is one of the rows before
  have hlt : ∀ u, u ∈ pl S 0 → (O.getD u 0 - 1).toNat < k := fun u hu => by
    have hu2 := h2' u hu
    have hnn := hok.nn u hu2.1
    have h0 : O.getD u 0 ≠ 0 := hu2.2.1
    have hpos : 0 < ownd O ((O.getD u 0 - 1).toNat : Nat) := by
      unfold ownd
      rw [List.countP_pos_iff]
      exact ⟨u, List.mem_range.2 hu2.1, by
        have : O.getD u 0 = (((O.getD u 0 - 1).toNat : Nat) : Int) + 1 := by
          have : 0 ≤ O.getD u 0 := hnn.1
          omega
        simpa using this⟩
    have := hown (O.getD u 0 - 1).toNat
    by_cases h : (O.getD u 0 - 1).toNat < k
    · exact h
    · rw [if_neg h] at this
      have : ownd O ((O.getD u 0 - 1).toNat : Nat) = 0 := this
      omega
  have hus : us.length = rows.length := hm.len
  have hnd : ((pl S 0).map fun u => us.getD (O.getD u 0 - 1).toNat 0).Nodup := by
    rw [List.nodup_iff_pairwise_ne, List.pairwise_map]
    refine (List.nodup_iff_pairwise_ne.1 (pl_nodup S)).imp_of_mem ?_
    intro u v hu hv hne e
    have l1 := hlt u hu
    have l2 := hlt v hv
    have e' := nodup_getD hm.nd (by omega) (by omega) e
    have hu2 := h2' u hu
    have hv2 := h2' v hv
    have n1 : 0 ≤ O.getD u 0 := (hok.nn u hu2.1).1
    have n2 : 0 ≤ O.getD v 0 := (hok.nn v hv2.1).1
    have hu0 := hu2.2.1
    have hv0 := hv2.2.1
    have := own_one (O := O) (r := O.getD u 0 - 1) hu2.1 hv2.1 (by omega) (by omega) hne
    have h3 := hown (O.getD u 0 - 1).toNat
    rw [if_pos l1, show (((O.getD u 0 - 1).toNat : Nat) : Int) = O.getD u 0 - 1 by omega] at h3
    have h3 : ownd O (O.getD u 0 - 1) = 1 := h3
    omega
  have hall : ((us.getD k 0) :: (pl S 0).map fun u => us.getD (O.getD u 0 - 1).toNat 0).Nodup := by
    refine List.nodup_cons.2 ⟨fun hmem => ?_, hnd⟩
    obtain ⟨u, hu, e⟩ := List.mem_map.1 hmem
    have l1 := hlt u hu
    have := nodup_getD hm.nd (by omega) (by omega) e
    omega
  have := nodup_sub hall (m := pl S 0) fun x hx => by
    rcases List.mem_cons.1 hx with rfl | hx
    · have hk' := hm.ok k hk
      exact mem_pl.2 ⟨Nat.zero_le _, BitVec.lt_of_getLsbD hk', h1 _ (by rw [Int.toNat_natCast]; exact hk')⟩
    · obtain ⟨u, hu, rfl⟩ := List.mem_map.1 hx
      have hk' := hm.ok (O.getD u 0 - 1).toNat (by have := hlt u hu; omega)
      exact mem_pl.2 ⟨Nat.zero_le _, BitVec.lt_of_getLsbD hk', (h2' u hu).2.2 _ hk'⟩
  rw [List.length_cons, List.length_map] at this
  omega
theorem szO_step {rows : List (BitVec 64)} (hm : Mat rows) : ∀ {k : Nat}, k ≤ rows.length → (szO rows k).2 = k
  | 0, _ => rfl
  | k + 1, h => by
    have ih := szO_step hm (show k ≤ rows.length by omega)
    rw [szO]; simp only
    cases hb : (grw rows 65 k ((szO rows k).1, 0#64)).1 with
    | true => simp; omega
    | false => exact absurd hm (no_mat (by omega) ih hb)
/-- a full matching is found just if there is one -/
theorem full_iff {rows : List (BitVec 64)} : szN rows = rows.length ↔ Mat rows := by
  constructor
  · intro h
    have hok := szO_ok (rows := rows) (Nat.le_refl _)
    have hown := szO_own (rows := rows) (Nat.le_refl _) h
    have hex : ∀ r, r < rows.length → ∃ u, u < 64 ∧ (szO rows rows.length).1.getD u 0 = (r : Int) + 1 := fun r hr => by
      have := hown r
      rw [if_pos hr] at this
      have : 0 < ownd (szO rows rows.length).1 r := by omega
      unfold ownd at this
      obtain ⟨u, hu, e⟩ := List.countP_pos_iff.1 this
      exact ⟨u, List.mem_range.1 hu, by simpa using e⟩
    let f : Nat → Nat := fun r => ((List.range 64).find? fun u => (szO rows rows.length).1.getD u 0 == (r : Int) + 1).getD 0
    have hf : ∀ r, r < rows.length → f r < 64 ∧ (szO rows rows.length).1.getD (f r) 0 = (r : Int) + 1 := fun r hr => by
      obtain ⟨u, hu, e⟩ := hex r hr
      cases hfd : (List.range 64).find? fun u => (szO rows rows.length).1.getD u 0 == (r : Int) + 1 with
      | none =>
        have := List.find?_eq_none.1 hfd u (List.mem_range.2 hu)
        rw [e] at this; simp at this
      | some v =>
        have h1 := List.mem_of_find?_eq_some hfd
        have h2 := List.find?_some hfd
        show ((List.range 64).find? fun u => (szO rows rows.length).1.getD u 0 == (r : Int) + 1).getD 0 < 64 ∧ (szO rows rows.length).1.getD (((List.range 64).find? fun u => (szO rows rows.length).1.getD u 0 == (r : Int) + 1).getD 0) 0 = (r : Int) + 1
        rw [hfd]
        exact ⟨List.mem_range.1 h1, by simpa using h2⟩
    have hg : ∀ k, k < rows.length → ((List.range rows.length).map f).getD k 0 = f k := fun k hk => by
      rw [List.getD_eq_getElem?_getD, List.getElem?_map, List.getElem?_range hk]; rfl
    refine ⟨(List.range rows.length).map f, by simp, ?_, fun k hk => ?_⟩
    · rw [List.nodup_iff_pairwise_ne, List.pairwise_map]
      refine (List.nodup_iff_pairwise_ne.1 List.nodup_range).imp_of_mem ?_
      intro a b ha hb hne e
      have h1 := (hf a (List.mem_range.1 ha)).2
      have h2 := (hf b (List.mem_range.1 hb)).2
      rw [e, h2] at h1
      omega
    · rw [hg k hk]
      have := hf k hk
      have hmay := hok.may (f k) this.1 (by rw [this.2]; omega)
      rw [this.2, show (k : Int) + 1 - 1 = k by omega, Int.toNat_natCast] at hmay
      exact hmay
  · intro h; exact szO_step h (Nat.le_refl _)
end Go.V
