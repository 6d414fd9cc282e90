import Derived.Test.YtpekleeidllllaaDoorP8
/- Rows that look for places of their own: a way of rows that move on; what it shows. (own work) -/
set_option autoImplicit true
set_option linter.unusedSimpArgs false
set_option linter.unusedVariables false
namespace Go.V
open Go
/-- of each place the row that has it, and one; the places that were tried -/
abbrev GSt : Type := List Int × BitVec 64
def grL (g : Int → GSt → Bool × GSt) (row : Int) : List Nat → GSt → Bool × GSt
  | [], s => (false, s)
  | u :: l, s =>
    if s.2.getLsbD u = true then grL g row l s
    else if s.1.getD u 0 = 0 then (true, (s.1.set u (row + 1), s.2 ||| 1#64 <<< u))
    else if (g (s.1.getD u 0 - 1) (s.1, s.2 ||| 1#64 <<< u)).1 = true then (true, ((g (s.1.getD u 0 - 1) (s.1, s.2 ||| 1#64 <<< u)).2.1.set u (row + 1), (g (s.1.getD u 0 - 1) (s.1, s.2 ||| 1#64 <<< u)).2.2))
    else grL g row l (g (s.1.getD u 0 - 1) (s.1, s.2 ||| 1#64 <<< u)).2
def grw (rows : List (BitVec 64)) : Nat → Int → GSt → Bool × GSt
  | 0, _, s => (false, s)
  | n + 1, row, s => grL (grw rows n) row (pl (rows.getD row.toNat 0 &&& ~~~s.2) 0) s
/-- so many places has a row -/
def ownd (O : List Int) (r : Int) : Nat := (List.range 64).countP fun u => O.getD u 0 == r + 1
/-- who has a place may have it -/
structure Gok (rows : List (BitVec 64)) (O : List Int) : Prop where
  len : O.length = 64
  nn : ∀ u, u < 64 → 0 ≤ O.getD u 0 ∧ O.getD u 0 ≤ rows.length
  may : ∀ u, u < 64 → O.getD u 0 ≠ 0 → (rows.getD (O.getD u 0 - 1).toNat 0).getLsbD u = true
theorem getD_setI {O : List Int} {u v : Nat} {r : Int} (h : u < O.length) : (O.set u r).getD v 0 = if v = u then r else O.getD v 0 := by
  rw [List.getD_eq_getElem?_getD, List.getElem?_set]
  by_cases e : u = v
  · subst e; rw [if_pos rfl, if_pos h, if_pos rfl]; rfl
  · rw [if_neg e, if_neg (fun x => e x.symm), List.getD_eq_getElem?_getD]
theorem Gok.set {rows : List (BitVec 64)} {O : List Int} (k : Gok rows O) {u : Nat} {row : Int} (hu : u < 64) (hr : 0 ≤ row ∧ row < rows.length) (hm : (rows.getD row.toNat 0).getLsbD u = true) : Gok rows (O.set u (row + 1)) := by
  have hul : u < O.length := by rw [k.len]; exact hu
  refine ⟨by rw [List.length_set]; exact k.len, fun v hv => ?_, fun v hv h => ?_⟩
  · rw [getD_setI hul]; split
    · omega
    · exact k.nn v hv
  · rw [getD_setI hul] at h ⊢
    split
    · rename_i e; subst e; rw [show row + 1 - 1 = row by omega]; exact hm
    · rename_i e; rw [if_neg e] at h; exact k.may v hv h
theorem own_set {O : List Int} {u : Nat} {row r : Int} (hO : O.length = 64) (hu : u < 64) : ownd (O.set u (row + 1)) r + (if O.getD u 0 = r + 1 then 1 else 0) = ownd O r + if row = r then 1 else 0 := by
  have hul : u < O.length := by rw [hO]; exact hu
  have h : ∀ n, (List.range n).countP (fun v => (O.set u (row + 1)).getD v 0 == r + 1) + (if u < n ∧ O.getD u 0 = r + 1 then 1 else 0) = (List.range n).countP (fun v => O.getD v 0 == r + 1) + if u < n ∧ row = r then 1 else 0 := by
    intro n
    induction n with
    | zero => simp
    | succ n ih =>
      rw [List.range_succ, List.countP_append, List.countP_append, List.countP_singleton, List.countP_singleton, getD_setI hul]
      by_cases e : n = u
      · subst e
        simp only [Nat.lt_irrefl, false_and, if_false, Nat.add_zero] at ih
        simp only [if_true, Nat.lt_succ_self, true_and, beq_iff_eq]
        rw [ih]
        by_cases h1 : row = r
        · have : row + 1 = r + 1 := by omega
          simp only [h1, if_true]; omega
        · have : ¬ row + 1 = r + 1 := by omega
          simp only [this, h1, if_false]; omega
      · rw [if_neg e]
        have e2 : (u < n + 1) ↔ u < n := by omega
        simp only [e2]; omega
  have := h 64
  simp only [hu, true_and] at this
  exact this
/-- what a try shows -/
structure Gro (rows : List (BitVec 64)) (row : Int) (s : GSt) (b : Bool) (t : GSt) : Prop where
  sub : subW s.2 t.2
  yes : b = true → Gok rows t.1 ∧ (∀ u, s.2.getLsbD u = true → t.1.getD u 0 = s.1.getD u 0) ∧ ∀ r, 0 ≤ r → ownd t.1 r = ownd s.1 r + if row = r then 1 else 0
  no : b = false → t.1 = s.1 ∧ (∀ u, (rows.getD row.toNat 0).getLsbD u = true → t.2.getLsbD u = true) ∧ ∀ u, t.2.getLsbD u = true → s.2.getLsbD u = false → s.1.getD u 0 ≠ 0 ∧ subW (rows.getD (s.1.getD u 0 - 1).toNat 0) t.2
theorem or1 {w : BitVec 64} {u a : Nat} (hu : u < 64) : (w ||| 1#64 <<< u).getLsbD a = true ↔ w.getLsbD a = true ∨ a = u := by
  rw [or_bit]; simp only [Bool.or_eq_true, Bool.and_eq_true, decide_eq_true_eq]
  constructor
  · rintro (h | ⟨h, _⟩)
    · exact .inl h
    · exact .inr h
  · rintro (h | h)
    · exact .inl h
    · exact .inr ⟨h, by omega⟩
theorem grL_ok {rows : List (BitVec 64)} {g : Int → GSt → Bool × GSt} {row : Int} (hr : 0 ≤ row ∧ row < rows.length) {k : Nat}
    (hg : ∀ (r : Int) t, 0 ≤ r → r < rows.length → Gok rows t.1 → 64 - come 64 t.2 < k → Gro rows r t (g r t).1 (g r t).2) :
    ∀ {l : List Nat} {s0 s : GSt}, (∀ u, u ∈ l → (rows.getD row.toNat 0).getLsbD u = true) → Gok rows s.1 → 64 - come 64 s.2 ≤ k → s.1 = s0.1 → subW s0.2 s.2 →
      (∀ u, (rows.getD row.toNat 0).getLsbD u = true → s.2.getLsbD u = true ∨ u ∈ l) → (∀ u, s.2.getLsbD u = true → s0.2.getLsbD u = false → s0.1.getD u 0 ≠ 0 ∧ subW (rows.getD (s0.1.getD u 0 - 1).toNat 0) s.2) →
      Gro rows row s0 (grL g row l s).1 (grL g row l s).2
  | [], s0, s, _, _, _, he, hsub, hall, hcl => by
    refine ⟨hsub, (fun h => by cases h), fun _ => ⟨he, fun u hu => (hall u hu).elim id (fun h => by cases h), hcl⟩⟩
  | u :: l, s0, s, hl, hk, hm, he, hsub, hall, hcl => by
    have hu := hl u (List.mem_cons_self ..)
    have hu64 := BitVec.lt_of_getLsbD hu
    have hl' : ∀ v, v ∈ l → (rows.getD row.toNat 0).getLsbD v = true := fun v hv => hl v (List.mem_cons_of_mem _ hv)
    have huO : u < s.1.length := by rw [hk.len]; exact hu64
    rw [grL]
    split
    · rename_i hs
      refine grL_ok hr hg hl' hk hm he hsub (fun v hv => ?_) hcl
      rcases hall v hv with h | h
      · exact .inl h
      · rcases List.mem_cons.1 h with e | h
        · subst e; exact .inl hs
        · exact .inr h
    · rename_i hs
      have hsf : s.2.getLsbD u = false := by cases h : s.2.getLsbD u <;> simp_all
      have hs0 : s0.2.getLsbD u = false := by
        cases h : s0.2.getLsbD u with
        | false => rfl
        | true => rw [hsub u h] at hsf; cases hsf
      have hs1 : subW s.2 (s.2 ||| 1#64 <<< u) := fun a ha => (or1 hu64).2 (.inl ha)
      have hnn := hk.nn u hu64
      split
      · rename_i h0
        refine ⟨fun a ha => hs1 a (hsub a ha), fun _ => ⟨hk.set hu64 hr hu, fun v hv => ?_, fun r hr0 => ?_⟩, (fun h => by cases h)⟩
        · rw [getD_setI huO, if_neg (fun e => by subst e; rw [hv] at hs0; cases hs0), he]
        · have := own_set (row := row) (r := r) hk.len hu64
          rw [h0] at this
          rw [← he]
          rw [if_neg (by omega)] at this; exact this
      · rename_i h0
        have hgk := hg (s.1.getD u 0 - 1) (s.1, s.2 ||| 1#64 <<< u) (by omega) (by omega) hk (by
          have := come_grow hs1 ⟨u, (or1 hu64).2 (.inr rfl), hsf⟩
          have := come_le (s.2 ||| 1#64 <<< u)
          simp only; omega)
        split
        · rename_i hb
          obtain ⟨g1, g2, g3⟩ := hgk.yes hb
          have hlen := g1.len
          refine ⟨fun a ha => hgk.sub a (hs1 a (hsub a ha)), fun _ => ⟨g1.set hu64 hr hu, fun v hv => ?_, fun r hr0 => ?_⟩, (fun h => by cases h)⟩
          · rw [getD_setI (by rw [hlen]; exact hu64), if_neg (fun e => by subst e; rw [hv] at hs0; cases hs0), g2 v (hs1 v (hsub v hv)), he]
          · have h1 := own_set (row := row) (r := r) hlen hu64
            have h2 := g3 r hr0
            have h3 := g2 u ((or1 hu64).2 (.inr rfl))
            simp only at h2 h3
            rw [h3] at h1
            rw [← he]
            show ownd ((g (s.1.getD u 0 - 1) (s.1, s.2 ||| 1#64 <<< u)).2.1.set u (row + 1)) r = ownd s.1 r + (if row = r then 1 else 0)
            by_cases hq : s.1.getD u 0 = r + 1
            · rw [if_pos hq] at h1; rw [if_pos (by omega)] at h2; omega
            · rw [if_neg hq] at h1; rw [if_neg (by omega)] at h2; omega
        · rename_i hb
          have hbf : (g (s.1.getD u 0 - 1) (s.1, s.2 ||| 1#64 <<< u)).1 = false := by
            cases h : (g (s.1.getD u 0 - 1) (s.1, s.2 ||| 1#64 <<< u)).1 <;> simp_all
          obtain ⟨g1, g2, g3⟩ := hgk.no hbf
          simp only at g1 g2 g3
          have hsub2 : subW s.2 (g (s.1.getD u 0 - 1) (s.1, s.2 ||| 1#64 <<< u)).2.2 := fun a ha => hgk.sub a (hs1 a ha)
          refine grL_ok hr hg hl' (by rw [g1]; exact hk) ?_ (g1.trans he) (fun a ha => hsub2 a (hsub a ha)) (fun v hv => ?_) fun v hv hv0 => ?_
          · have : come 64 s.2 ≤ come 64 (g (s.1.getD u 0 - 1) (s.1, s.2 ||| 1#64 <<< u)).2.2 := List.countP_mono_left fun x _ hx => hsub2 x hx
            omega
          · rcases hall v hv with h | h
            · exact .inl (hsub2 v h)
            · rcases List.mem_cons.1 h with e | h
              · subst e; exact .inl (hgk.sub v ((or1 hu64).2 (.inr rfl)))
              · exact .inr h
          · rw [← he]
            by_cases h1 : s.2.getLsbD v = true
            · have := hcl v h1 hv0
              rw [← he] at this
              exact ⟨this.1, fun a ha => hsub2 a (this.2 a ha)⟩
            · by_cases e : v = u
              · subst e; exact ⟨h0, g2⟩
              · have h1f : (s.2 ||| 1#64 <<< u).getLsbD v = false := by
                  cases h : (s.2 ||| 1#64 <<< u).getLsbD v with
                  | false => rfl
                  | true => exact ((or1 hu64).1 h).elim (fun h => absurd h h1) fun h => absurd h e
                exact g3 v hv h1f
theorem grw_ok {rows : List (BitVec 64)} : ∀ {n : Nat} {row : Int} {s : GSt}, 0 ≤ row → row < rows.length → Gok rows s.1 → 64 - come 64 s.2 < n → Gro rows row s (grw rows n row s).1 (grw rows n row s).2
  | 0, row, s, _, _, _, h => by omega
  | n + 1, row, s, h1, h2, hk, h => by
    rw [grw]
    refine grL_ok (k := n) ⟨h1, h2⟩ (fun r t a b c d => grw_ok a b c (by omega)) (fun u hu => ?_) hk (by omega) rfl (fun _ h => h) (fun u hu => ?_) fun u hu hu' => by rw [hu] at hu'; cases hu'
    · have := (mem_pl.1 hu).2.2
      rw [BitVec.getLsbD_and, Bool.and_eq_true] at this; exact this.1
    · have hu64 := BitVec.lt_of_getLsbD hu
      cases hs : s.2.getLsbD u with
      | true => exact .inl rfl
      | false => exact .inr (mem_pl.2 ⟨Nat.zero_le _, hu64, by rw [BitVec.getLsbD_and, hu, BitVec.getLsbD_not, hs]; simp [hu64]⟩)
theorem come_le2 {s t : BitVec 64} (h : subW s t) : come 64 s ≤ come 64 t := List.countP_mono_left fun x _ hx => h x hx
theorem bool_f {b : Bool} (h : ¬ b = true) : b = false := by cases b <;> simp_all
end Go.V
