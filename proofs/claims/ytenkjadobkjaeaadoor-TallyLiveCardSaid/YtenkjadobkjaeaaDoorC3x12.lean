/- Proved: Rows.TallyLiveCardSaid, the statement TallyLive with its card, of the given program at the commit; no conditions beyond those in the statement. -/
import Derived.Test.YtenkjadobkjaeaaDoorC3x11
set_option autoImplicit true
set_option maxHeartbeats 1000000
set_option linter.unusedSimpArgs false
set_option linter.unusedVariables false
namespace Go.V
open Go
def fnd (has : List Int) (u : Nat) : Nat → Nat → Nat
  | 0, k => k
  | n + 1, k => if has.getD k 0 = (u : Int) then k else fnd has u n (k + 1)
def fndK (has : List Int) (u : Nat) : Nat := fnd has u has.length 0
theorem fnd_ge {has : List Int} {u : Nat} : ∀ {n k : Nat}, k ≤ fnd has u n k ∧ fnd has u n k ≤ k + n
  | 0, k => by rw [fnd]; omega
  | n + 1, k => by
    rw [fnd]; split
    · omega
    · have := @fnd_ge has u n (k + 1); omega
theorem fnd_no {has : List Int} {u : Nat} : ∀ {n k j : Nat}, k ≤ j → j < fnd has u n k → has.getD j 0 ≠ (u : Int)
  | 0, k, j, h1, h2 => by rw [fnd] at h2; omega
  | n + 1, k, j, h1, h2 => by
    rw [fnd] at h2
    split at h2
    · omega
    · rename_i hk
      by_cases e : j = k
      · subst e; exact hk
      · exact fnd_no (by omega) h2
theorem fnd_at {has : List Int} {u : Nat} : ∀ {n k : Nat}, fnd has u n k < k + n → has.getD (fnd has u n k) 0 = (u : Int)
  | 0, k, h => by rw [fnd] at h; omega
  | n + 1, k, h => by
    rw [fnd] at h ⊢
    split
    · rename_i hk; exact hk
    · rename_i hk; rw [if_neg hk] at h; exact fnd_at (by omega)
theorem fndK_is {has : List Int} {u k : Nat} (hk : k ≤ has.length) (h1 : ∀ j, j < k → has.getD j 0 ≠ (u : Int)) (h2 : k = has.length ∨ has.getD k 0 = (u : Int)) : fndK has u = k := by
  unfold fndK
  have hb := @fnd_ge has u has.length 0
  rcases Nat.lt_trichotomy (fnd has u has.length 0) k with h | h | h
  · exact absurd (fnd_at (by omega)) (h1 _ h)
  · exact h
  · rcases h2 with h2 | h2
    · omega
    · exact absurd h2 (fnd_no (Nat.zero_le _) h)
abbrev HSt : Type := List Int × BitVec 64
def trL (g : Nat → HSt → Bool × HSt) (rows : List (BitVec 64)) (i : Nat) : List Nat → HSt → Bool × HSt
  | [], s => (false, s)
  | u :: l, s =>
    if (rows.getD i 0).getLsbD u = false ∨ s.2.getLsbD u = true then trL g rows i l s
    else if fndK s.1 u = s.1.length then (true, (s.1.set i (u : Int), s.2 ||| 1#64 <<< u))
    else if (g (fndK s.1 u) (s.1, s.2 ||| 1#64 <<< u)).1 = true then (true, ((g (fndK s.1 u) (s.1, s.2 ||| 1#64 <<< u)).2.1.set i (u : Int), (g (fndK s.1 u) (s.1, s.2 ||| 1#64 <<< u)).2.2))
    else trL g rows i l (g (fndK s.1 u) (s.1, s.2 ||| 1#64 <<< u)).2
def trn (rows : List (BitVec 64)) : Nat → Nat → HSt → Bool × HSt
  | 0, _, s => (false, s)
  | n + 1, i, s => trL (trn rows n) rows i (List.range 64) s
structure Cor (n : Nat) (O has : List Int) : Prop where
  hl : has.length = n
  ol : O.length = 64
  to : ∀ k, k < n → has.getD k 0 = -1 ∨ ∃ u : Nat, u < 64 ∧ has.getD k 0 = (u : Int) ∧ O.getD u 0 = (k : Int) + 1
  fr : ∀ u, u < 64 → O.getD u 0 = 0 ∨ ∃ k : Nat, k < n ∧ O.getD u 0 = (k : Int) + 1 ∧ has.getD k 0 = (u : Int)
structure Cor2 (n i : Nat) (S : BitVec 64) (O has O' has' : List Int) : Prop where
  hl : has'.length = n
  ol : O'.length = 64
  to : ∀ k, k < n → has'.getD k 0 = -1 ∨ ∃ u : Nat, u < 64 ∧ has'.getD k 0 = (u : Int) ∧ O'.getD u 0 = (k : Int) + 1
  fr : ∀ u, u < 64 → O'.getD u 0 = 0 ∨ ∃ k : Nat, k < n ∧ O'.getD u 0 = (k : Int) + 1 ∧ (has'.getD k 0 = (u : Int) ∨ (k = i ∧ has.getD i 0 = (u : Int)))
  nw : ∃ u : Nat, u < 64 ∧ has'.getD i 0 = (u : Int) ∧ S.getLsbD u = false
  un : ∀ u, S.getLsbD u = true → O'.getD u 0 = O.getD u 0
  st : ∀ k, k < n → k ≠ i → (has.getD k 0 = -1 ∨ ∃ u : Nat, has.getD k 0 = (u : Int) ∧ S.getLsbD u = true) → has'.getD k 0 = has.getD k 0
theorem Cor.find {n : Nat} {O has : List Int} (c : Cor n O has) {u : Nat} (hu : u < 64) : (O.getD u 0 = 0 ∧ fndK has u = has.length) ∨ ∃ k : Nat, k < n ∧ O.getD u 0 = (k : Int) + 1 ∧ fndK has u = k ∧ has.getD k 0 = (u : Int) := by
  rcases c.fr u hu with h | ⟨k, hk, h1, h2⟩
  · left
    refine ⟨h, fndK_is (Nat.le_refl _) (fun j hj e => ?_) (.inl rfl)⟩
    rw [c.hl] at hj
    rcases c.to j hj with h3 | ⟨v, _, h3, h4⟩
    · rw [e] at h3; omega
    · rw [e] at h3
      have : v = u := by omega
      subst this; omega
  · right
    refine ⟨k, hk, h1, fndK_is (by rw [c.hl]; omega) (fun j hj e => ?_) (.inr h2), h2⟩
    rcases c.to j (by omega) with h3 | ⟨v, _, h3, h4⟩
    · rw [e] at h3; omega
    · rw [e] at h3
      have : v = u := by omega
      subst this; omega
structure Sam (n i : Nat) (O has : List Int) (S : BitVec 64) (p : Bool × GSt) (q : Bool × HSt) : Prop where
  b : p.1 = q.1
  s : p.2.2 = q.2.2
  no : p.1 = false → p.2.1 = O ∧ q.2.1 = has
  yes : p.1 = true → Cor2 n i S O has p.2.1 q.2.1
theorem or1f {w : BitVec 64} {u a : Nat} (hu : u < 64) : (w ||| 1#64 <<< u).getLsbD a = false ↔ w.getLsbD a = false ∧ a ≠ u := by
  have h := or1 (w := w) (a := a) hu
  constructor
  · intro h1
    refine ⟨?_, fun e => ?_⟩
    · cases hw : w.getLsbD a with
      | false => rfl
      | true => rw [h.2 (.inl hw)] at h1; cases h1
    · rw [h.2 (.inr e)] at h1; cases h1
  · rintro ⟨h1, h2⟩
    cases hw : (w ||| 1#64 <<< u).getLsbD a with
    | false => rfl
    | true => rcases h.1 hw with h3 | h3
              · rw [h1] at h3; cases h3
              · exact absurd h3 h2
theorem lists_same {rows : List (BitVec 64)} {n i : Nat} {O has : List Int} (hn : n = rows.length) (hi : i < n) (c : Cor n O has) {S0 : BitVec 64} (hio : has.getD i 0 = -1 ∨ ∃ u : Nat, has.getD i 0 = (u : Int) ∧ S0.getLsbD u = true) {g : Int → GSt → Bool × GSt} {g' : Nat → HSt → Bool × HSt}
    (hg : ∀ (k : Nat) (S : BitVec 64), k < n → subW S0 S → (∃ u : Nat, has.getD k 0 = (u : Int) ∧ S.getLsbD u = true) → Sam n k O has S (g k (O, S)) (g' k (has, S)) ∧ subW S (g k (O, S)).2.2) :
    ∀ {l m : List Nat} {S : BitVec 64}, subW S0 S → (∀ u, u ∈ m → u < 64) → l.Nodup → m.Nodup → (∀ u, u ∈ l ↔ u ∈ m ∧ (rows.getD i 0).getLsbD u = true ∧ S0.getLsbD u = false) → l = m.filter (fun u => (rows.getD i 0).getLsbD u && !S0.getLsbD u) →
      Sam n i O has S0 (grL g i l (O, S)) (trL g' rows i m (has, S))
  | l, [], S, hs, _, _, _, _, he => by
    subst he
    exact ⟨rfl, rfl, fun _ => ⟨rfl, rfl⟩, fun h => by cases h⟩
  | l, u :: m, S, hs, hm, hnl, hnm, hall, he => by
    have hu := hm u (List.mem_cons_self ..)
    have hm' : ∀ v, v ∈ m → v < 64 := fun v hv => hm v (List.mem_cons_of_mem _ hv)
    have hnm' := (List.nodup_cons.1 hnm).2
    have huO : u < O.length := by rw [c.ol]; exact hu
    have hil : i < has.length := by rw [c.hl]; exact hi
    have next : ∀ S', subW S0 S' → Sam n i O has S0 (grL g i (m.filter (fun u => (rows.getD i 0).getLsbD u && !S0.getLsbD u)) (O, S')) (trL g' rows i m (has, S')) := fun S' hS' =>
      lists_same hn hi c hio hg hS' hm' (hnm'.sublist List.filter_sublist) hnm' (fun v => by rw [List.mem_filter]; simp) rfl
    by_cases hb : (rows.getD i 0).getLsbD u && !S0.getLsbD u
    · have hl : l = u :: m.filter (fun u => (rows.getD i 0).getLsbD u && !S0.getLsbD u) := by rw [he, List.filter_cons, if_pos hb]
      rw [Bool.and_eq_true, Bool.not_eq_true'] at hb
      rw [hl, grL, trL]
      by_cases hS : S.getLsbD u = true
      · rw [if_pos hS, if_pos (.inr hS)]; exact next S hs
      · have hSf : S.getLsbD u = false := bool_f hS
        have hcond : ¬ ((rows.getD i 0).getLsbD u = false ∨ S.getLsbD u = true) := fun e => e.elim (fun h => by rw [hb.1] at h; cases h) hS
        simp only [if_neg hS, if_neg hcond]
        have hs1 : subW S0 (S ||| 1#64 <<< u) := fun a ha => (or1 hu).2 (.inl (hs a ha))
        rcases c.find hu with ⟨h0, hf⟩ | ⟨k, hk, h1, hf, h2⟩
        · simp only [if_pos h0, if_pos hf]
          refine ⟨rfl, rfl, (fun h => by cases h), fun _ => ?_⟩
          refine ⟨by rw [List.length_set]; exact c.hl, by rw [List.length_set]; exact c.ol, fun k hk => ?_, fun v hv => ?_, ⟨u, hu, by rw [Z0 hil, if_pos rfl], hb.2⟩, fun v hv => ?_, fun k hk hne _ => by rw [Z0 hil, if_neg hne]⟩
          · rw [Z0 hil]
            by_cases e : k = i
            · subst e; rw [if_pos rfl]; exact .inr ⟨u, hu, rfl, by rw [Z0 huO, if_pos rfl]⟩
            · rw [if_neg e]
              rcases c.to k hk with h3 | ⟨v, hv, h3, h4⟩
              · exact .inl h3
              · exact .inr ⟨v, hv, h3, by rw [Z0 huO, if_neg (fun e2 => by subst e2; omega)]; exact h4⟩
          · rw [Z0 huO]
            by_cases e : v = u
            · subst e; rw [if_pos rfl]; exact .inr ⟨i, hi, rfl, .inl (by rw [Z0 hil, if_pos rfl])⟩
            · rw [if_neg e]
              rcases c.fr v hv with h3 | ⟨k, hk, h3, h4⟩
              · exact .inl h3
              · refine .inr ⟨k, hk, h3, ?_⟩
                by_cases e2 : k = i
                · subst e2; exact .inr ⟨rfl, h4⟩
                · exact .inl (by rw [Z0 hil, if_neg e2]; exact h4)
          · rw [Z0 huO, if_neg (fun e => by subst e; rw [hv] at hb; cases hb.2)]
        · have hne0 : ¬ O.getD u 0 = 0 := by omega
          have hkl : ¬ fndK has u = has.length := by rw [hf, c.hl]; omega
          have e1 : O.getD u 0 - 1 = (k : Int) := by omega
          simp only [if_neg hne0, if_neg hkl, hf, e1]
          obtain ⟨sm, ssub⟩ := hg k (S ||| 1#64 <<< u) hk hs1 ⟨u, h2, (or1 hu).2 (.inr rfl)⟩
          have hki : k ≠ i := fun e => by
            subst e
            rcases hio with h3 | ⟨v, h3, h4⟩
            · omega
            · have : v = u := by omega
              subst this; rw [h4] at hb; cases hb.2
          cases hgb : (g k (O, S ||| 1#64 <<< u)).1 with
          | false =>
            have hgb' : (g' k (has, S ||| 1#64 <<< u)).1 = false := by rw [← sm.b]; exact hgb
            have hkn : ¬ k = has.length := by rw [c.hl]; omega
            simp only [hgb', Bool.false_eq_true, if_false, if_neg hkn]
            obtain ⟨n1, n2⟩ := sm.no hgb
            have es : (g k (O, S ||| 1#64 <<< u)).2 = (O, (g k (O, S ||| 1#64 <<< u)).2.2) := Prod.ext n1 rfl
            have es' : (g' k (has, S ||| 1#64 <<< u)).2 = (has, (g k (O, S ||| 1#64 <<< u)).2.2) := Prod.ext n2 sm.s.symm
            rw [es, es']
            exact next _ fun a ha => ssub a (hs1 a ha)
          | true =>
            have hgb' : (g' k (has, S ||| 1#64 <<< u)).1 = true := by rw [← sm.b]; exact hgb
            have hkn : ¬ k = has.length := by rw [c.hl]; omega
            simp only [hgb', if_true, if_neg hkn]
            have y := sm.yes hgb
            have hO1 : u < (g k (O, S ||| 1#64 <<< u)).2.1.length := by rw [y.ol]; exact hu
            have hi1 : i < (g' k (has, S ||| 1#64 <<< u)).2.1.length := by rw [y.hl]; exact hi
            have hOu : (g k (O, S ||| 1#64 <<< u)).2.1.getD u 0 = (k : Int) + 1 := by rw [y.un u ((or1 hu).2 (.inr rfl))]; exact h1
            obtain ⟨w, hw, hw1, hw2⟩ := y.nw
            have hwu : w ≠ u := ((or1f hu).1 hw2).2
            refine ⟨rfl, sm.s, (fun h => by cases h), fun _ => ?_⟩
            refine ⟨by rw [List.length_set]; exact y.hl, by rw [List.length_set]; exact y.ol, fun j hj => ?_, fun v hv => ?_, ⟨u, hu, by rw [Z0 hi1, if_pos rfl], hb.2⟩, fun v hv => ?_, fun j hj hne hst => ?_⟩
            · rw [Z0 hi1]
              by_cases e : j = i
              · subst e; rw [if_pos rfl]; exact .inr ⟨u, hu, rfl, by rw [Z0 hO1, if_pos rfl]⟩
              · rw [if_neg e]
                rcases y.to j hj with h3 | ⟨v, hv, h3, h4⟩
                · exact .inl h3
                · refine .inr ⟨v, hv, h3, ?_⟩
                  rw [Z0 hO1, if_neg (fun e2 => by
                    subst e2
                    have : j = k := by omega
                    subst this
                    omega)]; exact h4
            · rw [Z0 hO1]
              by_cases e : v = u
              · subst e; rw [if_pos rfl]; exact .inr ⟨i, hi, rfl, .inl (by rw [Z0 hi1, if_pos rfl])⟩
              · rw [if_neg e]
                rcases y.fr v hv with h3 | ⟨j, hj, h3, h4⟩
                · exact .inl h3
                · refine .inr ⟨j, hj, h3, ?_⟩
                  have h5 : (g' k (has, S ||| 1#64 <<< u)).2.1.getD j 0 = (v : Int) := by
                    rcases h4 with h4 | ⟨_, h4⟩
                    · exact h4
                    · omega
                  by_cases e2 : j = i
                  · subst e2
                    right
                    refine ⟨rfl, ?_⟩
                    have := y.st j hj (fun e => hki e.symm) (hio.imp id fun ⟨x, h6, h7⟩ => ⟨x, h6, (or1 hu).2 (.inl (hs x h7))⟩)
                    rw [← this]; exact h5
                  · exact .inl (by rw [Z0 hi1, if_neg e2]; exact h5)
            · rw [Z0 hO1, if_neg (fun e => by subst e; rw [hv] at hb; cases hb.2)]
              exact y.un v ((or1 hu).2 (.inl (hs v hv)))
            · rw [Z0 hi1, if_neg hne]
              by_cases e : j = k
              · subst e
                rcases hst with h3 | ⟨x, h3, h4⟩
                · omega
                · have : x = u := by omega
                  subst this; rw [h4] at hb; cases hb.2
              · exact y.st j hj e (hst.imp id fun ⟨x, h6, h7⟩ => ⟨x, h6, (or1 hu).2 (.inl (hs x h7))⟩)
    · have hl : l = m.filter (fun u => (rows.getD i 0).getLsbD u && !S0.getLsbD u) := by rw [he, List.filter_cons, if_neg hb]
      rw [hl, trL, if_pos ?_]
      · exact next S hs
      · cases hr : (rows.getD i 0).getLsbD u with
        | false => exact .inl rfl
        | true =>
          right
          cases hS0 : S0.getLsbD u with
          | true => exact hs u hS0
          | false => rw [hr, hS0] at hb; simp at hb
theorem grL_sub {g : Int → GSt → Bool × GSt} (hg : ∀ r s, subW s.2 (g r s).2.2) {row : Int} : ∀ {l : List Nat} {s : GSt}, (∀ u, u ∈ l → u < 64) → subW s.2 (grL g row l s).2.2
  | [], s, _ => fun _ h => h
  | u :: l, s, h => by
    have hu := h u (List.mem_cons_self ..)
    have h' : ∀ v, v ∈ l → v < 64 := fun v hv => h v (List.mem_cons_of_mem _ hv)
    have h1 : subW s.2 (s.2 ||| 1#64 <<< u) := fun a ha => (or1 hu).2 (.inl ha)
    have h2 := hg (s.1.getD u 0 - 1) (s.1, s.2 ||| 1#64 <<< u)
    rw [grL]
    split
    · exact grL_sub hg h'
    · split
      · exact h1
      · split
        · exact fun a ha => h2 a (h1 a ha)
        · exact fun a ha => grL_sub hg h' a (h2 a (h1 a ha))
theorem grw_sub {rows : List (BitVec 64)} : ∀ {n : Nat} {row : Int} {s : GSt}, subW s.2 (grw rows n row s).2.2
  | 0, row, s => fun _ h => h
  | n + 1, row, s => by
    rw [grw]
    exact grL_sub (fun r s => grw_sub) fun u hu => (mem_pl.1 hu).2.1
theorem trn_same {rows : List (BitVec 64)} : ∀ {N i : Nat} {O has : List Int} {S : BitVec 64}, i < rows.length → Cor rows.length O has → (has.getD i 0 = -1 ∨ ∃ u : Nat, has.getD i 0 = (u : Int) ∧ S.getLsbD u = true) →
    Sam rows.length i O has S (grw rows N i (O, S)) (trn rows N i (has, S))
  | 0, i, O, has, S, _, _, _ => ⟨rfl, rfl, fun _ => ⟨rfl, rfl⟩, fun h => by cases h⟩
  | N + 1, i, O, has, S, hi, c, hio => by
    rw [grw, trn]
    have hpl : pl (rows.getD ((i : Nat) : Int).toNat 0 &&& ~~~S) 0 = (List.range 64).filter (fun u => (rows.getD i 0).getLsbD u && !S.getLsbD u) := by
      unfold pl
      rw [← List.range_eq_range']
      apply List.filter_congr
      intro u hu
      rw [Int.toNat_natCast, BitVec.getLsbD_and, BitVec.getLsbD_not, decide_eq_true (List.mem_range.1 hu), Bool.true_and]
    refine lists_same rfl hi c hio (fun k S' hk hs hio' => ⟨trn_same hk c (.inr hio'), grw_sub (s := (O, S'))⟩) (fun _ h => h) (fun u hu => List.mem_range.1 hu) (pl_nodup _) List.nodup_range (fun u => ?_) hpl
    rw [hpl, List.mem_filter]; simp
def rsz (rows : List (BitVec 64)) : Nat → List Int × Nat
  | 0 => (List.replicate rows.length (-1), 0)
  | k + 1 => ((trn rows 65 k ((rsz rows k).1, 0#64)).2.1, if (trn rows 65 k ((rsz rows k).1, 0#64)).1 = true then (rsz rows k).2 + 1 else (rsz rows k).2)
theorem rep_getD {α : Type} {n k : Nat} {a d : α} (h : k < n) : (List.replicate n a).getD k d = a := by
  rw [List.getD_eq_getElem?_getD, List.getElem?_replicate, if_pos h]; rfl
theorem rsz_cor {rows : List (BitVec 64)} : ∀ {k : Nat}, k ≤ rows.length → Cor rows.length (szO rows k).1 (rsz rows k).1 ∧ (rsz rows k).2 = (szO rows k).2 ∧ ∀ j, k ≤ j → j < rows.length → (rsz rows k).1.getD j 0 = -1
  | 0, _ => by
    refine ⟨⟨by simp [rsz], by simp [szO], fun j hj => .inl (rep_getD hj), fun u hu => .inl (rep_getD hu)⟩, rfl, fun j _ hj => rep_getD hj⟩
  | k + 1, h => by
    obtain ⟨c, h1, h2⟩ := rsz_cor (rows := rows) (show k ≤ rows.length by omega)
    have hk : k < rows.length := by omega
    have hm := h2 k (Nat.le_refl _) hk
    have sm := trn_same (N := 65) (S := 0#64) hk c (.inl hm)
    rw [rsz, szO]
    simp only
    cases hb : (grw rows 65 k ((szO rows k).1, 0#64)).1 with
    | false =>
      obtain ⟨n1, n2⟩ := sm.no hb
      rw [← sm.b, hb, n1, n2]
      exact ⟨c, by simpa using h1, fun j hj hj' => h2 j (by omega) hj'⟩
    | true =>
      have y := sm.yes hb
      rw [← sm.b, hb]
      refine ⟨⟨y.hl, y.ol, y.to, fun u hu => ?_⟩, by simp [h1], fun j hj hj' => ?_⟩
      · rcases y.fr u hu with h3 | ⟨j, hj, h3, h4 | ⟨rfl, h4⟩⟩
        · exact .inl h3
        · exact .inr ⟨j, hj, h3, h4⟩
        · omega
      · rw [y.st j hj' (by omega) (.inl (h2 j (by omega) hj'))]; exact h2 j (by omega) hj'
theorem rsz_all {rows : List (BitVec 64)} : (rsz rows rows.length).2 = szN rows := (rsz_cor (Nat.le_refl _)).2.1
set_option autoImplicit false
open Go Go.RowKit
def CpN (h : Nat) (L : Zf) (v : VVal) (a : List Nat) : Prop := (a = [] ∧ v = .slice none 0 0 true 1) ∨ ∃ j, v = .slice (some (h + j, 0)) a.length a.length false 1 ∧ L[j]? = some (.cells (rcN a) true) ∧ 0 < a.length
section
variable {T : TypeId → Option VTy} {ρ : Operand → VVal} {H : Zf} {op : Op}
theorem v_cpN {s x : Operand} {ats : Array TypeId} {t u e : TypeId} {z : VTy} {du : TypeDesc} {L : Zf} {a : List Nat}
    (ho : op = .call { callee := .builtin .append, args := #[s, x], argTypes := ats }) (hat : ats = #[t, u]) (hz : velem T t = some (e, z)) (hu : (T u).map (·.desc) = some du) (hdu : isSeq du = true) (hz1 : z.size = 1)
    (hs : ρ s = .slice none 0 0 true 0) (hx : ρ x = fzN a) (hb : a.length * z.bytes ≤ 140737488355328 ∧ a.length ≤ 140737488355328) :
    ∃ v G, vop T ρ (H ++ L) op = some (v, G) ∧ ∃ Z, G = H ++ (L ++ Z) ∧ CpN H.length (L ++ Z) v a := by
  have hk' : srcLen (ρ x) = some a.length := by rw [hx]; rfl
  have h1 : (rcN a).all VVal.one = true := List.all_eq_true.2 fun v hv => by
    obtain ⟨n, _, rfl⟩ := List.mem_map.1 hv; rfl
  by_cases h0 : a.length = 0
  · obtain rfl : a = [] := List.eq_nil_of_length_eq_zero h0
    have hsrc : Z3 (H ++ L) z.size 0 (ρ x) = some [] := by
      rw [hx]; show Zt [] 0 (0 * z.size) = some []
      unfold Zt; simp
    refine ⟨_, _, ?_, [], by rw [List.append_nil], .inl ⟨rfl, rfl⟩⟩
    rw [ho, hat]
    simp only [vop, ZU, List.map_cons, List.map_nil, YB, hz, hs, hu, hk']
    simp only [List.length_nil]
    rw [hsrc]
    simp only
    rw [if_pos ⟨by simp, by simp, by rw [hz1]; decide, by simp, by simp, hdu⟩, hz1]
    simp
  · have h2 := v_appNF (H := H) (L := L) ho hat hz hu hdu hs (by rw [hx, hz1]) (by rw [hz1, List.length_map]; exact (Nat.mul_one _).symm) h1 (by rw [hz1]; decide) (by omega) hb
    refine ⟨_, _, h2, [.cells (rcN a) true], rfl, .inr ⟨L.length, by rw [hz1], get_end, by omega⟩⟩
theorem v_cpApp {s x : Operand} {ats : Array TypeId} {t u e : TypeId} {z : VTy} {du : TypeDesc} {L : Zf} {a : List Nat} {v : VVal} {b kx : Nat}
    (ho : op = .call { callee := .builtin .append, args := #[s, x], argTypes := ats }) (hat : ats = #[t, u]) (hz : velem T t = some (e, z)) (hu : (T u).map (·.desc) = some du) (hdu : isSeq du = true) (hz1 : z.size = 1)
    (hs : ρ s = v) (hx : ρ x = .slice (some (H.length + L.length, 0)) 1 kx true 1) (hc : CpN H.length L v a) (hb : (a.length + 1) * z.bytes ≤ 140737488355328 ∧ a.length + 1 ≤ 140737488355328) :
    ∃ w G, vop T ρ (H ++ (L ++ [.cells [iI (b : Nat)] true])) op = some (w, G) ∧ ∃ Z i, G = H ++ Z ∧ w = .slice (some (H.length + i, 0)) (a.length + 1) (a.length + 1) false 1 ∧ Z[i]? = some (.cells (rcN (a ++ [b])) true) := by
  have hk' : srcLen (ρ x) = some 1 := by rw [hx]; rfl
  have hsrc : Z3 (H ++ (L ++ [.cells [iI (b : Nat)] true])) z.size 1 (ρ x) = some [iI (b : Nat)] := by
    rw [hx, hz1]
    simp only [Z3]
    rw [ZL rfl get_end]; rfl
  rcases hc with ⟨rfl, rfl⟩ | ⟨j, rfl, hj, h0⟩
  · refine ⟨.slice (some ((H ++ (L ++ [VBlk.cells [iI (b : Nat)] true])).length, 0)) 1 1 false 1, (H ++ (L ++ [VBlk.cells [iI (b : Nat)] true])) ++ [.cells [iI (b : Nat)] true], ?_, (L ++ [VBlk.cells [iI (b : Nat)] true]) ++ [.cells [iI (b : Nat)] true], (L ++ [VBlk.cells [iI (b : Nat)] true]).length, by rw [List.append_assoc], by rw [List.length_append]; rfl, get_end⟩
    rw [ho, hat]
    simp only [vop, ZU, List.map_cons, List.map_nil, YB, hz, hs, hu, hk']
    rw [hsrc]
    simp only
    rw [if_pos ⟨by rw [hz1]; rfl, rfl, by rw [hz1]; decide, by simpa using hb.1, by simp, hdu⟩, if_neg (by simp), if_neg (by decide), if_neg (by decide), hz1]
  · have hjl := ZV hj
    refine ⟨.slice (some ((H ++ (L ++ [VBlk.cells [iI (b : Nat)] true])).length, 0)) (a.length + 1) (a.length + 1) false 1, ((H ++ (L ++ [VBlk.cells [iI (b : Nat)] true])).set (H.length + j) .dead) ++ [.cells (rcN a ++ [iI (b : Nat)]) true], ?_, (L ++ [VBlk.cells [iI (b : Nat)] true]).set j .dead ++ [.cells (rcN a ++ [iI (b : Nat)]) true], (L ++ [VBlk.cells [iI (b : Nat)] true]).length, by rw [ZQ rfl, List.append_assoc], by rw [List.length_append], ?_⟩
    · rw [ho, hat]
      simp only [vop, ZU, List.map_cons, List.map_nil, YB, hz, hs, hu, hk']
      rw [hsrc]
      simp only
      rw [if_pos ⟨by rw [hz1]; rfl, rfl, by rw [hz1]; decide, hb.1, hb.2, hdu⟩, if_pos hz1.symm, ZL rfl (Zx hj)]
      simp only
      rw [if_neg (by omega), Yn (by rw [List.length_map])]
      simp only
      rw [if_neg (by decide), if_pos trivial]
    · rw [rcN_snoc, List.getElem?_append_right (by rw [List.length_set]; exact Nat.le_refl _), List.length_set, Nat.sub_self]; rfl
end
end Go.V
