/- Proved: Rows.TallyOwnCardSaid, the statement TallyOwn with its card, of the given program at the commit; no conditions beyond those in the statement. -/
import Derived.Test.YtccgigdjkghieaaDoorC12x11
set_option autoImplicit true
set_option maxHeartbeats 1000000
set_option linter.unusedSimpArgs false
set_option linter.unusedVariables false
namespace Go.V
open Go
def fnd (has : List Int) (u : Nat) : Nat → Nat → Nat
 | 0, k => k
 | n + 1, k => if has.getD k 0 = (u : Int) then k else fnd has u n (k + 1)
def JH (has : List Int) (u : Nat) : Nat := fnd has u has.length 0
theorem fnd_ge {has : List Int} {u : Nat} : ∀ {n k : Nat}, k ≤ fnd has u n k ∧ fnd has u n k ≤ k + n
 | 0, k => by rw [fnd]; omega
 | n + 1, k => by
  rw [fnd]; split
  ·omega
  have := @fnd_ge has u n (k + 1); omega
theorem fnd_no {has : List Int} {u : Nat} : ∀ {n k j : Nat}, k ≤ j → j < fnd has u n k → has.getD j 0 ≠ (u : Int)
 | 0, k, j, h1, h2 => by rw [fnd] at h2; omega
 | n + 1, k, j, h1, h2 => by
  rw [fnd] at h2
  split at h2
  ·omega
  rename_i hk
  by_cases e : j = k
  ·subst e; exact hk
  exact fnd_no (by omega) h2
theorem fnd_at {has : List Int} {u : Nat} : ∀ {n k : Nat}, fnd has u n k < k + n → has.getD (fnd has u n k) 0 = (u : Int)
 | 0, k, h => by rw [fnd] at h; omega
 | n + 1, k, h => by
  rw [fnd] at h ⊢
  split
  ·rename_i hk; exact hk
  rename_i hk; rw [if_neg hk] at h; exact fnd_at (by omega)
theorem ZbE {has : List Int} {u k : Nat} (hk : k ≤ has.length) (h1 : ∀ j, j < k → has.getD j 0 ≠ (u : Int)) (h2 : k = has.length ∨ has.getD k 0 = (u : Int)) : JH has u = k := by
 unfold JH
 have hb := @fnd_ge has u has.length 0
 rcases Nat.lt_trichotomy (fnd has u has.length 0) k with h | h | h
 ·exact absurd (fnd_at (by omega)) (h1 _ h)
 ·exact h
 rcases h2 with h2 | h2
 ·omega
 exact absurd h2 (fnd_no (Nat.zero_le _) h)
abbrev HSt : Type := List Int × BitVec 64
def trL (g : Nat → HSt → Bool × HSt) (rows : List (BitVec 64)) (i : Nat) : List Nat → HSt → Bool × HSt
 | [], s => (false, s)
 | u :: l, s =>
  if (rows.getD i 0).getLsbD u = false ∨ s.2.getLsbD u = true then trL g rows i l s
  else if JH s.1 u = s.1.length then (true, (s.1.set i (u : Int), s.2 ||| 1#64 <<< u))
  else if (g (JH s.1 u) (s.1, s.2 ||| 1#64 <<< u)).1 = true then (true, ((g (JH s.1 u) (s.1, s.2 ||| 1#64 <<< u)).2.1.set i (u : Int), (g (JH s.1 u) (s.1, s.2 ||| 1#64 <<< u)).2.2))
  else trL g rows i l (g (JH s.1 u) (s.1, s.2 ||| 1#64 <<< u)).2
def trn (rows : List (BitVec 64)) : Nat → Nat → HSt → Bool × HSt
 | 0, _, s => (false, s)
 | n + 1, i, s => trL (trn rows n) rows i (List.range 64) s
structure Cor (n : Nat) (O has : List Int) : Prop where
 hl : has.length = n
 ol : O.length = 64
 to : ∀ k, k < n → has.getD k 0 = -1 ∨ ∃ u : Nat, u < 64 ∧ has.getD k 0 = (u : Int) ∧ O.getD u 0 = (k : Int) + 1
 fr : ∀ u, u < 64 → O.getD u 0 = 0 ∨ ∃ k : Nat, k < n ∧ O.getD u 0 = (k : Int) + 1 ∧ has.getD k 0 = (u : Int)
structure Cor2 (n i : Nat) (S : BitVec 64) (O has O' has' : List Int) : Prop where
 hl : has'.length = n
 ol : O'.length = 64
 to : ∀ k, k < n → has'.getD k 0 = -1 ∨ ∃ u : Nat, u < 64 ∧ has'.getD k 0 = (u : Int) ∧ O'.getD u 0 = (k : Int) + 1
 fr : ∀ u, u < 64 → O'.getD u 0 = 0 ∨ ∃ k : Nat, k < n ∧ O'.getD u 0 = (k : Int) + 1 ∧ (has'.getD k 0 = (u : Int) ∨ (k = i ∧ has.getD i 0 = (u : Int)))
 nw : ∃ u : Nat, u < 64 ∧ has'.getD i 0 = (u : Int) ∧ S.getLsbD u = false
 un : ∀ u, S.getLsbD u = true → O'.getD u 0 = O.getD u 0
 st : ∀ k, k < n → k ≠ i → (has.getD k 0 = -1 ∨ ∃ u : Nat, has.getD k 0 = (u : Int) ∧ S.getLsbD u = true) → has'.getD k 0 = has.getD k 0
theorem Cor.find {n : Nat} {O has : List Int} (c : Cor n O has) {u : Nat} (hu : u < 64) : (O.getD u 0 = 0 ∧ JH has u = has.length) ∨ ∃ k : Nat, k < n ∧ O.getD u 0 = (k : Int) + 1 ∧ JH has u = k ∧ has.getD k 0 = (u : Int) := by
 rcases c.fr u hu with h | ⟨k, hk, h1, h2⟩
 ·left
  refine ⟨h, ZbE (Nat.le_refl _) (fun j hj e => ?_) (.inl rfl)⟩
  rw [c.hl] at hj
  rcases c.to j hj with h3 | ⟨v, _, h3, h4⟩
  ·rw [e] at h3; omega
  rw [e] at h3
  have : v = u := by omega
  subst this; omega
 right
 refine ⟨k, hk, h1, ZbE (by rw [c.hl]; omega) (fun j hj e => ?_) (.inr h2), h2⟩
 rcases c.to j (by omega) with h3 | ⟨v, _, h3, h4⟩
 ·rw [e] at h3; omega
 rw [e] at h3
 have : v = u := by omega
 subst this; omega
structure Sam (n i : Nat) (O has : List Int) (S : BitVec 64) (p : Bool × GSt) (q : Bool × HSt) : Prop where
 b : p.1 = q.1
 s : p.2.2 = q.2.2
 no : p.1 = false → p.2.1 = O ∧ q.2.1 = has
 yes : p.1 = true → Cor2 n i S O has p.2.1 q.2.1
theorem or1f {w : BitVec 64} {u a : Nat} (hu : u < 64) : (w ||| 1#64 <<< u).getLsbD a = false ↔ w.getLsbD a = false ∧ a ≠ u := by
 have h := or1 (w := w) (a := a) hu
 constructor
 ·intro h1
  refine ⟨?_, fun e => ?_⟩
  ·cases hw : w.getLsbD a with
   | false => rfl
   | true => rw [h.2 (.inl hw)] at h1; cases h1
  rw [h.2 (.inr e)] at h1; cases h1
 rintro ⟨h1, h2⟩
 cases hw : (w ||| 1#64 <<< u).getLsbD a with
 | false => rfl
 | true => rcases h.1 hw with h3 | h3
           ·rw [h1] at h3; cases h3
           exact absurd h3 h2
theorem ZbX {rows : List (BitVec 64)} {n i : Nat} {O has : List Int} (hn : n = rows.length) (hi : i < n) (c : Cor n O has) {S0 : BitVec 64} (hio : has.getD i 0 = -1 ∨ ∃ u : Nat, has.getD i 0 = (u : Int) ∧ S0.getLsbD u = true) {g : Int → GSt → Bool × GSt} {g' : Nat → HSt → Bool × HSt}
  (hg : ∀ (k : Nat) (S : BitVec 64), k < n → subW S0 S → (∃ u : Nat, has.getD k 0 = (u : Int) ∧ S.getLsbD u = true) → Sam n k O has S (g k (O, S)) (g' k (has, S)) ∧ subW S (g k (O, S)).2.2) :
  ∀ {l m : List Nat} {S : BitVec 64}, subW S0 S → (∀ u, u ∈ m → u < 64) → l.Nodup → m.Nodup → (∀ u, u ∈ l ↔ u ∈ m ∧ (rows.getD i 0).getLsbD u = true ∧ S0.getLsbD u = false) → l = m.filter (fun u => (rows.getD i 0).getLsbD u && !S0.getLsbD u) →
   Sam n i O has S0 (grL g i l (O, S)) (trL g' rows i m (has, S))
 | l, [], S, hs, _, _, _, _, he => by
  subst he
  exact ⟨rfl, rfl, fun _ => ⟨rfl, rfl⟩, fun h => by cases h⟩
 | l, u :: m, S, hs, hm, hnl, hnm, hall, he => by
  have hu := hm u (List.mem_cons_self ..)
  have hm' : ∀ v, v ∈ m → v < 64 := fun v hv => hm v (List.mem_cons_of_mem _ hv)
  have hnm' := (List.nodup_cons.1 hnm).2
  have huO : u < O.length := by rw [c.ol]; exact hu
  have hil : i < has.length := by rw [c.hl]; exact hi
  have next : ∀ S', subW S0 S' → Sam n i O has S0 (grL g i (m.filter (fun u => (rows.getD i 0).getLsbD u && !S0.getLsbD u)) (O, S')) (trL g' rows i m (has, S')) := fun S' hS' =>
   ZbX hn hi c hio hg hS' hm' (hnm'.sublist List.filter_sublist) hnm' (fun v => by rw [List.mem_filter]; simp) rfl
  by_cases hb : (rows.getD i 0).getLsbD u && !S0.getLsbD u
  ·have hl : l = u :: m.filter (fun u => (rows.getD i 0).getLsbD u && !S0.getLsbD u) := by rw [he, List.filter_cons, if_pos hb]
   rw [Bool.and_eq_true, Bool.not_eq_true'] at hb
   rw [hl, grL, trL]
   by_cases hS : S.getLsbD u = true
   ·rw [if_pos hS, if_pos (.inr hS)]; exact next S hs
   have hSf : S.getLsbD u = false := Zah hS
   have hcond : ¬ ((rows.getD i 0).getLsbD u = false ∨ S.getLsbD u = true) := fun e => e.elim (fun h => by rw [hb.1] at h; cases h) hS
   simp only [if_neg hS, if_neg hcond]
   have hs1 : subW S0 (S ||| 1#64 <<< u) := fun a ha => (or1 hu).2 (.inl (hs a ha))
   rcases c.find hu with ⟨h0, hf⟩ | ⟨k, hk, h1, hf, h2⟩
   ·simp only [if_pos h0, if_pos hf]
    refine ⟨rfl, rfl, (fun h => by cases h), fun _ => ?_⟩
    refine ⟨by rw [List.length_set]; exact c.hl, by rw [List.length_set]; exact c.ol, fun k hk => ?_, fun v hv => ?_, ⟨u, hu, by rw [Z0 hil, if_pos rfl], hb.2⟩, fun v hv => ?_, fun k hk hne _ => by rw [Z0 hil, if_neg hne]⟩
    ·rw [Z0 hil]
     by_cases e : k = i
     ·subst e; rw [if_pos rfl]; exact .inr ⟨u, hu, rfl, by rw [Z0 huO, if_pos rfl]⟩
     rw [if_neg e]
     rcases c.to k hk with h3 | ⟨v, hv, h3, h4⟩
     ·exact .inl h3
     exact .inr ⟨v, hv, h3, by rw [Z0 huO, if_neg (fun e2 => by subst e2; omega)]; exact h4⟩
    ·rw [Z0 huO]
     by_cases e : v = u
     ·subst e; rw [if_pos rfl]; exact .inr ⟨i, hi, rfl, .inl (by rw [Z0 hil, if_pos rfl])⟩
     rw [if_neg e]
     rcases c.fr v hv with h3 | ⟨k, hk, h3, h4⟩
     ·exact .inl h3
     refine .inr ⟨k, hk, h3, ?_⟩
     by_cases e2 : k = i
     ·subst e2; exact .inr ⟨rfl, h4⟩
     exact .inl (by rw [Z0 hil, if_neg e2]; exact h4)
    rw [Z0 huO, if_neg (fun e => by subst e; rw [hv] at hb; cases hb.2)]
   have hne0 : ¬ O.getD u 0 = 0 := by omega
   have hkl : ¬ JH has u = has.length := by rw [hf, c.hl]; omega
   have e1 : O.getD u 0 - 1 = (k : Int) := by omega
   simp only [if_neg hne0, if_neg hkl, hf, e1]
   obtain ⟨sm, ssub⟩ := hg k (S ||| 1#64 <<< u) hk hs1 ⟨u, h2, (or1 hu).2 (.inr rfl)⟩
   have hki : k ≠ i := fun e => by
    subst e
    rcases hio with h3 | ⟨v, h3, h4⟩
    ·omega
    have : v = u := by omega
    subst this; rw [h4] at hb; cases hb.2
   cases hgb : (g k (O, S ||| 1#64 <<< u)).1 with
   | false =>
    have hgb' : (g' k (has, S ||| 1#64 <<< u)).1 = false := by rw [← sm.b]; exact hgb
    have hkn : ¬ k = has.length := by rw [c.hl]; omega
    simp only [hgb', Bool.false_eq_true, if_false, if_neg hkn]
    obtain ⟨n1, n2⟩ := sm.no hgb
    have es : (g k (O, S ||| 1#64 <<< u)).2 = (O, (g k (O, S ||| 1#64 <<< u)).2.2) := Prod.ext n1 rfl
    have es' : (g' k (has, S ||| 1#64 <<< u)).2 = (has, (g k (O, S ||| 1#64 <<< u)).2.2) := Prod.ext n2 sm.s.symm
    rw [es, es']
    exact next _ fun a ha => ssub a (hs1 a ha)
   | true =>
    have hgb' : (g' k (has, S ||| 1#64 <<< u)).1 = true := by rw [← sm.b]; exact hgb
    have hkn : ¬ k = has.length := by rw [c.hl]; omega
    simp only [hgb', if_true, if_neg hkn]
    have y := sm.yes hgb
    have hO1 : u < (g k (O, S ||| 1#64 <<< u)).2.1.length := by rw [y.ol]; exact hu
    have hi1 : i < (g' k (has, S ||| 1#64 <<< u)).2.1.length := by rw [y.hl]; exact hi
    have hOu : (g k (O, S ||| 1#64 <<< u)).2.1.getD u 0 = (k : Int) + 1 := by rw [y.un u ((or1 hu).2 (.inr rfl))]; exact h1
    obtain ⟨w, hw, hw1, hw2⟩ := y.nw
    have hwu : w ≠ u := ((or1f hu).1 hw2).2
    refine ⟨rfl, sm.s, (fun h => by cases h), fun _ => ?_⟩
    refine ⟨by rw [List.length_set]; exact y.hl, by rw [List.length_set]; exact y.ol, fun j hj => ?_, fun v hv => ?_, ⟨u, hu, by rw [Z0 hi1, if_pos rfl], hb.2⟩, fun v hv => ?_, fun j hj hne hst => ?_⟩
    ·rw [Z0 hi1]
     by_cases e : j = i
     ·subst e; rw [if_pos rfl]; exact .inr ⟨u, hu, rfl, by rw [Z0 hO1, if_pos rfl]⟩
     rw [if_neg e]
     rcases y.to j hj with h3 | ⟨v, hv, h3, h4⟩
     ·exact .inl h3
     refine .inr ⟨v, hv, h3, ?_⟩
     rw [Z0 hO1, if_neg (fun e2 => by
      subst e2
      have : j = k := by omega
      subst this
      omega)]; exact h4
    ·rw [Z0 hO1]
     by_cases e : v = u
     ·subst e; rw [if_pos rfl]; exact .inr ⟨i, hi, rfl, .inl (by rw [Z0 hi1, if_pos rfl])⟩
     rw [if_neg e]
     rcases y.fr v hv with h3 | ⟨j, hj, h3, h4⟩
     ·exact .inl h3
     refine .inr ⟨j, hj, h3, ?_⟩
     have h5 : (g' k (has, S ||| 1#64 <<< u)).2.1.getD j 0 = (v : Int) := by
      rcases h4 with h4 | ⟨_, h4⟩
      ·exact h4
      omega
     by_cases e2 : j = i
     ·subst e2
      right
      refine ⟨rfl, ?_⟩
      have := y.st j hj (fun e => hki e.symm) (hio.imp id fun ⟨x, h6, h7⟩ => ⟨x, h6, (or1 hu).2 (.inl (hs x h7))⟩)
      rw [← this]; exact h5
     exact .inl (by rw [Z0 hi1, if_neg e2]; exact h5)
    ·rw [Z0 hO1, if_neg (fun e => by subst e; rw [hv] at hb; cases hb.2)]
     exact y.un v ((or1 hu).2 (.inl (hs v hv)))
    rw [Z0 hi1, if_neg hne]
    by_cases e : j = k
    ·subst e
     rcases hst with h3 | ⟨x, h3, h4⟩
     ·omega
     have : x = u := by omega
     subst this; rw [h4] at hb; cases hb.2
    exact y.st j hj e (hst.imp id fun ⟨x, h6, h7⟩ => ⟨x, h6, (or1 hu).2 (.inl (hs x h7))⟩)
  have hl : l = m.filter (fun u => (rows.getD i 0).getLsbD u && !S0.getLsbD u) := by rw [he, List.filter_cons, if_neg hb]
  rw [hl, trL, if_pos ?_]
  ·exact next S hs
  cases hr : (rows.getD i 0).getLsbD u with
  | false => exact .inl rfl
  | true =>
   right
   cases hS0 : S0.getLsbD u with
   | true => exact hs u hS0
   | false => rw [hr, hS0] at hb; simp at hb
theorem grL_sub {g : Int → GSt → Bool × GSt} (hg : ∀ r s, subW s.2 (g r s).2.2) {row : Int} : ∀ {l : List Nat} {s : GSt}, (∀ u, u ∈ l → u < 64) → subW s.2 (grL g row l s).2.2
 | [], s, _ => fun _ h => h
 | u :: l, s, h => by
  have hu := h u (List.mem_cons_self ..)
  have h' : ∀ v, v ∈ l → v < 64 := fun v hv => h v (List.mem_cons_of_mem _ hv)
  have h1 : subW s.2 (s.2 ||| 1#64 <<< u) := fun a ha => (or1 hu).2 (.inl ha)
  have h2 := hg (s.1.getD u 0 - 1) (s.1, s.2 ||| 1#64 <<< u)
  rw [grL]
  split
  ·exact grL_sub hg h'
  split
  ·exact h1
  split
  ·exact fun a ha => h2 a (h1 a ha)
  exact fun a ha => grL_sub hg h' a (h2 a (h1 a ha))
theorem grw_sub {rows : List (BitVec 64)} : ∀ {n : Nat} {row : Int} {s : GSt}, subW s.2 (grw rows n row s).2.2
 | 0, row, s => fun _ h => h
 | n + 1, row, s => by
  rw [grw]
  exact grL_sub (fun r s => grw_sub) fun u hu => (mem_pl.1 hu).2.1
theorem trn_same {rows : List (BitVec 64)} : ∀ {N i : Nat} {O has : List Int} {S : BitVec 64}, i < rows.length → Cor rows.length O has → (has.getD i 0 = -1 ∨ ∃ u : Nat, has.getD i 0 = (u : Int) ∧ S.getLsbD u = true) →
  Sam rows.length i O has S (grw rows N i (O, S)) (trn rows N i (has, S))
 | 0, i, O, has, S, _, _, _ => ⟨rfl, rfl, fun _ => ⟨rfl, rfl⟩, fun h => by cases h⟩
 | N + 1, i, O, has, S, hi, c, hio => by
  rw [grw, trn]
  have hpl : pl (rows.getD ((i : Nat) : Int).toNat 0 &&& ~~~S) 0 = (List.range 64).filter (fun u => (rows.getD i 0).getLsbD u && !S.getLsbD u) := by
   unfold pl
   rw [← List.range_eq_range']
   apply List.filter_congr
   intro u hu
   rw [Int.toNat_natCast, BitVec.getLsbD_and, BitVec.getLsbD_not, decide_eq_true (List.mem_range.1 hu), Bool.true_and]
  refine ZbX rfl hi c hio (fun k S' hk hs hio' => ⟨trn_same hk c (.inr hio'), grw_sub (s := (O, S'))⟩) (fun _ h => h) (fun u hu => List.mem_range.1 hu) (pl_nodup _) List.nodup_range (fun u => ?_) hpl
  rw [hpl, List.mem_filter]; simp
def rsz (rows : List (BitVec 64)) : Nat → List Int × Nat
 | 0 => (List.replicate rows.length (-1), 0)
 | k + 1 => ((trn rows 65 k ((rsz rows k).1, 0#64)).2.1, if (trn rows 65 k ((rsz rows k).1, 0#64)).1 = true then (rsz rows k).2 + 1 else (rsz rows k).2)
theorem Zcb {α : Type} {n k : Nat} {a d : α} (h : k < n) : (List.replicate n a).getD k d = a := by
 rw [List.getD_eq_getElem?_getD, List.getElem?_replicate, if_pos h]; rfl
theorem ZbA {rows : List (BitVec 64)} : ∀ {k : Nat}, k ≤ rows.length → Cor rows.length (szO rows k).1 (rsz rows k).1 ∧ (rsz rows k).2 = (szO rows k).2 ∧ ∀ j, k ≤ j → j < rows.length → (rsz rows k).1.getD j 0 = -1
 | 0, _ => by
  refine ⟨⟨by simp [rsz], by simp [szO], fun j hj => .inl (Zcb hj), fun u hu => .inl (Zcb hu)⟩, rfl, fun j _ hj => Zcb hj⟩
 | k + 1, h => by
  obtain ⟨c, h1, h2⟩ := ZbA (rows := rows) (show k ≤ rows.length by omega)
  have hk : k < rows.length := by omega
  have hm := h2 k (Nat.le_refl _) hk
  have sm := trn_same (N := 65) (S := 0#64) hk c (.inl hm)
  rw [rsz, szO]
  simp only
  cases hb : (grw rows 65 k ((szO rows k).1, 0#64)).1 with
  | false =>
   obtain ⟨n1, n2⟩ := sm.no hb
   rw [← sm.b, hb, n1, n2]
   exact ⟨c, by simpa using h1, fun j hj hj' => h2 j (by omega) hj'⟩
  | true =>
   have y := sm.yes hb
   rw [← sm.b, hb]
   refine ⟨⟨y.hl, y.ol, y.to, fun u hu => ?_⟩, by simp [h1], fun j hj hj' => ?_⟩
   ·rcases y.fr u hu with h3 | ⟨j, hj, h3, h4 | ⟨rfl, h4⟩⟩
    ·exact .inl h3
    ·exact .inr ⟨j, hj, h3, h4⟩
    omega
   rw [y.st j hj' (by omega) (.inl (h2 j (by omega) hj'))]; exact h2 j (by omega) hj'
theorem rsz_all {rows : List (BitVec 64)} : (rsz rows rows.length).2 = szN rows := (ZbA (Nat.le_refl _)).2.1
open Go
def ZaP (n : Nat) (rs : List Rul) (a : List Nat) : Bool := rs.all fun r => erl r n (zI a)
def plO (ws : List (BitVec 64)) (a : List Nat) : Option (List Nat) := if Yk (Z6 ws a a.length) 0#64 = true then some (plN a (lst (Z6 ws a a.length) 0#64)) else none
def srF (ws : List (BitVec 64)) (rs : List Rul) : Nat → List Nat → Option (List Nat)
 | 0, a => if ZaP ws.length rs a = true then plO ws a else none
 | m + 1, a => if ZaP ws.length rs a = true then (List.range (szP a a.length + 1)).findSome? fun b => srF ws rs m (a ++ [b]) else none
def srR (ws : List (BitVec 64)) (rs : List Rul) (m : Nat) (a : List Nat) (b : Nat) : Option (List Nat) := ((List.range (szP a a.length + 1)).drop b).findSome? fun b => srF ws rs m (a ++ [b])
section
variable {ws : List (BitVec 64)} {rs : List Rul} {m : Nat} {a : List Nat} {b : Nat}
theorem srR_end (h : szP a a.length < b) : srR ws rs m a b = none := by
 unfold srR; rw [List.drop_eq_nil_of_le (by simp; omega)]; rfl
theorem srR_yes (h : b ≤ szP a a.length) {l : List Nat} (h1 : srF ws rs m (a ++ [b]) = some l) : srR ws rs m a b = some l := by
 unfold srR; rw [QI (by omega), List.findSome?_cons, h1]
theorem srR_no (h : b ≤ szP a a.length) (h1 : srF ws rs m (a ++ [b]) = none) : srR ws rs m a b = srR ws rs m a (b + 1) := by
 unfold srR; rw [QI (by omega), List.findSome?_cons, h1]
theorem srF_R (h : ZaP ws.length rs a = true) : srF ws rs (m + 1) a = srR ws rs m a 0 := by
 unfold srR; rw [srF, if_pos h]; rfl
theorem srF_0 (h : ZaP ws.length rs a = true) : srF ws rs 0 a = plO ws a := by rw [srF, if_pos h]
theorem srF_e (h : ZaP ws.length rs a = false) : ∀ {m : Nat}, srF ws rs m a = none
 | 0 => by rw [srF, if_neg (by rw [h]; decide)]
 | m + 1 => by rw [srF, if_neg (by rw [h]; decide)]
end
theorem JN {α β γ : Type} {f : α → List β} {p : β → Bool} {g : β → γ} : ∀ {l : List α}, ((l.flatMap f).find? p).map g = l.findSome? fun x => ((f x).find? p).map g
 | [] => rfl
 | x :: l => by
  rw [List.flatMap_cons, List.find?_append, List.findSome?_cons]
  cases h : (f x).find? p with
  | some y => rfl
  | none => show ((none.or ((l.flatMap f).find? p)).map g) = _; rw [Option.none_or, JN]; rfl
theorem QZ {β γ : Type} {f g : β → Option γ} : ∀ {l : List β}, (∀ x, x ∈ l → f x = g x) → l.findSome? f = l.findSome? g
 | [], _ => rfl
 | x :: l, h => by
  rw [List.findSome?_cons, List.findSome?_cons, h x (List.mem_cons_self ..), QZ fun y hy => h y (List.mem_cons_of_mem _ hy)]
def accB (ws : List (BitVec 64)) (rs : List Rul) (a : List Nat) : Bool := ZaP ws.length rs a && Yk (Z6 ws a a.length) 0#64
theorem srF_find {ws : List (BitVec 64)} {rs : List Rul} : ∀ {m : Nat} {a : List Nat}, Pat a → srF ws rs m a = ((QB m a (szP a a.length)).find? (accB ws rs)).map fun a => plN a (lst (Z6 ws a a.length) 0#64)
 | 0, a, _ => by
  rw [QB, srF, List.find?_singleton]
  unfold accB plO
  cases ZaP ws.length rs a
  ·rfl
  cases Yk (Z6 ws a a.length) 0#64 <;> rfl
 | m + 1, a, ha => by
  rw [QB]
  by_cases h : ZaP ws.length rs a = true
  ·rw [srF, if_pos h, JN]
   apply QZ
   intro b hb
   have hb := List.mem_range.1 hb
   rw [srF_find (Qz ha (by omega)), Q9 (by omega)]
  rw [srF_e (Bool.eq_false_iff.2 h)]
  have : ((List.range (szP a a.length + 1)).flatMap fun x => QB m (a ++ [x]) (max (szP a a.length) (x + 1))).find? (accB ws rs) = none := by
   rw [List.find?_eq_none]
   intro c hc hacc
   apply h
   rw [List.mem_flatMap] at hc
   obtain ⟨x, _, hc⟩ := hc
   obtain ⟨z, rfl, _⟩ := XW hc
   unfold accB at hacc
   rw [Bool.and_eq_true] at hacc
   unfold ZaP at hacc ⊢
   rw [List.all_eq_true] at hacc ⊢
   intro r hr
   have h2 := erl_pre (k := a.length) (hacc.1 r hr)
   rw [← zI_take, List.append_assoc, List.take_left] at h2
   exact h2
  rw [this]; rfl
theorem srF_fd {u : Nat} {ws : List (BitVec 64)} {rs : List Rul} (hr : ∀ r, r ∈ rs → rck ws.length r = true) : srF ws rs ws.length [] = fdA u ws (addR ws.length rs rs.length) := by
 rw [srF_find Qg]
 unfold fdA
 rw [ZaB]
 congr 1
 apply find_eq
 intro a ha
 obtain ⟨z, hz, hl⟩ := XW ha
 rw [List.nil_append] at hz; subst hz
 have hp := Zau Qg ha
 rw [Bool.eq_iff_iff, show (List.nil : List Nat).length = 0 from rfl, Je hp hl hr]
 unfold accB ZaP
 rw [Bool.and_eq_true, List.all_eq_true, fullB_iff, msk_0]
 exact ⟨fun h => ⟨h.2, h.1⟩, fun h => ⟨h.2, h.1⟩⟩
theorem pat_onto {a : List Nat} : ∀ {k : Nat}, (∀ i, i < k → a.getD i 0 ≤ szP a i) → ∀ {b : Nat}, b < szP a k → ∃ i, i < k ∧ a.getD i 0 = b
 | 0, _, b, h => absurd h (by simp [szP])
 | k + 1, hp, b, h => by
  by_cases e : b < szP a k
  ·obtain ⟨i, hi, h1⟩ := pat_onto (fun i hi => hp i (by omega)) e
   exact ⟨i, by omega, h1⟩
  rw [szP] at h
  split at h
  ·rename_i h2; exact ⟨k, by omega, by omega⟩
  omega
set_option autoImplicit false
open Go Go.RowKit
def CpN (h : Nat) (L : Ze) (v : VVal) (a : List Nat) : Prop := (a = [] ∧ v = .slice none 0 0 true 1) ∨ ∃ j, v = .slice (some (h + j, 0)) a.length a.length false 1 ∧ L[j]? = some (.cells (rcN a) true) ∧ 0 < a.length
section
variable {T : TypeId → Option VTy} {ρ : Operand → VVal} {H : Ze} {op : Op}
theorem v_cpN {s x : Operand} {ats : Array TypeId} {t u e : TypeId} {z : VTy} {du : TypeDesc} {L : Ze} {a : List Nat}
  (ho : op = .call { callee := .builtin .append, args := #[s, x], argTypes := ats }) (hat : ats = #[t, u]) (hz : Y6 T t = some (e, z)) (hu : (T u).map (·.desc) = some du) (hdu : XJ du = true) (hz1 : z.size = 1)
  (hs : ρ s = .slice none 0 0 true 0) (hx : ρ x = fzN a) (hb : a.length * z.bytes ≤ 140737488355328 ∧ a.length ≤ 140737488355328) :
  ∃ v G, vop T ρ (H ++ L) op = some (v, G) ∧ ∃ Z, G = H ++ (L ++ Z) ∧ CpN H.length (L ++ Z) v a := by
 have hk' : YO (ρ x) = some a.length := by rw [hx]; rfl
 have h1 : (rcN a).all VVal.one = true := List.all_eq_true.2 fun v hv => by
  obtain ⟨n, _, rfl⟩ := List.mem_map.1 hv; rfl
 by_cases h0 : a.length = 0
 ·obtain rfl : a = [] := List.eq_nil_of_length_eq_zero h0
  have hsrc : ZU (H ++ L) z.size 0 (ρ x) = some [] := by
   rw [hx]; show Zo [] 0 (0 * z.size) = some []
   unfold Zo; simp
  refine ⟨_, _, ?_, [], by rw [List.append_nil], .inl ⟨rfl, rfl⟩⟩
  rw [ho, hat]
  simp only [vop, ZR, List.map_cons, List.map_nil, Yq, hz, hs, hu, hk']
  simp only [List.length_nil]
  rw [hsrc]
  simp only
  rw [if_pos ⟨by simp, by simp, by rw [hz1]; decide, by simp, by simp, hdu⟩, hz1]
  simp
 have h2 := Zbx (H := H) (L := L) ho hat hz hu hdu hs (by rw [hx, hz1]) (by rw [hz1, List.length_map]; exact (Nat.mul_one _).symm) h1 (by rw [hz1]; decide) (by omega) hb
 refine ⟨_, _, h2, [.cells (rcN a) true], rfl, .inr ⟨L.length, by rw [hz1], Xw, by omega⟩⟩
theorem v_cpApp {s x : Operand} {ats : Array TypeId} {t u e : TypeId} {z : VTy} {du : TypeDesc} {L : Ze} {a : List Nat} {v : VVal} {b kx : Nat}
  (ho : op = .call { callee := .builtin .append, args := #[s, x], argTypes := ats }) (hat : ats = #[t, u]) (hz : Y6 T t = some (e, z)) (hu : (T u).map (·.desc) = some du) (hdu : XJ du = true) (hz1 : z.size = 1)
  (hs : ρ s = v) (hx : ρ x = .slice (some (H.length + L.length, 0)) 1 kx true 1) (hc : CpN H.length L v a) (hb : (a.length + 1) * z.bytes ≤ 140737488355328 ∧ a.length + 1 ≤ 140737488355328) :
  ∃ w G, vop T ρ (H ++ (L ++ [.cells [iI (b : Nat)] true])) op = some (w, G) ∧ ∃ Z i, G = H ++ Z ∧ w = .slice (some (H.length + i, 0)) (a.length + 1) (a.length + 1) false 1 ∧ Z[i]? = some (.cells (rcN (a ++ [b])) true) := by
 have hk' : YO (ρ x) = some 1 := by rw [hx]; rfl
 have hsrc : ZU (H ++ (L ++ [.cells [iI (b : Nat)] true])) z.size 1 (ρ x) = some [iI (b : Nat)] := by
  rw [hx, hz1]
  simp only [ZU]
  rw [ZI rfl Xw]; rfl
 rcases hc with ⟨rfl, rfl⟩ | ⟨j, rfl, hj, h0⟩
 ·refine ⟨.slice (some ((H ++ (L ++ [VBlk.cells [iI (b : Nat)] true])).length, 0)) 1 1 false 1, (H ++ (L ++ [VBlk.cells [iI (b : Nat)] true])) ++ [.cells [iI (b : Nat)] true], ?_, (L ++ [VBlk.cells [iI (b : Nat)] true]) ++ [.cells [iI (b : Nat)] true], (L ++ [VBlk.cells [iI (b : Nat)] true]).length, by rw [List.append_assoc], by rw [List.length_append]; rfl, Xw⟩
  rw [ho, hat]
  simp only [vop, ZR, List.map_cons, List.map_nil, Yq, hz, hs, hu, hk']
  rw [hsrc]
  simp only
  rw [if_pos ⟨by rw [hz1]; rfl, rfl, by rw [hz1]; decide, by simpa using hb.1, by simp, hdu⟩, if_neg (by simp), if_neg (by decide), if_neg (by decide), hz1]
 have hjl := ZG hj
 refine ⟨.slice (some ((H ++ (L ++ [VBlk.cells [iI (b : Nat)] true])).length, 0)) (a.length + 1) (a.length + 1) false 1, ((H ++ (L ++ [VBlk.cells [iI (b : Nat)] true])).set (H.length + j) .dead) ++ [.cells (rcN a ++ [iI (b : Nat)]) true], ?_, (L ++ [VBlk.cells [iI (b : Nat)] true]).set j .dead ++ [.cells (rcN a ++ [iI (b : Nat)]) true], (L ++ [VBlk.cells [iI (b : Nat)] true]).length, by rw [ZO rfl, List.append_assoc], by rw [List.length_append], ?_⟩
 ·rw [ho, hat]
  simp only [vop, ZR, List.map_cons, List.map_nil, Yq, hz, hs, hu, hk']
  rw [hsrc]
  simp only
  rw [if_pos ⟨by rw [hz1]; rfl, rfl, by rw [hz1]; decide, hb.1, hb.2, hdu⟩, if_pos hz1.symm, ZI rfl (Zn hj)]
  simp only
  rw [if_neg (by omega), Yn (by rw [List.length_map])]
  simp only
  rw [if_neg (by decide), if_pos trivial]
 rw [Zcc, List.getElem?_append_right (by rw [List.length_set]; exact Nat.le_refl _), List.length_set, Nat.sub_self]; rfl
end
set_option autoImplicit true
open Go
variable {ws : List (BitVec 64)} {rs : List Rul}
def cnA (ws : List (BitVec 64)) (a : List Nat) : Nat := cnT (Z6 ws a a.length) 0#64
theorem sat_more {M : BitVec 64} {s c : Nat} (hM : M.toNat ≤ 65536) : Z8 M s + Z8 (Z8 (M - Z8 M s) 65536) c = Z8 M (s + c) := by
 have e : Z8 (M - Z8 M s) 65536 = M - Z8 M s := by
  apply BitVec.eq_of_toNat_eq
  rw [Ys]
  have h1 : (Z8 M s).toNat ≤ M.toNat := by rw [Ys]; omega
  rw [BitVec.toNat_sub_of_le h1]; omega
 rw [e]; exact satW_step
open Go
variable {ws : List (BitVec 64)} {rs : List Rul}
def liK (ws : List (BitVec 64)) (a : List Nat) (l : List (BitVec 64)) (b k : Nat) : List (BitVec 64) := (List.range l.length).map fun i => if a.getD i 0 < b ∨ (a.getD i 0 = b ∧ i < k) then l.getD i 0 ||| frW (Z6 ws a a.length) (a.getD i 0) else l.getD i 0
theorem YE : (liK ws a l b k).length = l.length := by unfold liK; simp
theorem XM {i : Nat} (h : i < l.length) : (liK ws a l b k).getD i 0 = if a.getD i 0 < b ∨ (a.getD i 0 = b ∧ i < k) then l.getD i 0 ||| frW (Z6 ws a a.length) (a.getD i 0) else l.getD i 0 := by
 unfold liK; simp [List.getD_eq_getElem?_getD, h]
theorem YW {l m : List (BitVec 64)} (h : l.length = m.length) (he : ∀ i, i < l.length → l.getD i 0 = m.getD i 0) : l = m := by
 apply List.ext_getElem h
 intro i h1 h2
 have := he i h1
 simpa [List.getD_eq_getElem?_getD, h1, h2] using this
theorem liK_0 : liK ws a l 0 0 = l := by
 refine YW YE fun i hi => ?_
 rw [YE] at hi
 rw [XM hi, if_neg (by omega)]
theorem liK_next {n : Nat} (hn : n = l.length) : liK ws a l b n = liK ws a l (b + 1) 0 := by
 refine YW (by rw [YE, YE]) fun i hi => ?_
 rw [YE] at hi
 rw [XM hi, XM hi]
 by_cases h : a.getD i 0 < b + 1
 ·rw [if_pos (by omega), if_pos (.inl h)]
 rw [if_neg (by omega), if_neg (by omega)]
theorem liK_set {k : Nat} (hk : k < l.length) (h : a.getD k 0 = b) : (liK ws a l b k).set k ((liK ws a l b k).getD k 0 ||| frW (Z6 ws a a.length) b) = liK ws a l b (k + 1) := by
 refine YW (by rw [List.length_set, YE, YE]) fun i hi => ?_
 rw [List.length_set, YE] at hi
 rw [XM hi]
 by_cases e : i = k
 ·subst e
  rw [show ((liK ws a l b i).set i ((liK ws a l b i).getD i 0 ||| frW (Z6 ws a a.length) b)).getD i 0 = (liK ws a l b i).getD i 0 ||| frW (Z6 ws a a.length) b by simp [List.getD_eq_getElem?_getD, YE, hi], XM hi, if_neg (by omega), if_pos (by omega), h]
 rw [show ((liK ws a l b k).set k ((liK ws a l b k).getD k 0 ||| frW (Z6 ws a a.length) b)).getD i 0 = (liK ws a l b k).getD i 0 by simp [List.getD_eq_getElem?_getD, List.getElem?_set, Ne.symm e], XM hi]
 have e3 : (a.getD i 0 < b ∨ a.getD i 0 = b ∧ i < k) ↔ (a.getD i 0 < b ∨ a.getD i 0 = b ∧ i < k + 1) := by omega
 simp only [e3]
theorem liK_same {k : Nat} (h : ¬ a.getD k 0 = b) : liK ws a l b k = liK ws a l b (k + 1) := by
 refine YW (by rw [YE, YE]) fun i hi => ?_
 rw [YE] at hi
 rw [XM hi, XM hi]
 have e3 : (a.getD i 0 < b ∨ a.getD i 0 = b ∧ i < k) ↔ (a.getD i 0 < b ∨ a.getD i 0 = b ∧ i < k + 1) := by
  constructor
  ·rintro (h1 | h1); exact .inl h1; exact .inr (by omega)
  rintro (h1 | ⟨h1, h2⟩)
  ·exact .inl h1
  refine .inr ⟨h1, ?_⟩
  have : i ≠ k := fun e => h (e ▸ h1)
  omega
 simp only [e3]
def liU (ws : List (BitVec 64)) (a : List Nat) (l : List (BitVec 64)) : List (BitVec 64) := liK ws a l (szP a a.length) 0
theorem ZaI : (liU ws a l).length = l.length := YE
theorem liU_get {i : Nat} (ha : Pat a) (hl : a.length = l.length) (hi : i < l.length) : (liU ws a l).getD i 0 = l.getD i 0 ||| frW (Z6 ws a a.length) (a.getD i 0) := by
 unfold liU
 rw [XM hi, if_pos (.inl (Pat.lt ha (Nat.le_refl _) (by omega)))]
def liF (ws : List (BitVec 64)) : List (List Nat) → List (BitVec 64) → List (BitVec 64)
 | [], l => l
 | a :: r, l => if liU ws a l = ws then ws else liF ws r (liU ws a l)
theorem liF_hit (h : liU ws a l = ws) : liF ws (a :: r) l = ws := by rw [liF, if_pos h]
theorem liF_on (h : ¬ liU ws a l = ws) : liF ws (a :: r) l = liF ws r (liU ws a l) := by rw [liF, if_neg h]
theorem liF_len : ∀ {r : List (List Nat)} {l : List (BitVec 64)}, l.length = ws.length → (liF ws r l).length = ws.length
 | [], l, h => h
 | a :: r, l, h => by
  by_cases e : liU ws a l = ws
  ·rw [liF_hit e]
  rw [liF_on e]; exact liF_len (by rw [ZaI]; exact h)
theorem fr_in {ws : List (BitVec 64)} {a : List Nat} {i u : Nat} (ha : Pat a) (hi : i < a.length) (h : (frW (Z6 ws a a.length) (a.getD i 0)).getLsbD u = true) : (ws.getD i 0).getLsbD u = true := by
 have h1 := (frW_bit.1 h).1
 exact (ZaK (k := a.length) (fun j hj => ha j hj) (Pat.lt ha (Nat.le_refl _) hi)).1 h1 i hi rfl
theorem liF_bit {ws : List (BitVec 64)} {i u : Nat} (hi : i < ws.length) : ∀ {r : List (List Nat)} {l : List (BitVec 64)}, l.length = ws.length → (∀ a, a ∈ r → Pat a ∧ a.length = ws.length) → ((l.getD i 0).getLsbD u = true → (ws.getD i 0).getLsbD u = true) → (((liF ws r l).getD i 0).getLsbD u = true ↔ (l.getD i 0).getLsbD u = true ∨ ∃ a, a ∈ r ∧ (frW (Z6 ws a a.length) (a.getD i 0)).getLsbD u = true)
 | [], l, hl, hr, hs => ⟨fun h => .inl h, fun h => by
  rcases h with h | ⟨a, ha, _⟩
  ·exact h
  cases ha⟩
 | a :: r, l, hl, hr, hs => by
  obtain ⟨pa, la⟩ := hr a (List.mem_cons_self ..)
  have hg := liU_get (ws := ws) (l := l) pa (by omega) (i := i) (by omega)
  have hgu : ((liU ws a l).getD i 0).getLsbD u = true ↔ (l.getD i 0).getLsbD u = true ∨ (frW (Z6 ws a a.length) (a.getD i 0)).getLsbD u = true := by rw [hg, BitVec.getLsbD_or, Bool.or_eq_true]
  by_cases e : liU ws a l = ws
  ·rw [liF_hit e]
   rw [e] at hgu
   constructor
   ·intro h
    rcases hgu.1 h with h | h
    ·exact .inl h
    exact .inr ⟨a, List.mem_cons_self .., h⟩
   rintro (h | ⟨c, hc, h⟩)
   ·exact hgu.2 (.inl h)
   obtain ⟨pc, lc⟩ := hr c hc
   exact fr_in pc (by omega) h
  rw [liF_on e, liF_bit hi (by rw [ZaI]; exact hl) (fun c hc => hr c (List.mem_cons_of_mem _ hc)) (fun h => by
   rcases hgu.1 h with h | h
   ·exact hs h
   exact fr_in pa (by omega) h), hgu]
  constructor
  ·rintro ((h | h) | ⟨c, hc, h⟩)
   ·exact .inl h
   ·exact .inr ⟨a, List.mem_cons_self .., h⟩
   exact .inr ⟨c, List.mem_cons_of_mem _ hc, h⟩
  rintro (h | ⟨c, hc, h⟩)
  ·exact .inl (.inl h)
  rcases List.mem_cons.1 hc with rfl | hc
  ·exact .inl (.inr h)
  exact .inr ⟨c, hc, h⟩
theorem frW_mat {l : List (BitVec 64)} {i u : Nat} (hi : i < l.length) : (frW l i).getLsbD u = true ↔ ∃ us, MatU l us ∧ us.getD i 0 = u := by
 constructor
 ·intro h
  have hu : u < 64 := BitVec.lt_of_getLsbD h
  obtain ⟨us, h1, h2, h3⟩ := (frW_one hi hu).1 h
  rw [List.length_set] at h1
  have hb := h3 i (by rw [List.length_set]; exact hi)
  rw [show (l.set i (l.getD i 0 &&& 1#64 <<< u)).getD i 0 = l.getD i 0 &&& 1#64 <<< u by simp [List.getD_eq_getElem?_getD, hi], BitVec.getLsbD_and, Bool.and_eq_true] at hb
  have e : us.getD i 0 = u := by
   apply Decidable.byContradiction
   intro e
   rw [(XL hu).2 e] at hb
   exact absurd hb.2 (by decide)
  refine ⟨us, ⟨h1, h2, fun j hj => ?_⟩, e⟩
  by_cases ej : j = i
  ·subst ej; exact hb.1
  have := h3 j (by rw [List.length_set]; exact hj)
  rwa [show (l.set i (l.getD i 0 &&& 1#64 <<< u)).getD j 0 = l.getD j 0 by simp [List.getD_eq_getElem?_getD, List.getElem?_set, Ne.symm ej]] at this
 rintro ⟨us, h, rfl⟩; exact matU_erase h hi
set_option autoImplicit false
open Go Go.RowKit
def inB (l : List Int) (n : Nat) : Bool := l.any fun x => decide (x = (n : Int))
theorem spl_W {l : List (BitVec 64)} {k : Nat} {w : BitVec 64} (h : k < l.length) : Zx (l.map iW) (0 + k * 1) [iW w] = (l.set k w).map iW := by
 rw [show 0 + k * 1 = k by omega]
 unfold Zx
 rw [List.map_set, List.set_eq_take_append_cons_drop, if_pos XH31]; simp
open Go Go.RowKit
mutual
def VVal.nofz : VVal → Bool
 | .fsl cs len _ _ => decide (len = 0) && VVal.nofzL cs
 | .fptr _ _ => false
 | .func _ fs cs => VVal.nofzL fs && VVal.nofzL cs
 | .iface _ v => VVal.nofz v
 | .agg cs => VVal.nofzL cs
 | .tuple cs => VVal.nofzL cs
 | _ => true
def VVal.nofzL : List VVal → Bool
 | [] => true
 | v :: vs => VVal.nofz v && VVal.nofzL vs
end
theorem VVal.nofzL_all : ∀ {vs : List VVal}, (∀ v, v ∈ vs → v.nofz = true) → VVal.nofzL vs = true
 | [], _ => rfl
 | v :: vs, h => by
  simp only [VVal.nofzL, Bool.and_eq_true]
  exact ⟨h v (List.mem_cons_self ..), nofzL_all fun u hu => h u (List.mem_cons_of_mem _ hu)⟩
theorem VVal.nofzL_mem : ∀ {vs : List VVal}, VVal.nofzL vs = true → ∀ v, v ∈ vs → v.nofz = true
 | [], _, _, h => by cases h
 | u :: vs, h, v, hv => by
  simp only [VVal.nofzL, Bool.and_eq_true] at h
  rcases List.mem_cons.1 hv with rfl | hv
  ·exact h.1
  exact nofzL_mem h.2 v hv
theorem VVal.nofzL_map {α : Type} {f : α → VVal} {l : List α} (h : ∀ a, (f a).nofz = true) : VVal.nofzL (l.map f) = true :=
 VVal.nofzL_all fun v hv => by obtain ⟨a, _, rfl⟩ := List.mem_map.1 hv; exact h a
theorem VVal.nofzL_app {a b : List VVal} (ha : VVal.nofzL a = true) (hb : VVal.nofzL b = true) : VVal.nofzL (a ++ b) = true :=
 VVal.nofzL_all fun v hv => by
  rcases List.mem_append.1 hv with h | h
  ·exact VVal.nofzL_mem ha v h
  exact VVal.nofzL_mem hb v h
def Inj.mle (ι ι' : Inj) : Prop := ∀ b e, ι b = some e → ι' b = some e
mutual
theorem Rel.nofz {ι ι' : Inj} (h : ι.mle ι') : ∀ (v : VVal) (x : Value), v.nofz = true → Rel ι v x → Rel ι' v x
 | .undef, _, _, _ => trivial
 | .bool _, _, _, r => r
 | .int _ _, _, _, r => r
 | .str _, _, _, r => r
 | .ptr none, _, _, r => r
 | .ptr (some (_, _)), _, u, r => by
  simp only [Rel] at r ⊢
  obtain ⟨e, a, b⟩ := r; exact ⟨e, h _ _ a, b⟩
 | .slice none _ _ _ _, _, _, r => r
 | .slice (some (_, _)) _ _ _ _, _, u, r => by
  simp only [Rel] at r ⊢
  obtain ⟨e, c, a, b⟩ := r; exact ⟨e, c, h _ _ a, b⟩
 | .fsl cs len es ex, _, u, r => by
  simp only [Rel, VVal.nofz, Bool.and_eq_true, decide_eq_true_eq] at r u ⊢
  obtain ⟨a, c, xs, e, p, q, t, h3, v⟩ := r
  exact ⟨a, c, xs, e, p, q, t, RelL.nofz h cs xs u.2 h3, .inl u.1⟩
 | .fptr cs off, _, u, r => by simp [VVal.nofz] at u
 | .map none, _, _, r => r
 | .map (some _), _, u, r => by
  simp only [Rel] at r ⊢
  obtain ⟨e, a, b⟩ := r; exact ⟨e, h _ _ a, b⟩
 | .func _ a c, _, u, r => by
  simp only [Rel, VVal.nofz, Bool.and_eq_true] at r u ⊢
  obtain ⟨a', c', e, p, q⟩ := r
  exact ⟨a', c', e, RelL.nofz h _ _ u.1 p, RelL.nofz h _ _ u.2 q⟩
 | .yield _, _, u, r => by
  simp only [Rel] at r ⊢
  obtain ⟨e, a, b⟩ := r; exact ⟨e, h _ _ a, b⟩
 | .nilFunc, _, _, r => r
 | .iface _ x, _, u, r => by
  simp only [Rel, VVal.nofz] at r u ⊢
  obtain ⟨y, e, p⟩ := r; exact ⟨y, e, Rel.nofz h x y u p⟩
 | .nilIface, _, _, r => r
 | .agg cs, _, u, r => by
  simp only [Rel, VVal.nofz] at r u ⊢
  obtain ⟨y, e, p⟩ := r; exact ⟨y, e, RelL.nofz h cs _ u p⟩
 | .tuple cs, _, u, r => by
  simp only [Rel, VVal.nofz] at r u ⊢
  obtain ⟨y, e, p⟩ := r; exact ⟨y, e, RelL.nofz h cs _ u p⟩
theorem RelL.nofz {ι ι' : Inj} (h : ι.mle ι') : ∀ (vs : List VVal) (xs : List Value), VVal.nofzL vs = true → RelL ι vs xs → RelL ι' vs xs
 | [], _, _, r => r
 | v :: vs, _, u, r => by
  simp only [RelL, VVal.nofzL, Bool.and_eq_true] at r u ⊢
  obtain ⟨y, ys, e, p, q⟩ := r
  exact ⟨y, ys, e, Rel.nofz h v y u.1 p, RelL.nofz h vs ys u.2 q⟩
end
theorem MRel.nofz {ι ι' : Inj} (h : ι.mle ι') : ∀ (vs : List (VVal × VVal)) (xs : List MapEntry), (vs.all fun e => e.1.nofz && e.2.nofz) = true → MRel ι vs xs → MRel ι' vs xs
 | [], _, _, r => r
 | v :: vs, _, u, r => by
  simp only [MRel, List.all_cons, Bool.and_eq_true] at r u ⊢
  obtain ⟨y, ys, e, p, q, s⟩ := r
  exact ⟨y, ys, e, Rel.nofz h _ y.key u.1.1 p, Rel.nofz h _ y.val u.1.2 q, MRel.nofz h vs ys u.2 s⟩
def VBlk.nofz : VBlk → Bool
 | .cells cs _ => VVal.nofzL cs
 | .map es => es.all fun e => e.1.nofz && e.2.nofz
 | .loop _ _ _ tmps _ _ _ => VVal.nofzL tmps
 | .dead => true
def VBlk.keep (k : VBlk) : VBlk := if k.nofz = true then k else .dead
theorem VBlk.keep_eq {k : VBlk} (h : k.nofz = true) : k.keep = k := by unfold VBlk.keep; rw [if_pos h]
theorem VBlk.keep_nofz (k : VBlk) : k.keep.nofz = true := by
 unfold VBlk.keep; split
 ·assumption
 rfl
theorem BRel.nofz {w0 w : World} {ι ι' : Inj} {e : Ent} {k : VBlk} (h : ι.mle ι') (u : k.nofz = true) (r : BRel w0 ι w e k) : BRel w0 ι' w e k := by
 cases k with
 | dead => trivial
 | cells cs rw =>
  obtain ⟨arr, t, fr, cs', a, b, c⟩ := r
  exact ⟨arr, t, fr, cs', a, RelL.nofz h _ _ u b, c⟩
 | map es =>
  obtain ⟨en, cl, a, b, c⟩ := r
  exact ⟨en, cl, a, b, MRel.nofz h _ _ u c⟩
 | loop st p fn tmps ps ks body =>
  obtain ⟨l, a, b, c, d, e, f, g, i⟩ := r
  exact ⟨l, a, b, c, d, RelL.nofz h _ _ u e, f, g, i⟩
section
variable {S : Sys}
def Frzn (S : Sys) (vs : List VVal) (H : Ze) (vs1 : List VVal) (H1 : Ze) (bs : List Nat) : Prop :=
 H1.length = H.length ∧ (∀ b, b < H.length → b ∉ bs → H1[b]? = H[b]?) ∧ ∀ (w : World) (ι : Inj) (xs : List Value), Sim S.w0 ι H w → RelL ι vs xs → ∃ ι', Inj.ex H.length ι ι' ∧ Sim S.w0 ι' H1 w ∧ RelL ι' vs1 xs ∧ ∀ b e, b ∈ bs → ι b = some e → ∃ arr, ι'.z e.r = some arr
theorem Frzn.refl (vs : List VVal) (H : Ze) : Frzn S vs H vs H [] :=
 ⟨rfl, fun _ _ _ => rfl, fun w ι xs s r => ⟨ι, Inj.ex_refl _ _, s, r, fun b e h => by cases h⟩⟩
theorem Frzn.trans {vs vs1 vs2 : List VVal} {H H1 H2 : Ze} {bs bs2 : List Nat} (a : Frzn S vs H vs1 H1 bs) (b : Frzn S vs1 H1 vs2 H2 bs2) : Frzn S vs H vs2 H2 (bs ++ bs2) := by
 refine ⟨b.1.trans a.1, fun i hi hm => ?_, fun w ι xs s r => ?_⟩
 ·rw [List.mem_append, not_or] at hm
  rw [b.2.1 i (by rw [a.1]; exact hi) hm.2, a.2.1 i hi hm.1]
 obtain ⟨ι1, e1, s1, r1, z1⟩ := a.2.2 w ι xs s r
 obtain ⟨ι2, e2, s2, r2, z2⟩ := b.2.2 w ι1 xs s1 r1
 have hl := a.1
 refine ⟨ι2, Inj.ex_trans e1 e2 (by omega), s2, r2, fun c e hc hm => ?_⟩
 rcases List.mem_append.1 hc with hc | hc
 ·obtain ⟨arr, hz⟩ := z1 c e hc hm
  exact ⟨arr, e2.2.1 _ _ hz⟩
 exact z2 c e hc ((e1.1 c (s.dom c e hm)).trans hm)
theorem Frzn.gh {vs vs1 : List VVal} {H : Ze} (g : Gh S H vs H vs1 H) : Frzn S vs H vs1 H [] := by
 refine ⟨rfl, fun _ _ _ => rfl, fun w ι xs s r => ?_⟩
 obtain ⟨ι', a, b, c⟩ := (g (Nat.le_refl _)).2 w ι xs (Base.self s) s r
 exact ⟨ι', a, b, c, fun b e h => by cases h⟩
theorem Frzn.frame {vs vs1 : List VVal} {H H1 : Ze} {bs : List Nat} (a : Frzn S vs H vs1 H1 bs) (us ws : List VVal) : Frzn S (us ++ (vs ++ ws)) H (us ++ (vs1 ++ ws)) H1 bs := by
 refine ⟨a.1, a.2.1, fun w ι xs s r => ?_⟩
 have split : ∀ {ks bs : List VVal} {xs : List Value}, RelL ι (ks ++ bs) xs → ∃ ys zs, xs = ys ++ zs ∧ RelL ι ks ys ∧ RelL ι bs zs := by
  intro ks
  induction ks with
  | nil => intro bs xs h; exact ⟨[], xs, rfl, .nil, h⟩
  | cons u ks ih =>
   intro bs xs h
   simp only [List.cons_append, RelL] at h
   obtain ⟨y, ys, rfl, p, q⟩ := h
   obtain ⟨y1, z1, rfl, p1, q1⟩ := ih q
   exact ⟨y :: y1, z1, rfl, .cons p p1, q1⟩
 obtain ⟨x1, x23, rfl, r1, r23⟩ := split r
 obtain ⟨x2, x3, rfl, r2, r3⟩ := split r23
 obtain ⟨ι', e, s', r2', z⟩ := a.2.2 w ι x2 s r2
 have le := s.le e
 exact ⟨ι', e, s', (RelL.mono le _ _ r1).append (r2'.append (RelL.mono le _ _ r3)), z⟩
theorem Frzn.agg {cs cs1 : List VVal} {H H1 : Ze} {bs : List Nat} (a : Frzn S cs H cs1 H1 bs) : Frzn S [.agg cs] H [.agg cs1] H1 bs := by
 refine ⟨a.1, a.2.1, fun w ι xs s r => ?_⟩
 simp only [RelL, Rel] at r
 obtain ⟨y, ys, rfl, ⟨ds, rfl, rd⟩, rfl⟩ := r
 obtain ⟨ι', e, s', r', z⟩ := a.2.2 w ι _ s rd
 exact ⟨ι', e, s', .one (by simp only [Rel]; exact ⟨ds, rfl, r'⟩), z⟩
theorem Frzn.slice {H : Ze} {b off len cap es : Nat} {ex : Bool} {cs l : List VVal} (hg : H[b]? = some (.cells cs true)) (hl : Zo cs off (len * es) = some l) (hc : len ≤ cap) :
  Frzn S [.slice (some (b, off)) len cap ex es] H [.fsl l len es false] (H.set b .dead) [b] := by
 refine ⟨by simp, fun c hc' hm => ?_, fun w ι xs s r => ?_⟩
 ·rw [List.getElem?_set_ne]; rintro rfl; exact hm (List.mem_singleton.2 rfl)
 simp only [RelL, Rel] at r
 obtain ⟨y, ys, rfl, ⟨e, c, h1, h2, h3, h4, rfl⟩, rfl⟩ := r
 obtain ⟨ι', arr, ys, e1, s1, z1, r1, c1⟩ := s.freeze h1 hg
 refine ⟨ι', e1, s1, ?_, fun d ed hd hm => ?_⟩
 ·obtain ⟨k1, k2, k3⟩ := Yi r1 hl
  refine .one ?_
  simp only [Rel]
  refine ⟨_, c, _, rfl, by omega, (fun hq => by cases hq), (fun hq => by cases hq), k1, .inr ⟨e.r, e.sh + off, arr, rfl, z1, fun j y hy => ?_⟩⟩
  rw [List.getElem?_take] at hy
  split at hy
  ·rw [List.getElem?_drop] at hy
   rw [Nat.add_assoc]
   exact c1 _ _ hy
  cases hy
 rw [List.mem_singleton] at hd; subst hd
 rw [h1] at hm; cases hm
 exact ⟨arr, z1⟩
theorem Frzn.cells {H H1 : Ze} {c off len cap es : Nat} {ex : Bool} {cs cs1 l : List VVal} {bs : List Nat} (hg : H[c]? = some (.cells cs true)) (a : Frzn S cs H cs1 H1 bs) (hb : c ∉ bs) (hl : Zo cs1 off (len * es) = some l) (hc : len ≤ cap) :
  Frzn S [.slice (some (c, off)) len cap ex es] H [.fsl l len es false] (H1.set c .dead) (bs ++ [c]) := by
 have hc1 : H1[c]? = some (.cells cs true) := by rw [a.2.1 c (List.getElem?_eq_some_iff.1 hg).1 hb]; exact hg
 refine ⟨by simp [a.1], fun d hd hm => ?_, fun w ι xs s r => ?_⟩
 ·rw [List.mem_append, not_or] at hm
  rw [List.getElem?_set_ne (by rintro rfl; exact hm.2 (List.mem_singleton.2 rfl))]
  exact a.2.1 d hd hm.1
 simp only [RelL, Rel] at r
 obtain ⟨y, ys, rfl, ⟨e, cc, h1, h2, h3, h4, rfl⟩, rfl⟩ := r
 obtain ⟨arr, t, fr, zs, q1, q2, q3, q4⟩ := s.blk c e _ h1 hg
 obtain ⟨ι1, e1, s1, r1, z1⟩ := a.2.2 w ι zs s q2
 have h1' : ι1 c = some e := (e1.1 c (s.dom c e h1)).trans h1
 obtain ⟨ι2, arr2, ys2, e2, s2, z2, r2, c2⟩ := s1.freeze h1' hc1
 have harr : arr2 = arr := by
  obtain ⟨t', fr', hw, _⟩ := s2.frz.fz _ _ z2
  rw [q1] at hw; cases hw; rfl
 subst harr
 refine ⟨ι2, Inj.ex_trans e1 e2 (by rw [a.1]; exact Nat.le_refl _), s2, ?_, fun d ed hd hm => ?_⟩
 ·obtain ⟨k1, k2, k3⟩ := Yi (RelL.mono (s1.le e2) _ _ r1) hl
  refine .one ?_
  simp only [Rel]
  refine ⟨_, cc, _, rfl, by omega, (fun hq => by cases hq), (fun hq => by cases hq), k1, .inr ⟨e.r, e.sh + off, arr2, rfl, z2, fun j y hy => ?_⟩⟩
  rw [List.getElem?_take] at hy
  split at hy
  ·rw [List.getElem?_drop] at hy
   rw [Nat.add_assoc]
   exact q3 _ _ hy
  cases hy
 rcases List.mem_append.1 hd with hd | hd
 ·obtain ⟨arr', hz⟩ := z1 d ed hd hm
  exact ⟨arr', e2.2.1 _ _ hz⟩
 rw [List.mem_singleton] at hd; subst hd
 rw [h1] at hm; cases hm
 exact ⟨_, z2⟩
theorem F_lend {f : FuncId} {args args1 : List VVal} {H H1 : Ze} {bs : List Nat} {R R' : VVal → Ze → Prop} (z : Frzn S args H args1 H1 bs) (hH : ∀ b k, H[b]? = some k → b ∉ bs → k.nofz = true) (hbs : ∀ b, b ∈ bs → ∃ cs, H[b]? = some (.cells cs true))
  (h : F S f args1 H1 R) (hR : ∀ v G, R v G → v.nofz = true ∧ H.length ≤ G.length ∧ (∀ b, b < H.length → b ∉ bs → G[b]? = H[b]?) ∧ R' v (H ++ (G.drop H.length).map VBlk.keep)) : F S f args H R' := by
 intro n w ι args' s r
 obtain ⟨zl, zo, zz⟩ := z
 obtain ⟨ι1, e1, s1, r1, z1⟩ := zz w ι _ s r
 refine ⟨(h n w ι1 args' s1 r1).1, CallsIn.mono (h n w ι1 args' s1 r1).2 ?_⟩
 rintro e w' ⟨x, v, G, ι2, rfl, ex2, hlen, s2, rx, hRv⟩
 obtain ⟨nv, hl, hG, hR'⟩ := hR v G hRv
 rw [zl] at ex2 hlen
 have ex : Inj.ex H.length ι ι2 := Inj.ex_trans e1 ex2 (Nat.le_refl _)
 have zsub : ∀ r a, ι.z r = some a → ι2.z r = some a := ex.2.1
 have hm : ι2.mle ⟨ι2.m, ι.z, ι2.df⟩ := fun _ _ h => h
 have hle : ι.le ⟨ι2.m, ι.z, ι2.df⟩ := ⟨fun b e hb => (ex.1 b (s.dom b e hb)).trans hb, fun _ _ h => h⟩
 have geG : ∀ b k, (H ++ (G.drop H.length).map VBlk.keep)[b]? = some k → (b < H.length ∧ b ∈ bs ∧ ∃ cs, k = .cells cs true ∧ H[b]? = some k) ∨ (k.nofz = true ∧ (b ∉ bs ∨ H.length ≤ b) ∧ ((G[b]? = some k) ∨ (k = .dead))) := by
  intro b k hk
  by_cases hb : b < H.length
  ·rw [List.getElem?_append_left hb] at hk
   by_cases hbb : b ∈ bs
   ·obtain ⟨cs, hc⟩ := hbs b hbb
    rw [hk] at hc; cases hc
    exact .inl ⟨hb, hbb, cs, rfl, hk⟩
   exact .inr ⟨hH b k hk hbb, .inl hbb, .inl (by rw [hG b hb hbb]; exact hk)⟩
  rw [List.getElem?_append_right (by omega), List.getElem?_map, List.getElem?_drop] at hk
  rw [show H.length + (b - H.length) = b by omega] at hk
  cases hg : G[b]? with
  | none => rw [hg] at hk; cases hk
  | some k2 =>
   rw [hg] at hk
   simp only [Option.map_some, Option.some.injEq] at hk
   subst hk
   refine .inr ⟨k2.keep_nofz, .inr (by omega), ?_⟩
   unfold VBlk.keep
   split
   ·exact .inl rfl
   exact .inr rfl
 have zof : ∀ b e, b ∈ bs → ι b = some e → ∃ arr, ι2.z e.r = some arr := fun b e hb hm => by
  obtain ⟨arr, hz⟩ := z1 b e hb hm
  exact ⟨arr, ex2.2.1 _ _ hz⟩
 refine ⟨x, v, H ++ (G.drop H.length).map VBlk.keep, ⟨ι2.m, ι.z, ι2.df⟩, rfl, ⟨ex.1, fun _ _ h => h, ex.2.2⟩, by simp, ?_, Rel.nofz hm _ _ nv rx, hR'⟩
 refine ⟨s2.below, ⟨fun r arr hz => s2.frz.fz r arr (zsub _ _ hz), s2.frz.dn, s2.frz.dd⟩, ?_, ?_, ?_, ?_⟩
 ·intro r arr b e k hz hb hk ho
  rcases geG b k hk with ⟨hb', hbb, cs, rfl, hHb⟩ | ⟨nk, _, hk' | rfl⟩
  ·exact s.fo r arr b e _ hz ((ex.1 b hb').symm.trans hb) hHb ho
  ·exact s2.fo r arr b e k (zsub _ _ hz) hb hk' ho
  simp [VBlk.owns] at ho
 ·intro b e hb
  have := s2.dom b e hb
  simp; omega
 ·intro b e k hb hk
  rcases geG b k hk with ⟨hb', hbb, cs, rfl, hHb⟩ | ⟨nk, _, hk' | rfl⟩
  ·have hbι : ι b = some e := (ex.1 b hb').symm.trans hb
   obtain ⟨arr, t, fr, cs', q1, q2, q3, q4⟩ := s.blk b e _ hbι hHb
   rw [if_pos rfl] at q4
   obtain ⟨arr2, hz⟩ := zof b e hbb hbι
   obtain ⟨arr1, hz1⟩ := z1 b e hbb hbι
   have h21 := ex2.2.1 _ _ hz1
   rw [hz] at h21; cases h21
   obtain ⟨t1, fr1, hw1, _⟩ := s1.frz.fz _ _ hz1
   rw [q1] at hw1; cases hw1
   obtain ⟨t2, fr2, hw2, k2⟩ := s2.frz.fz _ _ hz
   refine ⟨_, t2, fr2, cs', hw2, RelL.mono hle _ _ q2, q3, ?_⟩
   rw [if_pos rfl]
   exact ⟨q4.1, q4.2.1, q4.2.2.1, k2 q4.1⟩
  ·exact BRel.nofz hm nk (s2.blk b e k hb hk')
  trivial
 intro b b' e e' k k' hb hb' hk hk' ho ho' he
 rcases geG b k hk with ⟨h1, h2, cs, rfl, h3⟩ | ⟨nk, _, hk1 | rfl⟩
 ·have hbι : ι b = some e := (ex.1 b h1).symm.trans hb
  rcases geG b' k' hk' with ⟨h1', h2', cs', rfl, h3'⟩ | ⟨nk', _, hk1' | rfl⟩
  ·exact s.inj b b' e e' _ _ hbι ((ex.1 b' h1').symm.trans hb') h3 h3' ho ho' he
  ·obtain ⟨arr, hz⟩ := zof b e h2 hbι
   exact absurd he.symm (s2.fo _ _ b' e' k' hz hb' hk1' ho')
  simp [VBlk.owns] at ho'
 ·rcases geG b' k' hk' with ⟨h1', h2', cs', rfl, h3'⟩ | ⟨nk', _, hk1' | rfl⟩
  ·have hbι : ι b' = some e' := (ex.1 b' h1').symm.trans hb'
   obtain ⟨arr, hz⟩ := zof b' e' h2' hbι
   exact absurd he (s2.fo _ _ b e k hz hb hk1 ho)
  ·exact s2.inj b b' e e' k k' hb hb' hk1 hk1' ho ho' he
  simp [VBlk.owns] at ho'
 simp [VBlk.owns] at ho
end
open Go Go.RowKit
def kl (H : Ze) : VVal → Ze
 | .slice (some (b, _)) _ _ _ _ => H.set b .dead
 | _ => H
theorem Xj {H : Ze} {v : VVal} : (kl H v).length = H.length := by
 unfold kl; split
 ·rw [List.length_set]
 rfl
theorem QO {H : Ze} {v : VVal} {b : Nat} (h : ZV v ≠ some b) : (kl H v)[b]? = H[b]? := by
 unfold kl; split
 ·rename_i c _ _ _ _ _
  rw [List.getElem?_set_ne]
  rintro rfl; exact h rfl
 rfl
theorem LV0.lt {es : Nat} {X : Ze} {v : VVal} {cs : List VVal} {n b : Nat} (l : LV 0 es X v cs n) (h : ZV v = some b) : b < X.length ∧ X[b]? = some (.cells cs true) := by
 rcases l.2 with ⟨_, rfl⟩ | ⟨_, c, rfl, hc⟩
 ·cases h
 have e : 0 + c = b := Option.some.inj h
 have : c = b := by omega
 subst this
 exact ⟨(List.getElem?_eq_some_iff.1 hc).1, hc⟩
theorem LV0.frame {es : Nat} {X Y : Ze} {v : VVal} {cs : List VVal} {n : Nat} (l : LV 0 es X v cs n) (h : ∀ b, ZV v = some b → Y[b]? = X[b]?) : LV 0 es Y v cs n :=
 l.frame fun i hi => h i (by rw [hi, Nat.zero_add])
section
variable {T : TypeId → Option VTy} {ρ : Operand → VVal} {op : Op}
theorem Zcw {s x : Operand} {ats : Array TypeId} {t u e : TypeId} {z : VTy} {du : TypeDesc} {v : VVal} {X Z : Ze} {cs new : List VVal} {len k j es : Nat}
  (ho : op = .call { callee := .builtin .append, args := #[s, x], argTypes := ats }) (hat : ats = #[t, u]) (hz : Y6 T t = some (e, z)) (hu : (T u).map (·.desc) = some du) (hdu : XJ du = true) (hes : z.size = es)
  (hs : ρ s = v) (hx : ρ x = .slice (some (j, 0)) k k true es) (hj : j = X.length + Z.length) (l : LV 0 es X v cs len) (hn : new.length = k * es) (h1 : new.all VVal.one = true) (hp : 0 < es)
  (hb : (len + k) * z.bytes ≤ 140737488355328 ∧ len + k ≤ 140737488355328) (hk : 0 < k) :
  vop T ρ (X ++ (Z ++ [.cells new true])) op = some (.slice (some (X.length + Z.length + 1, 0)) (len + k) (len + k) false es, kl X v ++ (Z ++ [.cells new true, .cells (cs ++ new) true])) := by
 subst hes hj
 have hsrc : ZU (X ++ (Z ++ [.cells new true])) z.size k (ρ x) = some new := by
  rw [hx]
  simp only [ZU]
  rw [← List.append_assoc, show X.length + Z.length = (X ++ Z).length by simp, List.getElem?_append_right (Nat.le_refl _), Nat.sub_self]
  simp only [List.getElem?_cons_zero, Zo]
  rw [if_pos (by omega), List.drop_zero, List.take_of_length_le (by omega)]
 have hlen : (X ++ (Z ++ [VBlk.cells new true])).length = X.length + Z.length + 1 := by simp; omega
 have hk' : YO (ρ x) = some k := by rw [hx]; rfl
 rcases l.2 with ⟨rfl, rfl⟩ | ⟨hl, b, rfl, hg⟩
 ·have hcs : cs = [] := List.eq_nil_of_length_eq_zero XH26
  subst hcs
  rw [ho, hat]
  simp only [vop, ZR, List.map_cons, List.map_nil, Yq, hz, hs, hu, hk']
  rw [hsrc]
  simp only
  rw [if_pos ⟨hn, h1, hp, hb.1, hb.2, hdu⟩, if_neg (by omega), if_neg (by omega), if_neg (by simp), hlen]
  simp [kl]
 have hbX : b < X.length := (List.getElem?_eq_some_iff.1 hg).1
 rw [ho, hat]
 simp only [vop, ZR, List.map_cons, List.map_nil, Yq, hz, hs, hu, hk']
 rw [hsrc]
 simp only
 rw [if_pos ⟨hn, h1, hp, hb.1, hb.2, hdu⟩]
 rw [if_pos trivial, Nat.zero_add, Zn hg]
 simp only
 rw [if_neg (by omega)]
 have hold : Zo cs 0 (len * z.size) = some cs := by
  have := l.1
  unfold Zo; rw [if_pos (by omega), List.drop_zero, List.take_of_length_le (by omega)]
 rw [hold]
 simp only
 rw [if_neg (by decide), if_pos trivial, hlen]
 simp [kl, List.set_append_left _ _ hbX]
def apV (b0 n k : Nat) : VVal := if k = 0 then .slice (some (b0, 0)) 0 0 true 1 else .slice (some (n, 0)) k k false 1
def apH (cs : List VVal) : Ze := if cs = [] then [] else [.cells cs true]
def loT (cs mk : List VVal) : Ze := if cs = [] then [.cells [] true, .cells mk true, .cells mk true] else [.cells [] true, .dead, .cells mk true, .cells (cs ++ mk) true]
theorem loT_len {cs mk : List VVal} : (loT cs mk).length = if cs = [] then 3 else 4 := by unfold loT; split <;> rfl
theorem Zay {cs mk : List VVal} : (loT cs mk)[(loT cs mk).length - 1]? = some (.cells (cs ++ mk) true) := by
 unfold loT; split
 ·rename_i h; subst h; rfl
 rfl
theorem v_apE {s x : Operand} {ats : Array TypeId} {t u e : TypeId} {z : VTy} {du : TypeDesc} {G : Ze} {cs : List VVal} {k b0 : Nat} {ex : Bool}
  (ho : op = .call { callee := .builtin .append, args := #[s, x], argTypes := ats }) (hat : ats = #[t, u]) (hz : Y6 T t = some (e, z)) (hu : (T u).map (·.desc) = some du) (hdu : XJ du = true) (hes : z.size = 1)
  (hs : ρ s = .slice (some (b0, 0)) 0 0 true 1) (hb0 : b0 = G.length) (hx : ρ x = .fsl cs k 1 ex) (hn : cs.length = k) (h1 : cs.all VVal.one = true)
  (hb : k * z.bytes ≤ 140737488355328 ∧ k ≤ 140737488355328) :
  vop T ρ (G ++ [.cells [] true]) op = some (apV b0 (G.length + 1) k, G ++ ([.cells [] true] ++ apH cs)) := by
 subst hb0
 have hk' : YO (ρ x) = some k := by rw [hx]; rfl
 have hsrc : ZU (G ++ [.cells [] true]) z.size k (ρ x) = some cs := by
  rw [hx]
  show Zo cs 0 (k * z.size) = some cs
  unfold Zo; rw [if_pos (by rw [hes]; omega), List.drop_zero, List.take_of_length_le (by rw [hes]; omega)]
 have hg : (G ++ [VBlk.cells [] true])[G.length]? = some (.cells [] true) := by
  rw [List.getElem?_append_right (Nat.le_refl _), Nat.sub_self]; rfl
 rw [ho, hat]
 simp only [vop, ZR, List.map_cons, List.map_nil, Yq, hz, hs, hu, hk']
 rw [hsrc]
 simp only
 rw [if_pos ⟨by rw [hes]; omega, h1, by omega, by simpa using hb.1, by simpa using hb.2, hdu⟩, if_pos hes.symm, hg]
 simp only
 unfold apV apH
 by_cases h0 : k = 0
 ·subst h0
  have : cs = [] := List.eq_nil_of_length_eq_zero (by omega)
  subst this
  simp
 have hne : cs ≠ [] := by rintro rfl; simp at hn; omega
 have hold : Zo ([] : List VVal) 0 (0 * 1) = some [] := by unfold Zo; simp
 rw [if_neg (by omega), hold]
 simp [h0, hne]
theorem v_apM {s x : Operand} {ats : Array TypeId} {t u e : TypeId} {z : VTy} {du : TypeDesc} {G : Ze} {cs mk : List VVal} {k m b0 b1 : Nat}
  (ho : op = .call { callee := .builtin .append, args := #[s, x], argTypes := ats }) (hat : ats = #[t, u]) (hz : Y6 T t = some (e, z)) (hu : (T u).map (·.desc) = some du) (hdu : XJ du = true) (hes : z.size = 1)
  (hs : ρ s = apV b0 (G.length + 1) k) (hb0 : b0 = G.length) (hx : ρ x = .slice (some (b1, 0)) m m true 1) (hb1 : b1 = G.length + ([VBlk.cells [] true] ++ apH cs).length) (hn : cs.length = k) (hm : mk.length = m) (hm0 : 0 < m) (h1 : mk.all VVal.one = true)
  (hb : (k + m) * z.bytes ≤ 140737488355328 ∧ k + m ≤ 140737488355328) :
  vop T ρ (G ++ (([.cells [] true] ++ apH cs) ++ [.cells mk true])) op = some (.slice (some (G.length + (loT cs mk).length - 1, 0)) (k + m) (k + m) false 1, G ++ loT cs mk) := by
 subst hb0 hb1
 have hk' : YO (ρ x) = some m := by rw [hx]; rfl
 have hsrc : ZU (G ++ (([.cells [] true] ++ apH cs) ++ [.cells mk true])) z.size m (ρ x) = some mk := by
  rw [hx]
  simp only [ZU]
  rw [ZI rfl (x := .cells mk true) Xw]
  simp only [Zo]
  rw [if_pos (by rw [hes]; omega), List.drop_zero, List.take_of_length_le (by rw [hes]; omega)]
 rw [ho, hat]
 by_cases h0 : k = 0
 ·have e : cs = [] := List.eq_nil_of_length_eq_zero (by omega)
  subst e; subst h0
  have hs' : ρ s = .slice (some (G.length, 0)) 0 0 true 1 := hs
  have hg : (G ++ (([VBlk.cells [] true] ++ apH []) ++ [.cells mk true]))[G.length]? = some (.cells [] true) := by
   rw [List.getElem?_append_right (Nat.le_refl _), Nat.sub_self]; rfl
  have hold : Zo ([] : List VVal) 0 (0 * 1) = some [] := by unfold Zo; simp
  simp only [vop, ZR, List.map_cons, List.map_nil, Yq, hz, hs', hu, hk']
  rw [hsrc]
  simp only
  rw [if_pos ⟨by rw [hes]; omega, h1, by omega, by simpa using hb.1, by simpa using hb.2, hdu⟩, if_pos hes.symm, hg]
  simp only
  rw [if_neg (by omega), hold]
  simp [apH, loT]
 have hne : cs ≠ [] := by rintro rfl; simp at hn; omega
 have hs' : ρ s = .slice (some (G.length + 1, 0)) k k false 1 := by rw [hs]; unfold apV; rw [if_neg h0]
 have hh : apH cs = [.cells cs true] := by unfold apH; rw [if_neg hne]
 have ht : loT cs mk = [.cells [] true, .dead, .cells mk true, .cells (cs ++ mk) true] := by unfold loT; rw [if_neg hne]
 have hg : (G ++ (([VBlk.cells [] true] ++ apH cs) ++ [.cells mk true]))[G.length + 1]? = some (.cells cs true) := by
  rw [hh]; exact ZI rfl rfl
 have hold : Zo cs 0 (k * 1) = some cs := by unfold Zo; rw [if_pos (by omega), List.drop_zero, List.take_of_length_le (by omega)]
 simp only [vop, ZR, List.map_cons, List.map_nil, Yq, hz, hs', hu, hk']
 rw [hsrc]
 simp only
 rw [if_pos ⟨by rw [hes]; omega, h1, by omega, by simpa using hb.1, by simpa using hb.2, hdu⟩, if_pos hes.symm, hg]
 simp only
 rw [if_neg (by omega), hold]
 simp only
 rw [if_neg (by decide), if_pos trivial, hh, ht, ZO rfl]
 simp
theorem v_apL {s x : Operand} {ats : Array TypeId} {t u e : TypeId} {z : VTy} {du : TypeDesc} {X Z : Ze} {cs : List VVal} {k b0 f : Nat} {ex : Bool}
  (ho : op = .call { callee := .builtin .append, args := #[s, x], argTypes := ats }) (hat : ats = #[t, u]) (hz : Y6 T t = some (e, z)) (hu : (T u).map (·.desc) = some du) (hdu : XJ du = true) (hes : z.size = 1)
  (hs : ρ s = .slice (some (b0, 0)) 0 0 true 1) (hb0 : (X ++ Z)[b0]? = some (.cells [] true)) (hx : ρ x = .slice (some (f, 0)) k k ex 1) (hf : (X ++ Z)[f]? = some (.cells cs true)) (hn : cs.length = k) (hk : 0 < k) (h1 : cs.all VVal.one = true)
  (hb : k * z.bytes ≤ 140737488355328 ∧ k ≤ 140737488355328) :
  vop T ρ (X ++ Z) op = some (.slice (some (X.length + Z.length, 0)) k k false 1, X ++ (Z ++ [.cells cs true])) := by
 have hk' : YO (ρ x) = some k := by rw [hx]; rfl
 have hsrc : ZU (X ++ Z) z.size k (ρ x) = some cs := by
  rw [hx]
  simp only [ZU]
  rw [hf]
  simp only [Zo]
  rw [if_pos (by rw [hes]; omega), List.drop_zero, List.take_of_length_le (by rw [hes]; omega)]
 rw [ho, hat]
 have hold : Zo ([] : List VVal) 0 (0 * 1) = some [] := by unfold Zo; simp
 simp only [vop, ZR, List.map_cons, List.map_nil, Yq, hz, hs, hu, hk']
 rw [hsrc]
 simp only
 rw [if_pos ⟨by rw [hes]; omega, h1, by omega, by simpa using hb.1, by simpa using hb.2, hdu⟩, if_pos hes.symm, hb0]
 simp only
 rw [if_neg (by omega), hold]
 simp
theorem v_cutL {t e : TypeId} {x hi : Operand} {y z : VTy} {f len cap es k : Nat} {ex : Bool} {kd : IntKind} (ho : op = .slice t x none (some hi) none) (hy : T t = some y) (hd : y.desc = .slice e) (hz : T e = some z) (hs : z.size = es)
  (hx : ρ x = .slice (some (f, 0)) len cap ex es) (hh : ρ hi = .int kd (k : Nat)) (hk : k ≤ cap) (hl : len ≤ cap) (h0 : 0 < cap) {H : Ze} : vop T ρ H op = some (.slice (some (f, 0)) k cap ex es, H) := by
 rw [ho]
 simp only [vop, Option.map_some, Option.map_none, Jw, hy, hd, hx, hz, hh, hs, Yp]
 simp [hk, hl, h0]
 all_goals omega
end
open Go Go.RowKit
structure LE where
 f : Nat
 w : Nat
 cs : List VVal
def LE.fv (e : LE) : VVal := .slice (some (e.f, 0)) e.cs.length e.cs.length false 1
def LE.wv (e : LE) : VVal := .slice (some (e.w, 0)) e.cs.length e.cs.length false 1
def mkI : List VVal := [iI (-77), iI (-78), iI (-79), iI (-80)]
def mkW : List VVal := [iW 77#64, iW 78#64, iW 79#64, iW 80#64]
def lnF (G T : Ze) (N : Nat) : VVal := .slice (some (G.length + T.length - 1, 0)) N N false 1
def lnS (G T : Ze) (i n : Nat) (S0 : List VVal) : List VVal := S0.set i (.slice (some (G.length + T.length + 1, 0)) (n + 1) (n + 1) false 1)
def lnH (G T : Ze) (c i n : Nat) (S0 : List VVal) (vF : VVal) : Ze := (kl G vF).set c (.cells (lnS G T i n S0) true)
def lnZ (G T : Ze) (N : Nat) (cs : List VVal) (csF : List VVal) : Ze := ((T ++ [.cells [lnF G T N] true, .cells (csF ++ [lnF G T N]) true]) ++ [.cells [] true]) ++ [.cells cs true]
def lnW (G T : Ze) (c i n N : Nat) (S0 : List VVal) (csF : List VVal) (vF : VVal) : VVal := .slice (some ((lnH G T c i n S0 vF).length + ((T ++ [VBlk.cells [lnF G T N] true, VBlk.cells (csF ++ [lnF G T N]) true]) ++ [VBlk.cells [] true]).length, 0)) N N false 1
def lnG (G T : Ze) (c i n N : Nat) (S0 cs : List VVal) (vF vW : VVal) (csF csW : List VVal) : Ze :=
 (kl (lnH G T c i n S0 vF) vW).set c (.cells ((lnS G T i n S0).set (i + 1) (.slice (some ((lnH G T c i n S0 vF).length + (lnZ G T N cs csF).length + 1, 0)) (n + 1) (n + 1) false 1)) true) ++ (lnZ G T N cs csF ++ [.cells [lnW G T c i n N S0 csF vF] true, .cells (csW ++ [lnW G T c i n N S0 csF vF]) true])
theorem full_at {H1 T Y Z : Ze} {h : Nat} {k : VBlk} (hl : H1.length = h) (h0 : 0 < T.length) (hF : T[T.length - 1]? = some k) : (H1 ++ ((T ++ Y) ++ Z))[h + T.length - 1]? = some k := by
 subst hl
 rw [show H1.length + T.length - 1 = H1.length + (T.length - 1) by omega]
 exact ZI rfl (Zn (Zn hF))
theorem kl_set {G : Ze} {v : VVal} {c : Nat} {k k' : VBlk} (hc : G[c]? = some k) (h : ZV v ≠ some c) : ((kl G v).set c k')[c]? = some k' := List.getElem?_set_self (by rw [Xj]; exact ZG hc)
theorem Zbl {G T : Ze} {c i n N : Nat} {S0 cs : List VVal} {vF vW : VVal} {csF csW : List VVal} :
  lnG G T c i n N S0 cs vF vW csF csW = (kl (lnH G T c i n S0 vF) vW).set c (.cells ((lnS G T i n S0).set (i + 1) (.slice (some (G.length + T.length + 5, 0)) (n + 1) (n + 1) false 1)) true) ++
   (T ++ [.cells [lnF G T N] true, .cells (csF ++ [lnF G T N]) true, .cells [] true, .cells cs true, .cells [.slice (some (G.length + T.length + 3, 0)) N N false 1] true, .cells (csW ++ [.slice (some (G.length + T.length + 3, 0)) N N false 1]) true]) := by
 have e1 : (lnH G T c i n S0 vF).length = G.length := by unfold lnH; rw [List.length_set, Xj]
 have e2 : lnW G T c i n N S0 csF vF = .slice (some (G.length + T.length + 3, 0)) N N false 1 := by
  unfold lnW; rw [e1]; simp; omega
 have e3 : (lnZ G T N cs csF).length = T.length + 4 := by unfold lnZ; simp
 unfold lnG
 rw [e1, e2, e3, show G.length + (T.length + 4) + 1 = G.length + T.length + 5 by omega]
 unfold lnZ
 simp
section
variable {G T : Ze} {c i n N : Nat} {S0 cs : List VVal} {vF vW : VVal} {csF csW : List VVal}
theorem Qd {k : VBlk} : ((kl (lnH G T c i n S0 vF) vW).set c k).length = G.length := by
 rw [List.length_set, Xj]; unfold lnH; rw [List.length_set, Xj]
theorem JB : (lnG G T c i n N S0 cs vF vW csF csW).length = G.length + T.length + 6 := by
 rw [Zbl, List.length_append, Qd, List.length_append]; simp; omega
theorem Xv {b : Nat} (hb : b < G.length) (h1 : b ≠ c) (h2 : ZV vF ≠ some b) (h3 : ZV vW ≠ some b) : (lnG G T c i n N S0 cs vF vW csF csW)[b]? = G[b]? := by
 rw [Zbl, List.getElem?_append_left (by rw [Qd]; exact hb), List.getElem?_set_ne (Ne.symm h1), QO h3]
 unfold lnH
 rw [List.getElem?_set_ne (Ne.symm h1), QO h2]
theorem lnG_c (hc : c < G.length) : (lnG G T c i n N S0 cs vF vW csF csW)[c]? = some (.cells ((lnS G T i n S0).set (i + 1) (.slice (some (G.length + T.length + 5, 0)) (n + 1) (n + 1) false 1)) true) := by
 rw [Zbl, List.getElem?_append_left (by rw [Qd]; exact hc), List.getElem?_set_self (by rw [Xj]; unfold lnH; rw [List.length_set, Xj]; exact hc)]
theorem lnG_T {j : Nat} (hj : j < T.length) : (lnG G T c i n N S0 cs vF vW csF csW)[G.length + j]? = T[j]? := by
 rw [Zbl, List.getElem?_append_right (by rw [Qd]; omega), Qd, show G.length + j - G.length = j by omega, List.getElem?_append_left hj]
theorem ZcI {j : Nat} : (lnG G T c i n N S0 cs vF vW csF csW)[G.length + T.length + j]? = ([.cells [lnF G T N] true, .cells (csF ++ [lnF G T N]) true, .cells [] true, .cells cs true, .cells [.slice (some (G.length + T.length + 3, 0)) N N false 1] true, .cells (csW ++ [.slice (some (G.length + T.length + 3, 0)) N N false 1]) true] : Ze)[j]? := by
 rw [Zbl, List.getElem?_append_right (by rw [Qd]; omega), Qd, show G.length + T.length + j - G.length = T.length + j by omega, List.getElem?_append_right (by omega), show T.length + j - T.length = j by omega]
theorem lnG_nofz (hT : ∀ k, k ∈ T → k.nofz = true) (h1 : VVal.nofzL csF = true) (h2 : VVal.nofzL csW = true) (h3 : VVal.nofzL cs = true) {b : Nat} {k : VBlk} (hb : G.length ≤ b) (h : (lnG G T c i n N S0 cs vF vW csF csW)[b]? = some k) : k.nofz = true := by
 by_cases hj : b < G.length + T.length
 ·have e : b = G.length + (b - G.length) := by omega
  rw [e, lnG_T (by omega)] at h
  exact hT k (List.mem_of_getElem? h)
 have e : b = G.length + T.length + (b - G.length - T.length) := by omega
 rw [e, ZcI] at h
 have hm := List.mem_of_getElem? h
 simp only [List.mem_cons, List.not_mem_nil, or_false] at hm
 have hF : (lnF G T N).nofz = true := rfl
 rcases hm with rfl | rfl | rfl | rfl | rfl | rfl
 ·simp [VBlk.nofz, VVal.nofzL, hF]
 ·exact VVal.nofzL_app h1 (by simp [VVal.nofzL, hF])
 ·rfl
 ·exact h3
 ·rfl
 exact VVal.nofzL_app h2 rfl
end
def nms (es rs : List LE) (a0 a1 a2 a3 : VVal) (xs : List Nat) : List Nat := [a0, a1, a2, a3].filterMap ZV ++ ((es ++ rs).map LE.f ++ ((es ++ rs).map LE.w ++ xs))
structure LoanO (G : Ze) (c base : Nat) (a0 a1 a2 a3 : VVal) (es rs : List LE) (xs : List Nat) : Prop where
 blk : G[c]? = some (.cells [a0, a1, a2, a3] true)
 lf : LV 0 1 G a0 (es.map LE.fv) es.length
 lw : LV 0 1 G a1 (es.map LE.wv) es.length
 lr : LV 0 1 G a2 (rs.map LE.fv) rs.length
 ls : LV 0 1 G a3 (rs.map LE.wv) rs.length
 ef : ∀ e, e ∈ es ++ rs → G[e.f]? = some (.cells e.cs true) ∧ G[e.w]? = some (.cells e.cs true)
 ec : ∀ e, e ∈ es ++ rs → 0 < e.cs.length ∧ e.cs.all VVal.one = true ∧ VVal.nofzL e.cs = true
 nd : (nms es rs a0 a1 a2 a3 xs).Nodup
 lo : ∀ b, b ∈ nms es rs a0 a1 a2 a3 xs → base ≤ b ∧ b < G.length
 cl : c < base
 bl : base ≤ G.length
theorem mem_fm {a0 a1 a2 a3 : VVal} {b : Nat} : b ∈ [a0, a1, a2, a3].filterMap ZV ↔ ZV a0 = some b ∨ ZV a1 = some b ∨ ZV a2 = some b ∨ ZV a3 = some b := by
 simp [List.mem_filterMap]
theorem mem_nms {es rs : List LE} {a0 a1 a2 a3 : VVal} {xs : List Nat} {b : Nat} : b ∈ nms es rs a0 a1 a2 a3 xs ↔ (ZV a0 = some b ∨ ZV a1 = some b ∨ ZV a2 = some b ∨ ZV a3 = some b) ∨ (∃ e, e ∈ es ++ rs ∧ (e.f = b ∨ e.w = b)) ∨ b ∈ xs := by
 unfold nms
 rw [List.mem_append, mem_fm, List.mem_append, List.mem_append, List.mem_map, List.mem_map]
 constructor
 ·rintro (h | ⟨e, he, rfl⟩ | ⟨e, he, rfl⟩ | h)
  ·exact .inl h
  ·exact .inr (.inl ⟨e, he, .inl rfl⟩)
  ·exact .inr (.inl ⟨e, he, .inr rfl⟩)
  exact .inr (.inr h)
 rintro (h | ⟨e, he, rfl | rfl⟩ | h)
 ·exact .inl h
 ·exact .inr (.inl ⟨e, he, rfl⟩)
 ·exact .inr (.inr (.inl ⟨e, he, rfl⟩))
 exact .inr (.inr (.inr h))
theorem LoanO.nlist {G : Ze} {c base : Nat} {a0 a1 a2 a3 : VVal} {es rs : List LE} {xs : List Nat} (h : LoanO G c base a0 a1 a2 a3 es rs xs) : ([a0, a1, a2, a3].filterMap ZV).Nodup ∧ (∀ b, b ∈ [a0, a1, a2, a3].filterMap ZV → (∀ e, e ∈ es ++ rs → e.f ≠ b ∧ e.w ≠ b) ∧ b ∉ xs) := by
 have h1 := h.nd
 unfold nms at h1
 rw [List.nodup_append] at h1
 refine ⟨h1.1, fun b hb => ⟨fun e he => ⟨fun q => ?_, fun q => ?_⟩, fun q => ?_⟩⟩
 ·exact h1.2.2 b hb b (List.mem_append_left _ (List.mem_map.2 ⟨e, he, q⟩)) rfl
 ·exact h1.2.2 b hb b (List.mem_append_right _ (List.mem_append_left _ (List.mem_map.2 ⟨e, he, q⟩))) rfl
 exact h1.2.2 b hb b (List.mem_append_right _ (List.mem_append_right _ q)) rfl
theorem fm_ne {a0 a1 a2 a3 : VVal} (h : ([a0, a1, a2, a3].filterMap ZV).Nodup) : (∀ b, ZV a0 = some b → ZV a1 ≠ some b ∧ ZV a2 ≠ some b ∧ ZV a3 ≠ some b) ∧ (∀ b, ZV a1 = some b → ZV a2 ≠ some b ∧ ZV a3 ≠ some b) ∧ (∀ b, ZV a2 = some b → ZV a3 ≠ some b) := by
 cases h0 : ZV a0 <;> cases h1 : ZV a1 <;> cases h2 : ZV a2 <;> cases h3 : ZV a3 <;> simp_all [List.filterMap_cons]
 all_goals omega
open Go Go.RowKit
theorem nd_new {K0 K fs ws xs L F' W' : List Nat} {n1 n5 f w g : Nat} (h : (K0 ++ (fs ++ (ws ++ xs))).Nodup) (hK : K.Sublist K0) (hg : ∀ b, b ∈ K0 ++ (fs ++ (ws ++ xs)) → b < g) (hn : g ≤ f ∧ f < n1 ∧ n1 < w ∧ w < n5)
  (hL : L.Perm (n1 :: n5 :: K)) (hF : F'.Perm (f :: fs)) (hW : W'.Perm (w :: ws)) : (L ++ (F' ++ (W' ++ xs))).Nodup := by
 have p1 : (L ++ (F' ++ (W' ++ xs))).Perm ((n1 :: n5 :: K) ++ ((f :: fs) ++ ((w :: ws) ++ xs))) := hL.append (hF.append (hW.append (List.Perm.refl xs)))
 have p2 : ((n1 :: n5 :: K) ++ ((f :: fs) ++ ((w :: ws) ++ xs))).Perm ([n1, n5, f, w] ++ (K ++ (fs ++ (ws ++ xs)))) := by
  rw [List.perm_iff_count]
  intro a
  simp only [List.count_append, List.count_cons, List.count_nil]
  omega
 rw [(p1.trans p2).nodup_iff]
 have hs : (K ++ (fs ++ (ws ++ xs))).Sublist (K0 ++ (fs ++ (ws ++ xs))) := hK.append (List.Sublist.refl _)
 rw [List.nodup_append]
 refine ⟨?_, hs.nodup h, fun a ha b hb e => ?_⟩
 ·simp; omega
 have hb' := hg b (hs.subset hb)
 simp only [List.mem_cons, List.not_mem_nil, or_false] at ha
 omega
section
variable {G : Ze} {c base : Nat} {a0 a1 a2 a3 : VVal} {es rs : List LE} {xs : List Nat} {l mk : List VVal} {N : Nat}
def leN (G : Ze) (l mk : List VVal) : LE := ⟨G.length + (loT l mk).length - 1, G.length + (loT l mk).length + 3, l ++ mk⟩
theorem loT_ge : 3 ≤ (loT l mk).length := by rw [loT_len]; split <;> omega
theorem loT_nofz (h1 : VVal.nofzL l = true) (h2 : VVal.nofzL mk = true) : ∀ k, k ∈ loT l mk → k.nofz = true := by
 intro k hk
 unfold loT at hk
 split at hk
 ·simp only [List.mem_cons, List.not_mem_nil, or_false] at hk
  rcases hk with rfl | rfl | rfl
  ·rfl
  ·exact h2
  exact h2
 simp only [List.mem_cons, List.not_mem_nil, or_false] at hk
 rcases hk with rfl | rfl | rfl | rfl
 ·rfl
 ·rfl
 ·exact h2
 exact VVal.nofzL_app h1 h2
theorem fv_nofz {es : List LE} : VVal.nofzL (es.map LE.fv) = true := VVal.nofzL_map fun _ => rfl
theorem wv_nofz {es : List LE} : VVal.nofzL (es.map LE.wv) = true := VVal.nofzL_map fun _ => rfl
theorem LoanO.idx (h : LoanO G c base a0 a1 a2 a3 es rs xs) : (∀ b, ZV a0 = some b → base ≤ b ∧ b < G.length) ∧ (∀ b, ZV a1 = some b → base ≤ b ∧ b < G.length) ∧ (∀ b, ZV a2 = some b → base ≤ b ∧ b < G.length) ∧ (∀ b, ZV a3 = some b → base ≤ b ∧ b < G.length) :=
 ⟨fun b hb => h.lo b (mem_nms.2 (.inl (.inl hb))), fun b hb => h.lo b (mem_nms.2 (.inl (.inr (.inl hb)))), fun b hb => h.lo b (mem_nms.2 (.inl (.inr (.inr (.inl hb))))), fun b hb => h.lo b (mem_nms.2 (.inl (.inr (.inr (.inr hb)))))⟩
theorem LoanO.nc (h : LoanO G c base a0 a1 a2 a3 es rs xs) : ZV a0 ≠ some c ∧ ZV a1 ≠ some c ∧ ZV a2 ≠ some c ∧ ZV a3 ≠ some c := by
 have hc := h.cl
 obtain ⟨i0, i1, i2, i3⟩ := h.idx
 exact ⟨fun e => by have := i0 c e; omega, fun e => by have := i1 c e; omega, fun e => by have := i2 c e; omega, fun e => by have := i3 c e; omega⟩
theorem LoanO.addI (h : LoanO G c base a0 a1 a2 a3 es rs xs) (hN : N = l.length + mk.length) (h0 : 0 < mk.length) (h1 : (l ++ mk).all VVal.one = true) (h2 : VVal.nofzL (l ++ mk) = true) :
  LoanO (lnG G (loT l mk) c 0 es.length N [a0, a1, a2, a3] (l ++ mk) a0 a1 (es.map LE.fv) (es.map LE.wv)) c base (.slice (some (G.length + (loT l mk).length + 1, 0)) (es.length + 1) (es.length + 1) false 1) (.slice (some (G.length + (loT l mk).length + 5, 0)) (es.length + 1) (es.length + 1) false 1) a2 a3 (es ++ [leN G l mk]) rs xs := by
 have ht := @loT_ge l mk
 have hcl := h.cl
 have hbl := h.bl
 obtain ⟨i0, i1, i2, i3⟩ := h.idx
 obtain ⟨c0, c1, c2, c3⟩ := h.nc
 obtain ⟨hnd, hfr⟩ := h.nlist
 obtain ⟨d0, d1, d2⟩ := fm_ne hnd
 have hcG := ZG h.blk
 have hNe : (leN G l mk).cs.length = N := by rw [hN]; exact List.length_append
 have hmem : ∀ e, e ∈ (es ++ [leN G l mk]) ++ rs ↔ e ∈ es ++ rs ∨ e = leN G l mk := fun e => by simp only [List.mem_append, List.mem_singleton]; constructor <;> (intro q; rcases q with (q | q) | q <;> simp [q])
 refine ⟨lnG_c hcG, ?_, ?_, ?_, ?_, ?_, ?_, ?_, ?_, hcl, by rw [JB]; omega⟩
 ·refine ⟨by simp, .inr ⟨by simp, G.length + (loT l mk).length + 1, by simp, ?_⟩⟩
  rw [ZcI]
  show some (VBlk.cells (es.map LE.fv ++ [lnF G (loT l mk) N]) true) = _
  rw [List.map_append, List.map_singleton]
  unfold LE.fv lnF
  rw [hNe]; rfl
 ·refine ⟨by simp, .inr ⟨by simp, G.length + (loT l mk).length + 5, by simp, ?_⟩⟩
  rw [ZcI]
  show some (VBlk.cells (es.map LE.wv ++ [.slice (some (G.length + (loT l mk).length + 3, 0)) N N false 1]) true) = _
  rw [List.map_append, List.map_singleton]
  unfold LE.wv
  rw [hNe]; rfl
 ·refine h.lr.frame fun b hb => ?_
  rw [Nat.zero_add] at hb
  exact Xv (i2 b hb).2 (by rintro rfl; exact c2 hb) (fun e => (d0 b e).2.1 hb) (fun e => (d1 b e).1 hb)
 ·refine h.ls.frame fun b hb => ?_
  rw [Nat.zero_add] at hb
  exact Xv (i3 b hb).2 (by rintro rfl; exact c3 hb) (fun e => (d0 b e).2.2 hb) (fun e => (d1 b e).2 hb)
 ·intro e he
  rcases (hmem e).1 he with he | rfl
  ·obtain ⟨e1, e2⟩ := h.ef e he
   have lf := h.lo e.f (mem_nms.2 (.inr (.inl ⟨e, he, .inl rfl⟩)))
   have lw := h.lo e.w (mem_nms.2 (.inr (.inl ⟨e, he, .inr rfl⟩)))
   refine ⟨?_, ?_⟩
   ·rw [Xv lf.2 (by omega) (fun q => ((hfr e.f (mem_fm.2 (.inl q))).1 e he).1 rfl) (fun q => ((hfr e.f (mem_fm.2 (.inr (.inl q)))).1 e he).1 rfl)]; exact e1
   rw [Xv lw.2 (by omega) (fun q => ((hfr e.w (mem_fm.2 (.inl q))).1 e he).2 rfl) (fun q => ((hfr e.w (mem_fm.2 (.inr (.inl q)))).1 e he).2 rfl)]; exact e2
  refine ⟨?_, ?_⟩
  ·show (lnG _ _ _ _ _ _ _ _ _ _ _ _)[G.length + (loT l mk).length - 1]? = _
   rw [show G.length + (loT l mk).length - 1 = G.length + ((loT l mk).length - 1) by omega, lnG_T (by omega)]
   exact Zay
  show (lnG _ _ _ _ _ _ _ _ _ _ _ _)[G.length + (loT l mk).length + 3]? = _
  rw [ZcI]; rfl
 ·intro e he
  rcases (hmem e).1 he with he | rfl
  ·exact h.ec e he
  exact ⟨by rw [hNe]; omega, h1, h2⟩
 ·refine nd_new (K := [a2, a3].filterMap ZV) (g := G.length) (n1 := G.length + (loT l mk).length + 1) (n5 := G.length + (loT l mk).length + 5) (f := (leN G l mk).f) (w := (leN G l mk).w) h.nd ?_ (fun b hb => (h.lo b hb).2) ⟨by show _ ≤ G.length + _ - 1; omega, by show G.length + _ - 1 < _; omega, by show _ < G.length + _ + 3; omega, by show G.length + _ + 3 < _; omega⟩ (List.Perm.refl _) ?_ ?_
  ·exact List.Sublist.filterMap ZV ((List.Sublist.refl [a2, a3]).cons a1 |>.cons a0)
  ·have : ((es ++ [leN G l mk]) ++ rs).Perm (leN G l mk :: (es ++ rs)) := by rw [List.append_assoc]; exact List.perm_middle
   exact this.map LE.f
  have : ((es ++ [leN G l mk]) ++ rs).Perm (leN G l mk :: (es ++ rs)) := by rw [List.append_assoc]; exact List.perm_middle
  exact this.map LE.w
 intro b hb
 rw [JB]
 rcases mem_nms.1 hb with (q | q | q | q) | ⟨e, he, q⟩ | q
 ·have e2 : G.length + (loT l mk).length + 1 = b := Option.some.inj q
  omega
 ·have e2 : G.length + (loT l mk).length + 5 = b := Option.some.inj q
  omega
 ·have := i2 b q; omega
 ·have := i3 b q; omega
 ·rcases (hmem e).1 he with he | rfl
  ·have := h.lo b (mem_nms.2 (.inr (.inl ⟨e, he, q⟩))); omega
  rcases q with q | q
  ·have e2 : G.length + (loT l mk).length - 1 = b := q
   omega
  have e2 : G.length + (loT l mk).length + 3 = b := q
  omega
 have := h.lo b (mem_nms.2 (.inr (.inr q))); omega
theorem LoanO.addR (h : LoanO G c base a0 a1 a2 a3 es rs xs) (hN : N = l.length + mk.length) (h0 : 0 < mk.length) (h1 : (l ++ mk).all VVal.one = true) (h2 : VVal.nofzL (l ++ mk) = true) :
  LoanO (lnG G (loT l mk) c 2 rs.length N [a0, a1, a2, a3] (l ++ mk) a2 a3 (rs.map LE.fv) (rs.map LE.wv)) c base a0 a1 (.slice (some (G.length + (loT l mk).length + 1, 0)) (rs.length + 1) (rs.length + 1) false 1) (.slice (some (G.length + (loT l mk).length + 5, 0)) (rs.length + 1) (rs.length + 1) false 1) es (rs ++ [leN G l mk]) xs := by
 have ht := @loT_ge l mk
 have hcl := h.cl
 have hbl := h.bl
 obtain ⟨i0, i1, i2, i3⟩ := h.idx
 obtain ⟨c0, c1, c2, c3⟩ := h.nc
 obtain ⟨hnd, hfr⟩ := h.nlist
 obtain ⟨d0, d1, d2⟩ := fm_ne hnd
 have hcG := ZG h.blk
 have hNe : (leN G l mk).cs.length = N := by rw [hN]; exact List.length_append
 have hmem : ∀ e, e ∈ es ++ (rs ++ [leN G l mk]) ↔ e ∈ es ++ rs ∨ e = leN G l mk := fun e => by rw [← List.append_assoc, List.mem_append, List.mem_singleton]
 refine ⟨lnG_c hcG, ?_, ?_, ?_, ?_, ?_, ?_, ?_, ?_, hcl, by rw [JB]; omega⟩
 ·refine h.lf.frame fun b hb => ?_
  rw [Nat.zero_add] at hb
  exact Xv (i0 b hb).2 (by rintro rfl; exact c0 hb) (fun e => (d0 b hb).2.1 e) (fun e => (d0 b hb).2.2 e)
 ·refine h.lw.frame fun b hb => ?_
  rw [Nat.zero_add] at hb
  exact Xv (i1 b hb).2 (by rintro rfl; exact c1 hb) (fun e => (d1 b hb).1 e) (fun e => (d1 b hb).2 e)
 ·refine ⟨by simp, .inr ⟨by simp, G.length + (loT l mk).length + 1, by simp, ?_⟩⟩
  rw [ZcI]
  show some (VBlk.cells (rs.map LE.fv ++ [lnF G (loT l mk) N]) true) = _
  rw [List.map_append, List.map_singleton]
  unfold LE.fv lnF
  rw [hNe]; rfl
 ·refine ⟨by simp, .inr ⟨by simp, G.length + (loT l mk).length + 5, by simp, ?_⟩⟩
  rw [ZcI]
  show some (VBlk.cells (rs.map LE.wv ++ [.slice (some (G.length + (loT l mk).length + 3, 0)) N N false 1]) true) = _
  rw [List.map_append, List.map_singleton]
  unfold LE.wv
  rw [hNe]; rfl
 ·intro e he
  rcases (hmem e).1 he with he | rfl
  ·obtain ⟨e1, e2⟩ := h.ef e he
   have lf := h.lo e.f (mem_nms.2 (.inr (.inl ⟨e, he, .inl rfl⟩)))
   have lw := h.lo e.w (mem_nms.2 (.inr (.inl ⟨e, he, .inr rfl⟩)))
   refine ⟨?_, ?_⟩
   ·rw [Xv lf.2 (by omega) (fun q => ((hfr e.f (mem_fm.2 (.inr (.inr (.inl q))))).1 e he).1 rfl) (fun q => ((hfr e.f (mem_fm.2 (.inr (.inr (.inr q))))).1 e he).1 rfl)]; exact e1
   rw [Xv lw.2 (by omega) (fun q => ((hfr e.w (mem_fm.2 (.inr (.inr (.inl q))))).1 e he).2 rfl) (fun q => ((hfr e.w (mem_fm.2 (.inr (.inr (.inr q))))).1 e he).2 rfl)]; exact e2
  refine ⟨?_, ?_⟩
  ·show (lnG _ _ _ _ _ _ _ _ _ _ _ _)[G.length + (loT l mk).length - 1]? = _
   rw [show G.length + (loT l mk).length - 1 = G.length + ((loT l mk).length - 1) by omega, lnG_T (by omega)]
   exact Zay
  show (lnG _ _ _ _ _ _ _ _ _ _ _ _)[G.length + (loT l mk).length + 3]? = _
  rw [ZcI]; rfl
 ·intro e he
  rcases (hmem e).1 he with he | rfl
  ·exact h.ec e he
  exact ⟨by rw [hNe]; omega, h1, h2⟩
 ·refine nd_new (K := [a0, a1].filterMap ZV) (g := G.length) (n1 := G.length + (loT l mk).length + 1) (n5 := G.length + (loT l mk).length + 5) (f := (leN G l mk).f) (w := (leN G l mk).w) h.nd ?_ (fun b hb => (h.lo b hb).2) ⟨by show _ ≤ G.length + _ - 1; omega, by show G.length + _ - 1 < _; omega, by show _ < G.length + _ + 3; omega, by show G.length + _ + 3 < _; omega⟩ ?_ ?_ ?_
  ·exact List.Sublist.filterMap ZV (List.sublist_append_left [a0, a1] [a2, a3])
  ·rw [show [a0, a1, VVal.slice (some (G.length + (loT l mk).length + 1, 0)) (rs.length + 1) (rs.length + 1) false 1, .slice (some (G.length + (loT l mk).length + 5, 0)) (rs.length + 1) (rs.length + 1) false 1] = [a0, a1] ++ [.slice (some (G.length + (loT l mk).length + 1, 0)) (rs.length + 1) (rs.length + 1) false 1, .slice (some (G.length + (loT l mk).length + 5, 0)) (rs.length + 1) (rs.length + 1) false 1] from rfl, List.filterMap_append]
   exact List.perm_append_comm
  ·have : (es ++ (rs ++ [leN G l mk])).Perm (leN G l mk :: (es ++ rs)) := by rw [← List.append_assoc]; exact List.perm_append_comm
   exact this.map LE.f
  have : (es ++ (rs ++ [leN G l mk])).Perm (leN G l mk :: (es ++ rs)) := by rw [← List.append_assoc]; exact List.perm_append_comm
  exact this.map LE.w
 intro b hb
 rw [JB]
 rcases mem_nms.1 hb with (q | q | q | q) | ⟨e, he, q⟩ | q
 ·have := i0 b q; omega
 ·have := i1 b q; omega
 ·have e2 : G.length + (loT l mk).length + 1 = b := Option.some.inj q
  omega
 ·have e2 : G.length + (loT l mk).length + 5 = b := Option.some.inj q
  omega
 ·rcases (hmem e).1 he with he | rfl
  ·have := h.lo b (mem_nms.2 (.inr (.inl ⟨e, he, q⟩))); omega
  rcases q with q | q
  ·have e2 : G.length + (loT l mk).length - 1 = b := q
   omega
  have e2 : G.length + (loT l mk).length + 3 = b := q
  omega
 have := h.lo b (mem_nms.2 (.inr (.inr q))); omega
end
open Go Go.RowKit
def Wr (H G : Ze) (fs : List Nat) : Prop := G.length = H.length ∧ ∀ b, b ∉ fs → G[b]? = H[b]?
theorem Wr.refl (H : Ze) (fs : List Nat) : Wr H H fs := ⟨rfl, fun _ _ => rfl⟩
theorem Wr.set {H G : Ze} {fs gs : List Nat} {b : Nat} {k : VBlk} (h : Wr H G fs) (hg : ∀ x, x ∈ fs → x ∈ gs) (hb : b ∈ gs) : Wr H (G.set b k) gs :=
 ⟨by rw [List.length_set]; exact h.1, fun x hx => by rw [List.getElem?_set_ne (by rintro rfl; exact hx hb)]; exact h.2 x fun q => hx (hg x q)⟩
theorem Wr.mono {H G : Ze} {fs gs : List Nat} (h : Wr H G fs) (hg : ∀ x, x ∈ fs → x ∈ gs) : Wr H G gs := ⟨h.1, fun x hx => h.2 x fun q => hx (hg x q)⟩
theorem LV0.pos {es n : Nat} {X : Ze} {v : VVal} {cs : List VVal} (l : LV 0 es X v cs n) (h : 0 < n) : ∃ b, v = .slice (some (b, 0)) n n false es ∧ X[b]? = some (.cells cs true) := by
 rcases l.2 with ⟨h0, _⟩ | ⟨_, b, rfl, hb⟩
 ·omega
 exact ⟨b, by rw [Nat.zero_add], hb⟩
section
variable {H G : Ze} {c base : Nat} {a0 a1 a2 a3 : VVal} {es rs : List LE} {xs fs : List Nat}
theorem LoanO.fnot (h : LoanO H c base a0 a1 a2 a3 es rs xs) (hf : ∀ b, b ∈ fs → ∃ e, e ∈ es ++ rs ∧ e.f = b) : c ∉ fs ∧ (∀ b, b ∈ [a0, a1, a2, a3].filterMap ZV → b ∉ fs) ∧ (∀ e, e ∈ es ++ rs → e.w ∉ fs) := by
 refine ⟨fun q => ?_, fun b hb q => ?_, fun e he q => ?_⟩
 ·obtain ⟨e, he, q⟩ := hf c q
  have := h.lo e.f (mem_nms.2 (.inr (.inl ⟨e, he, .inl rfl⟩)))
  have := h.cl
  omega
 ·obtain ⟨e, he, q⟩ := hf b q
  exact ((h.nlist.2 b hb).1 e he).1 q
 obtain ⟨e', he', q⟩ := hf e.w q
 have h1 := h.nd
 unfold nms at h1
 rw [List.nodup_append] at h1
 have h2 := h1.2.1
 rw [List.nodup_append] at h2
 exact h2.2.2 e'.f (List.mem_map.2 ⟨e', he', rfl⟩) e.w (List.mem_append_left _ (List.mem_map.2 ⟨e, he, rfl⟩)) q
theorem LoanO.rest (h : LoanO H c base a0 a1 a2 a3 es rs xs) (hw : Wr H G fs) (hf : ∀ b, b ∈ fs → ∃ e, e ∈ es ++ rs ∧ e.f = b) : G[c]? = some (.cells [a0, a1, a2, a3] true) ∧ LV 0 1 G a0 (es.map LE.fv) es.length ∧ LV 0 1 G a1 (es.map LE.wv) es.length ∧ LV 0 1 G a2 (rs.map LE.fv) rs.length ∧ LV 0 1 G a3 (rs.map LE.wv) rs.length ∧
  (∀ e, e ∈ es ++ rs → G[e.w]? = some (.cells e.cs true)) ∧ (∀ e, e ∈ es ++ rs → e.f ∉ fs → G[e.f]? = some (.cells e.cs true)) := by
 obtain ⟨f1, f2, f3⟩ := h.fnot hf
 refine ⟨(hw.2 c f1).trans h.blk, h.lf.frame fun b hb => hw.2 b (f2 b (mem_fm.2 (.inl XH29))), h.lw.frame fun b hb => hw.2 b (f2 b (mem_fm.2 (.inr (.inl XH29)))),
  h.lr.frame fun b hb => hw.2 b (f2 b (mem_fm.2 (.inr (.inr (.inl XH29))))), h.ls.frame fun b hb => hw.2 b (f2 b (mem_fm.2 (.inr (.inr (.inr XH29))))), fun e he => (hw.2 e.w (f3 e he)).trans (h.ef e he).2, fun e he hn => (hw.2 e.f hn).trans (h.ef e he).1⟩
def e0 : LE := ⟨0, 0, []⟩
def fsI (es : List LE) (i : Nat) : List Nat := (es.take i).map LE.f
def fsR (es rs : List LE) (i : Nat) : List Nat := es.map LE.f ++ (rs.take i).map LE.f
theorem Za5 {l : List LE} {i : Nat} (h : i < l.length) : l.take (i + 1) = l.take i ++ [l.getD i e0] := by
 rw [List.take_add_one, List.getElem?_eq_getElem h, Option.toList_some, List.getD_eq_getElem?_getD, List.getElem?_eq_getElem h]; rfl
theorem fsI_in {i : Nat} : ∀ b, b ∈ fsI es i → ∃ e, e ∈ es ++ rs ∧ e.f = b := fun b hb => by
 obtain ⟨e, he, q⟩ := List.mem_map.1 hb
 exact ⟨e, List.mem_append_left _ (List.mem_of_mem_take he), q⟩
theorem fsR_in {i : Nat} : ∀ b, b ∈ fsR es rs i → ∃ e, e ∈ es ++ rs ∧ e.f = b := fun b hb => by
 rcases List.mem_append.1 hb with hb | hb
 ·obtain ⟨e, he, q⟩ := List.mem_map.1 hb
  exact ⟨e, List.mem_append_left _ he, q⟩
 obtain ⟨e, he, q⟩ := List.mem_map.1 hb
 exact ⟨e, List.mem_append_right _ (List.mem_of_mem_take he), q⟩
theorem LoanO.fnd (h : LoanO H c base a0 a1 a2 a3 es rs xs) : (es.map LE.f ++ rs.map LE.f).Nodup := by
 have h1 := h.nd
 unfold nms at h1
 rw [List.nodup_append] at h1
 have h2 := h1.2.1
 rw [List.nodup_append, List.map_append] at h2
 exact h2.1
theorem ZbV {l : List Nat} {i : Nat} (h : l.Nodup) {x : Nat} (hx : l[i]? = some x) : x ∉ l.take i := by
 intro q
 obtain ⟨j, hj⟩ := List.getElem?_of_mem q
 have hji : j < i := by
  have := (List.getElem?_eq_some_iff.1 hj).1
  rw [List.length_take] at this; omega
 rw [List.getElem?_take, if_pos hji] at hj
 have := (List.getElem?_eq_some_iff.1 hj).1
 have e := (List.getElem?_inj this h).1 (hj.trans hx.symm)
 omega
theorem Jg {l : List LE} {i : Nat} (h : i < l.length) : l[i]? = some (l.getD i e0) := by rw [List.getD_eq_getElem?_getD, List.getElem?_eq_getElem h]; rfl
theorem getD_in {l : List LE} {i : Nat} (h : i < l.length) : l.getD i e0 ∈ l := List.mem_of_getElem? (Jg h)
theorem LoanO.newI (h : LoanO H c base a0 a1 a2 a3 es rs xs) {i : Nat} (hi : i < es.length) : (es.getD i e0).f ∉ fsI es i := by
 have h1 := (List.nodup_append.1 h.fnd).1
 have := ZbV (i := i) (x := (es.getD i e0).f) h1 (by rw [List.getElem?_map, Jg hi]; rfl)
 rwa [← List.map_take] at this
theorem LoanO.newR (h : LoanO H c base a0 a1 a2 a3 es rs xs) {i : Nat} (hi : i < rs.length) : (rs.getD i e0).f ∉ fsR es rs i := by
 have h1 := List.nodup_append.1 h.fnd
 intro q
 rcases List.mem_append.1 q with q | q
 ·exact h1.2.2 _ q _ (List.mem_map.2 ⟨_, getD_in hi, rfl⟩) rfl
 have := ZbV (i := i) (x := (rs.getD i e0).f) h1.2.1 (by rw [List.getElem?_map, Jg hi]; rfl)
 rw [← List.map_take] at this
 exact this q
theorem fsI_s {i : Nat} (hi : i < es.length) : (∀ b, b ∈ fsI es i → b ∈ fsI es (i + 1)) ∧ (es.getD i e0).f ∈ fsI es (i + 1) := by
 unfold fsI
 rw [Za5 hi, List.map_append]
 exact ⟨fun b hb => List.mem_append_left _ hb, List.mem_append_right _ (by simp)⟩
theorem fsR_s {i : Nat} (hi : i < rs.length) : (∀ b, b ∈ fsR es rs i → b ∈ fsR es rs (i + 1)) ∧ (rs.getD i e0).f ∈ fsR es rs (i + 1) := by
 unfold fsR
 rw [Za5 hi, List.map_append]
 refine ⟨fun b hb => ?_, List.mem_append_right _ (List.mem_append_right _ (by simp))⟩
 rcases List.mem_append.1 hb with hb | hb
 ·exact List.mem_append_left _ hb
 exact List.mem_append_right _ (List.mem_append_left _ hb)
theorem fsI_all {i : Nat} (h : es.length ≤ i) : fsI es i = fsR es rs 0 := by
 unfold fsI fsR
 rw [List.take_of_length_le h]; simp
theorem fsR_all {i : Nat} (h : rs.length ≤ i) : fsR es rs i = es.map LE.f ++ rs.map LE.f := by
 unfold fsR
 rw [List.take_of_length_le h]
theorem fv_at {i : Nat} (h : i < es.length) : (es.map LE.fv)[i]? = some (es.getD i e0).fv := by rw [List.getElem?_map, Jg h]; rfl
theorem wv_at {i : Nat} (h : i < es.length) : (es.map LE.wv)[i]? = some (es.getD i e0).wv := by rw [List.getElem?_map, Jg h]; rfl
theorem fv_at9 {i : Nat} (h : i < es.length) : (es.map LE.fv)[0 + i * 1]? = some (es.getD i e0).fv := by rw [Nat.zero_add, Nat.mul_one]; exact fv_at h
theorem wv_at9 {i : Nat} (h : i < es.length) : (es.map LE.wv)[0 + i * 1]? = some (es.getD i e0).wv := by rw [Nat.zero_add, Nat.mul_one]; exact wv_at h
end
theorem fgetZ {α : Type} {f : α → VVal} {l : List α} {k : Nat} (d : α) (h : k < l.length) : (l.map f)[0 + k * 1]? = some (f (l.getD k d)) := by
 rw [Nat.zero_add, Nat.mul_one, List.getElem?_map, List.getD_eq_getElem?_getD, List.getElem?_eq_getElem h]; rfl
theorem Q2 {cs : List VVal} {k : Nat} {v : VVal} (h : k < cs.length) : (Zx cs (0 + k * 1) [v]).length = cs.length := by
 unfold Zx; simp; omega
open Go Go.RowKit
def killB (H : Ze) (bs : List Nat) : Ze := bs.foldl (fun G b => G.set b .dead) H
inductive FzL (H : Ze) : List VVal → List VVal → List Nat → Prop
 | nil : FzL H [] [] []
 | same {v : VVal} {vs vs1 : List VVal} {bs : List Nat} : FzL H vs vs1 bs → FzL H (v :: vs) (v :: vs1) bs
 | fz {b off len cap es : Nat} {ex : Bool} {cs l vs vs1 : List VVal} {bs : List Nat} : H[b]? = some (.cells cs true) → Zo cs off (len * es) = some l → len ≤ cap → FzL H vs vs1 bs → FzL H (.slice (some (b, off)) len cap ex es :: vs) (.fsl l len es false :: vs1) (b :: bs)
theorem FzL.set {H : Ze} {b : Nat} {k : VBlk} {vs vs1 : List VVal} {bs : List Nat} (h : FzL H vs vs1 bs) (hb : b ∉ bs) : FzL (H.set b k) vs vs1 bs := by
 induction h with
 | nil => exact .nil
 | same _ ih => exact .same (ih hb)
 | fz h1 h2 h3 _ ih =>
  rw [List.mem_cons, not_or] at hb
  exact .fz (by rw [List.getElem?_set_ne hb.1]; exact h1) h2 h3 (ih hb.2)
theorem FzL.frzn {S : Sys} : ∀ {vs vs1 : List VVal} {bs : List Nat} {H : Ze}, FzL H vs vs1 bs → bs.Nodup → Frzn S vs H vs1 (killB H bs) bs
 | [], _, _, H, h, _ => by cases h; exact Frzn.refl _ _
 | v :: vs, _, _, H, h, nd => by
  cases h with
  | same h =>
   have := (FzL.frzn h nd).frame (S := S) [v] []
   simpa using this
  | @fz b off len cap es ex cs l _ vs1 bs h1 h2 h3 h =>
   rw [List.nodup_cons] at nd
   have a := (Frzn.slice (S := S) (ex := ex) h1 h2 h3).frame [] vs
   have b2 := (FzL.frzn (S := S) (h.set (k := .dead) nd.1) nd.2).frame [.fsl l len es false] []
   have := Frzn.trans a (by simpa using b2)
   show Frzn S _ H _ (killB (H.set b .dead) bs) (b :: bs)
   simpa using this
theorem FzL.cells {H : Ze} {vs vs1 : List VVal} {bs : List Nat} (h : FzL H vs vs1 bs) : ∀ b, b ∈ bs → ∃ cs, H[b]? = some (.cells cs true) := by
 induction h with
 | nil => intro b hb; cases hb
 | same _ ih => exact ih
 | fz h1 _ _ _ ih =>
  intro b hb
  rcases List.mem_cons.1 hb with rfl | hb
  ·exact ⟨_, h1⟩
  exact ih b hb
section
variable {G : Ze} {c base : Nat} {a0 a1 a2 a3 : VVal} {es rs : List LE} {xs : List Nat}
theorem nms_x {b : Nat} (h : b ∈ nms es rs a0 a1 a2 a3 []) : b ∈ nms es rs a0 a1 a2 a3 xs := by
 rcases mem_nms.1 h with q | q | q
 ·exact mem_nms.2 (.inl q)
 ·exact mem_nms.2 (.inr (.inl q))
 cases q
theorem LoanO.frame (h : LoanO G c base a0 a1 a2 a3 es rs xs) {G' : Ze} {xs' : List Nat} (hl : G.length ≤ G'.length) (hc : G'[c]? = G[c]?) (hf : ∀ b, b ∈ nms es rs a0 a1 a2 a3 [] → G'[b]? = G[b]?)
  (hx : (nms es rs a0 a1 a2 a3 xs').Nodup) (hx2 : ∀ b, b ∈ xs' → base ≤ b ∧ b < G'.length) : LoanO G' c base a0 a1 a2 a3 es rs xs' := by
 have i : ∀ b, (ZV a0 = some b ∨ ZV a1 = some b ∨ ZV a2 = some b ∨ ZV a3 = some b) → G'[b]? = G[b]? := fun b q => hf b (mem_nms.2 (.inl q))
 refine ⟨hc.trans h.blk, h.lf.frame fun b hb => i b (.inl XH29), h.lw.frame fun b hb => i b (.inr (.inl XH29)), h.lr.frame fun b hb => i b (.inr (.inr (.inl XH29))), h.ls.frame fun b hb => i b (.inr (.inr (.inr XH29))),
  fun e he => ⟨(hf e.f (mem_nms.2 (.inr (.inl ⟨e, he, .inl rfl⟩)))).trans (h.ef e he).1, (hf e.w (mem_nms.2 (.inr (.inl ⟨e, he, .inr rfl⟩)))).trans (h.ef e he).2⟩, h.ec, hx, fun b hb => ?_, h.cl, Nat.le_trans h.bl hl⟩
 rcases mem_nms.1 hb with q | q | q
 ·have := h.lo b (mem_nms.2 (.inl q)); exact ⟨this.1, by omega⟩
 ·have := h.lo b (mem_nms.2 (.inr (.inl q))); exact ⟨this.1, by omega⟩
 exact hx2 b q
theorem LoanO.app (h : LoanO G c base a0 a1 a2 a3 es rs xs) (Y : Ze) : LoanO (G ++ Y) c base a0 a1 a2 a3 es rs xs := by
 have hlt : ∀ b, b < G.length → (G ++ Y)[b]? = G[b]? := fun b hb => List.getElem?_append_left hb
 refine h.frame (by simp) (hlt c (ZG h.blk)) (fun b hb => hlt b (h.lo b (nms_x hb)).2) h.nd fun b hb => ?_
 have := h.lo b (mem_nms.2 (.inr (.inr hb)))
 exact ⟨this.1, by rw [List.length_append]; omega⟩
theorem LoanO.fresh (h : LoanO G c base a0 a1 a2 a3 es rs xs) {G' : Ze} {n : Nat} (hn : G.length ≤ n ∧ n < G'.length) (hc : G'[c]? = G[c]?) (hf : ∀ b, b < G.length → b ≠ c → base ≤ b → b ∉ xs → G'[b]? = G[b]?) : LoanO G' c base a0 a1 a2 a3 es rs [n] := by
 have hbl := h.bl
 have hn0 : ∀ b, b ∈ nms es rs a0 a1 a2 a3 [] → b ∉ xs := fun b hb q => by
  have h1 := h.nd
  rcases mem_nms.1 hb with w | ⟨e, he, w⟩ | w
  ·exact (h.nlist.2 b (mem_fm.2 w)).2 q
  ·unfold nms at h1
   rw [List.nodup_append] at h1
   have h2 := h1.2.1
   rw [← List.append_assoc, List.nodup_append] at h2
   rcases w with w | w
   ·exact h2.2.2 b (List.mem_append_left _ (List.mem_map.2 ⟨e, he, w⟩)) b q rfl
   exact h2.2.2 b (List.mem_append_right _ (List.mem_map.2 ⟨e, he, w⟩)) b q rfl
  cases w
 refine h.frame (by omega) hc (fun b hb => ?_) ?_ fun b hb => ?_
 ·have := h.lo b (nms_x hb)
  have := h.cl
  exact hf b (by omega) (by omega) (by omega) (hn0 b hb)
 ·have h1 : (nms es rs a0 a1 a2 a3 []).Nodup := by
   have hs : (nms es rs a0 a1 a2 a3 []).Sublist (nms es rs a0 a1 a2 a3 xs) := by
    unfold nms
    exact (List.Sublist.refl _).append ((List.Sublist.refl _).append ((List.Sublist.refl _).append (List.nil_sublist xs)))
   exact hs.nodup h.nd
  have e : nms es rs a0 a1 a2 a3 [n] = nms es rs a0 a1 a2 a3 [] ++ [n] := by unfold nms; simp
  rw [e, List.nodup_append]
  refine ⟨h1, by simp, fun a ha b hb q => ?_⟩
  rw [List.mem_singleton] at hb
  have := h.lo a (nms_x ha)
  omega
 rw [List.mem_singleton] at hb
 omega
end
open Go Go.RowKit
theorem kl_mem {H : Ze} {v : VVal} {k : VBlk} (h : k ∈ kl H v) : k ∈ H ∨ k = .dead := by
 unfold kl at h; split at h
 ·exact List.mem_or_eq_of_mem_set h
 exact .inl h
def Nz (G : Ze) : Prop := ∀ (b : Nat) (k : VBlk), G[b]? = some k → k.nofz = true
theorem Nz.of {G : Ze} (h : ∀ k, k ∈ G → k.nofz = true) : Nz G := fun b k hb => h k (List.mem_of_getElem? hb)
theorem Nz.mem {G : Ze} (h : Nz G) : ∀ k, k ∈ G → k.nofz = true := fun k hk => by
 obtain ⟨b, hb⟩ := List.getElem?_of_mem hk
 exact h b k hb
theorem Nz.app {G Y : Ze} (h : Nz G) (hy : ∀ k, k ∈ Y → k.nofz = true) : Nz (G ++ Y) := .of fun k hk => by
 rcases List.mem_append.1 hk with hk | hk
 ·exact h.mem k hk
 exact hy k hk
theorem Nz.set {G : Ze} {b : Nat} {k : VBlk} (h : Nz G) (hk : k.nofz = true) : Nz (G.set b k) := .of fun k' hk' => by
 rcases List.mem_or_eq_of_mem_set hk' with q | rfl
 ·exact h.mem _ q
 exact hk
theorem Nz.kl {G : Ze} {v : VVal} (h : Nz G) : Nz (kl G v) := .of fun k hk => by
 rcases kl_mem hk with q | rfl
 ·exact h.mem _ q
 rfl
theorem LV.nofz {h es : Nat} {X : Ze} {v : VVal} {cs : List VVal} {n : Nat} (l : LV h es X v cs n) : v.nofz = true := by
 rcases l.2 with ⟨_, rfl⟩ | ⟨_, b, rfl, _⟩ <;> rfl
theorem lnG_Nz {G T : Ze} {c i n N : Nat} {S0 cs : List VVal} {vF vW : VVal} {csF csW : List VVal} (hG : Nz G) (hS : VVal.nofzL S0 = true) (hT : ∀ k, k ∈ T → k.nofz = true) (h1 : VVal.nofzL csF = true) (h2 : VVal.nofzL csW = true) (h3 : VVal.nofzL cs = true) : Nz (lnG G T c i n N S0 cs vF vW csF csW) := by
 intro b k hb
 by_cases hj : G.length ≤ b
 ·exact lnG_nofz hT h1 h2 h3 hj hb
 rw [Zbl, List.getElem?_append_left (by rw [Qd]; omega)] at hb
 have hs : ∀ {l : List VVal} {i : Nat} {v : VVal}, VVal.nofzL l = true → v.nofz = true → VVal.nofzL (l.set i v) = true := fun hl hv => VVal.nofzL_all fun u hu => by
  rcases List.mem_or_eq_of_mem_set hu with q | rfl
  ·exact VVal.nofzL_mem hl u q
  exact hv
 have hz : Nz (lnH G T c i n S0 vF) := Nz.set hG.kl (hs hS rfl)
 exact (Nz.set hz.kl (show VBlk.nofz (.cells _ true) = true from hs (hs hS rfl) rfl)) b k hb
theorem Zdf {a0 a1 a2 a3 : VVal} (h0 : a0.nofz = true) (h1 : a1.nofz = true) (h2 : a2.nofz = true) (h3 : a3.nofz = true) : VVal.nofzL [a0, a1, a2, a3] = true := by simp [VVal.nofzL, h0, h1, h2, h3]
theorem four_one {a0 a1 a2 a3 : VVal} (h0 : a0.one = true) (h1 : a1.one = true) (h2 : a2.one = true) (h3 : a3.one = true) : [a0, a1, a2, a3].all VVal.one = true := by simp [h0, h1, h2, h3]
theorem iI_nofz {l : List Int} : VVal.nofzL (l.map iI ++ mkI) = true := VVal.nofzL_app (VVal.nofzL_map fun _ => rfl) rfl
theorem iW_nofz {l : List (BitVec 64)} : VVal.nofzL (l.map iW ++ mkW) = true := VVal.nofzL_app (VVal.nofzL_map fun _ => rfl) rfl
section
variable {S : Sys} {f : FuncId} {args args1 : List VVal} {G H1 : Ze} {bs : List Nat}
theorem Jn (z : Frzn S args G args1 H1 bs) (hbs : ∀ b, b ∈ bs → ∃ cs, G[b]? = some (.cells cs true)) (nz : Nz G) {v : VVal} (hv : v.nofz = true) (h : F S f args1 H1 fun v' G' => v' = v ∧ G' = H1) : F S f args G fun v' G' => v' = v ∧ G' = G := by
 refine F_lend z (fun b k hb _ => nz b k hb) hbs h ?_
 rintro v' G' ⟨rfl, rfl⟩
 refine ⟨hv, by rw [z.1]; exact Nat.le_refl _, z.2.1, rfl, ?_⟩
 rw [List.drop_eq_nil_of_le (by rw [z.1]; exact Nat.le_refl _)]; simp
end
set_option autoImplicit true
open Go
set_option autoImplicit false
open Go Go.RowKit
def RD (H : Ze) (v : VVal) (l : List Int) : Prop := v = fzI l ∨ (l = [] ∧ v = .slice none 0 0 true 0) ∨ ∃ b cap cs, v = .slice (some (b, 0)) l.length cap false 1 ∧ H[b]? = some (.cells cs true) ∧ l.length ≤ cs.length ∧ cs.take l.length = l.map iI
theorem RD.fz (H : Ze) (l : List Int) : RD H (fzI l) l := .inl rfl
theorem RD.nil (H : Ze) : RD H (.slice none 0 0 true 0) [] := .inr (.inl ⟨rfl, rfl⟩)
theorem RD.app {H : Ze} {v : VVal} {l : List Int} (r : RD H v l) (L : Ze) : RD (H ++ L) v l := by
 rcases r with h | h | ⟨b, cap, cs, h1, h2, h3⟩
 ·exact .inl h
 ·exact .inr (.inl h)
 exact .inr (.inr ⟨b, cap, cs, h1, Zn h2, h3⟩)
section
variable {T : TypeId → Option VTy} {ρ : Operand → VVal} {H : Ze} {op : Op}
theorem LdOk.app {H L : Ze} {p v : VVal} (h : LdOk H p v) : LdOk (H ++ L) p v := by
 rcases h with h | ⟨b, off, cs, rw, h1, h2, h3⟩
 ·exact .inl h
 exact .inr ⟨b, off, cs, rw, h1, Zn h2, h3⟩
end
open Go Go.RowKit
theorem RV.frame {h : Nat} {X X' : Ze} {v : VVal} {rc : List VVal} (r : RV h X v rc) (hf : ∀ i, ZV v = some (h + i) → X'[i]? = X[i]?) : RV h X' v rc := by
 rcases r with h1 | ⟨b, cap, cs, rfl, h2, h3⟩
 ·exact .inl h1
 exact .inr ⟨b, cap, cs, rfl, by rw [hf b rfl]; exact h2, h3⟩
theorem RV.lt {h : Nat} {X : Ze} {v : VVal} {rc : List VVal} (r : RV h X v rc) : ∀ n, ZV v = some n → n < h + X.length := fun n hn => by
 rcases r with ⟨_, rfl⟩ | ⟨b, cap, cs, rfl, h2, h3⟩
 ·cases hn
 simp only [ZV, Option.some.injEq] at hn
 have := (List.getElem?_eq_some_iff.1 h2).1; omega
def RvF (h : Nat) (Y Y' : Ze) (v w : VVal) : Prop := Y.length ≤ Y'.length ∧ (∀ i, i < Y.length → ZV v ≠ some (h + i) → Y'[i]? = Y[i]?) ∧ (ZV w = ZV v ∨ ∃ j, Y.length ≤ j ∧ ZV w = some (h + j))
theorem RvF.keep {h es len : Nat} {Y Y' : Ze} {v w lv : VVal} {cs : List VVal} (f : RvF h Y Y' v w) (l : LV h es Y lv cs len) (d : Dj lv v) : LV h es Y' lv cs len ∧ Dj lv w := by
 refine ⟨LV.frame l fun i hi => f.2.1 i ?_ (d _ hi), fun n hn => ?_⟩
 ·have := l.lt _ hi; omega
 rcases f.2.2 with h1 | ⟨j, h1, h2⟩
 ·rw [h1]; exact d n hn
 rw [h2]; have := l.lt n hn
 simp only [ne_eq, Option.some.injEq]; omega
theorem RV.far {h m n c e2 : Nat} {o : Nat} {ex : Bool} {Y : Ze} {v : VVal} {rc : List VVal} (r : RV h Y v rc) (hm : Y.length ≤ m) : Dj (.slice (some (h + m, o)) n c ex e2) v := fun k hk e => by
 have := r.lt k e
 simp only [ZV, Option.some.injEq] at hk; omega
section
variable {T : TypeId → Option VTy} {ρ : Operand → VVal} {H : Ze} {op : Op}
end
section
variable {T : TypeId → Option VTy} {ρ : Operand → VVal} {H : Ze} {op : Op}
end
section
variable {S : Sys} {H0 : Ze}
end
open Go Go.RowKit
theorem vres_cells3 {T : TypeId → Option VTy} {rs : Array ResultVar} {env : VEnv} {H : Ze} {a1 a2 a3 : Nat} {t1 t2 t3 : TypeId} {y1 y2 y3 : VTy} {b1 o1 b2 o2 b3 o3 : Nat} {cs1 cs2 cs3 : List VVal} {w1 w2 w3 : Bool} {v1 v2 v3 : VVal} (hr : rs = #[.cell a1 t1, .cell a2 t2, .cell a3 t3])
  (h1 : env.getD a1 .skip = .ptr (some (b1, o1))) (h2 : env.getD a2 .skip = .ptr (some (b2, o2))) (h3 : env.getD a3 .skip = .ptr (some (b3, o3)))
  (hy1 : T t1 = some y1) (hd1 : Zk y1.desc = false) (hy2 : T t2 = some y2) (hd2 : Zk y2.desc = false) (hy3 : T t3 = some y3) (hd3 : Zk y3.desc = false) (hb1 : H[b1]? = some (.cells cs1 w1)) (hv1 : cs1[o1]? = some v1) (hb2 : H[b2]? = some (.cells cs2 w2)) (hv2 : cs2[o2]? = some v2) (hb3 : H[b3]? = some (.cells cs3 w3)) (hv3 : cs3[o3]? = some v3) :
  ZX T env H rs = some (.tuple [v1, v2, v3]) := by
 subst hr
 have e1 : Y0 T env H (.cell a1 t1) = some v1 := by
  show Y4 T H t1 (env.getD a1 .skip) = some v1
  rw [h1]; simp only [Y4, hy1, QS, hb1, hd1, Bool.false_eq_true, if_false, hv1]
 have e2 : Y0 T env H (.cell a2 t2) = some v2 := by
  show Y4 T H t2 (env.getD a2 .skip) = some v2
  rw [h2]; simp only [Y4, hy2, QS, hb2, hd2, Bool.false_eq_true, if_false, hv2]
 have e3 : Y0 T env H (.cell a3 t3) = some v3 := by
  show Y4 T H t3 (env.getD a3 .skip) = some v3
  rw [h3]; simp only [Y4, hy3, QS, hb3, hd3, Bool.false_eq_true, if_false, hv3]
 show (List.mapM (Y0 T env H) [.cell a1 t1, .cell a2 t2, .cell a3 t3]).map VVal.tuple = _
 simp [List.mapM_cons, e1, e2, e3]
open Go Go.RowKit
section
variable {T : TypeId → Option VTy} {ρ : Operand → VVal} {H : Ze} {op : Op}
end
end Go.V
