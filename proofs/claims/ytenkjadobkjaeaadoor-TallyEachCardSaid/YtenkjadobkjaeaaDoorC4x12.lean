/- Proved: Rows.TallyEachCardSaid, the statement TallyEach with its card, of the given program at the commit; no conditions beyond those in the statement. -/
import Derived.Test.YtenkjadobkjaeaaDoorC4x11
set_option autoImplicit true
set_option linter.unusedSimpArgs false
set_option linter.unusedVariables false
namespace Go.V
open Go
variable {ws : List (BitVec 64)} {rs : List Rul}
def liK (ws : List (BitVec 64)) (a : List Nat) (l : List (BitVec 64)) (b k : Nat) : List (BitVec 64) := (List.range l.length).map fun i => if a.getD i 0 < b ∨ (a.getD i 0 = b ∧ i < k) then l.getD i 0 ||| frW (ZV ws a a.length) (a.getD i 0) else l.getD i 0
theorem YB : (liK ws a l b k).length = l.length := by unfold liK; simp
theorem liK_get {i : Nat} (h : i < l.length) : (liK ws a l b k).getD i 0 = if a.getD i 0 < b ∨ (a.getD i 0 = b ∧ i < k) then l.getD i 0 ||| frW (ZV ws a a.length) (a.getD i 0) else l.getD i 0 := by
  unfold liK; simp [List.getD_eq_getElem?_getD, h]
theorem list_ext_D {l m : List (BitVec 64)} (h : l.length = m.length) (he : ∀ i, i < l.length → l.getD i 0 = m.getD i 0) : l = m := by
  apply List.ext_getElem h
  intro i h1 h2
  have := he i h1
  simpa [List.getD_eq_getElem?_getD, h1, h2] using this
theorem liK_0 : liK ws a l 0 0 = l := by
  refine list_ext_D YB fun i hi => ?_
  rw [YB] at hi
  rw [liK_get hi, if_neg (by omega)]
theorem liK_next {n : Nat} (hn : n = l.length) : liK ws a l b n = liK ws a l (b + 1) 0 := by
  refine list_ext_D (by rw [YB, YB]) fun i hi => ?_
  rw [YB] at hi
  rw [liK_get hi, liK_get hi]
  by_cases h : a.getD i 0 < b + 1
  · rw [if_pos (by omega), if_pos (.inl h)]
  · rw [if_neg (by omega), if_neg (by omega)]
theorem liK_set {k : Nat} (hk : k < l.length) (h : a.getD k 0 = b) : (liK ws a l b k).set k ((liK ws a l b k).getD k 0 ||| frW (ZV ws a a.length) b) = liK ws a l b (k + 1) := by
  refine list_ext_D (by rw [List.length_set, YB, YB]) fun i hi => ?_
  rw [List.length_set, YB] at hi
  rw [liK_get hi]
  by_cases e : i = k
  · subst e
    rw [show ((liK ws a l b i).set i ((liK ws a l b i).getD i 0 ||| frW (ZV ws a a.length) b)).getD i 0 = (liK ws a l b i).getD i 0 ||| frW (ZV ws a a.length) b by simp [List.getD_eq_getElem?_getD, YB, hi], liK_get hi, if_neg (by omega), if_pos (by omega), h]
  · rw [show ((liK ws a l b k).set k ((liK ws a l b k).getD k 0 ||| frW (ZV ws a a.length) b)).getD i 0 = (liK ws a l b k).getD i 0 by simp [List.getD_eq_getElem?_getD, List.getElem?_set, Ne.symm e], liK_get hi]
    have e3 : (a.getD i 0 < b ∨ a.getD i 0 = b ∧ i < k) ↔ (a.getD i 0 < b ∨ a.getD i 0 = b ∧ i < k + 1) := by omega
    simp only [e3]
theorem liK_same {k : Nat} (h : ¬ a.getD k 0 = b) : liK ws a l b k = liK ws a l b (k + 1) := by
  refine list_ext_D (by rw [YB, YB]) fun i hi => ?_
  rw [YB] at hi
  rw [liK_get hi, liK_get hi]
  have e3 : (a.getD i 0 < b ∨ a.getD i 0 = b ∧ i < k) ↔ (a.getD i 0 < b ∨ a.getD i 0 = b ∧ i < k + 1) := by
    constructor
    · rintro (h1 | h1); exact .inl h1; exact .inr (by omega)
    · rintro (h1 | ⟨h1, h2⟩)
      · exact .inl h1
      · refine .inr ⟨h1, ?_⟩
        have : i ≠ k := fun e => h (e ▸ h1)
        omega
  simp only [e3]
def liU (ws : List (BitVec 64)) (a : List Nat) (l : List (BitVec 64)) : List (BitVec 64) := liK ws a l (szP a a.length) 0
theorem liU_len : (liU ws a l).length = l.length := YB
theorem liU_get {i : Nat} (ha : Pat a) (hl : a.length = l.length) (hi : i < l.length) : (liU ws a l).getD i 0 = l.getD i 0 ||| frW (ZV ws a a.length) (a.getD i 0) := by
  unfold liU
  rw [liK_get hi, if_pos (.inl (Pat.lt ha (Nat.le_refl _) (by omega)))]
def liF (ws : List (BitVec 64)) : List (List Nat) → List (BitVec 64) → List (BitVec 64)
  | [], l => l
  | a :: r, l => if liU ws a l = ws then ws else liF ws r (liU ws a l)
theorem liF_hit (h : liU ws a l = ws) : liF ws (a :: r) l = ws := by rw [liF, if_pos h]
theorem liF_on (h : ¬ liU ws a l = ws) : liF ws (a :: r) l = liF ws r (liU ws a l) := by rw [liF, if_neg h]
theorem liF_len : ∀ {r : List (List Nat)} {l : List (BitVec 64)}, l.length = ws.length → (liF ws r l).length = ws.length
  | [], l, h => h
  | a :: r, l, h => by
    by_cases e : liU ws a l = ws
    · rw [liF_hit e]
    · rw [liF_on e]; exact liF_len (by rw [liU_len]; exact h)
theorem fr_in {ws : List (BitVec 64)} {a : List Nat} {i u : Nat} (ha : Pat a) (hi : i < a.length) (h : (frW (ZV ws a a.length) (a.getD i 0)).getLsbD u = true) : (ws.getD i 0).getLsbD u = true := by
  have h1 := (frW_bit.1 h).1
  exact (blk_bit (k := a.length) (fun j hj => ha j hj) (Pat.lt ha (Nat.le_refl _) hi)).1 h1 i hi rfl
theorem liF_bit {ws : List (BitVec 64)} {i u : Nat} (hi : i < ws.length) : ∀ {r : List (List Nat)} {l : List (BitVec 64)}, l.length = ws.length → (∀ a, a ∈ r → Pat a ∧ a.length = ws.length) → ((l.getD i 0).getLsbD u = true → (ws.getD i 0).getLsbD u = true) → (((liF ws r l).getD i 0).getLsbD u = true ↔ (l.getD i 0).getLsbD u = true ∨ ∃ a, a ∈ r ∧ (frW (ZV ws a a.length) (a.getD i 0)).getLsbD u = true)
  | [], l, hl, hr, hs => ⟨fun h => .inl h, fun h => by
      rcases h with h | ⟨a, ha, _⟩
      · exact h
      · cases ha⟩
  | a :: r, l, hl, hr, hs => by
    obtain ⟨pa, la⟩ := hr a (List.mem_cons_self ..)
    have hg := liU_get (ws := ws) (l := l) pa (by omega) (i := i) (by omega)
    have hgu : ((liU ws a l).getD i 0).getLsbD u = true ↔ (l.getD i 0).getLsbD u = true ∨ (frW (ZV ws a a.length) (a.getD i 0)).getLsbD u = true := by rw [hg, BitVec.getLsbD_or, Bool.or_eq_true]
    by_cases e : liU ws a l = ws
    · rw [liF_hit e]
      rw [e] at hgu
      constructor
      · intro h
        rcases hgu.1 h with h | h
        · exact .inl h
        · exact .inr ⟨a, List.mem_cons_self .., h⟩
      · rintro (h | ⟨c, hc, h⟩)
        · exact hgu.2 (.inl h)
        · obtain ⟨pc, lc⟩ := hr c hc
          exact fr_in pc (by omega) h
    · rw [liF_on e, liF_bit hi (by rw [liU_len]; exact hl) (fun c hc => hr c (List.mem_cons_of_mem _ hc)) (fun h => by
        rcases hgu.1 h with h | h
        · exact hs h
        · exact fr_in pa (by omega) h), hgu]
      constructor
      · rintro ((h | h) | ⟨c, hc, h⟩)
        · exact .inl h
        · exact .inr ⟨a, List.mem_cons_self .., h⟩
        · exact .inr ⟨c, List.mem_cons_of_mem _ hc, h⟩
      · rintro (h | ⟨c, hc, h⟩)
        · exact .inl (.inl h)
        · rcases List.mem_cons.1 hc with rfl | hc
          · exact .inl (.inr h)
          · exact .inr ⟨c, hc, h⟩
theorem frW_mat {l : List (BitVec 64)} {i u : Nat} (hi : i < l.length) : (frW l i).getLsbD u = true ↔ ∃ us, MatU l us ∧ us.getD i 0 = u := by
  constructor
  · intro h
    have hu : u < 64 := BitVec.lt_of_getLsbD h
    obtain ⟨us, h1, h2, h3⟩ := (frW_one hi hu).1 h
    rw [List.length_set] at h1
    have hb := h3 i (by rw [List.length_set]; exact hi)
    rw [show (l.set i (l.getD i 0 &&& 1#64 <<< u)).getD i 0 = l.getD i 0 &&& 1#64 <<< u by simp [List.getD_eq_getElem?_getD, hi], BitVec.getLsbD_and, Bool.and_eq_true] at hb
    have e : us.getD i 0 = u := by
      apply Decidable.byContradiction
      intro e
      rw [(one_bit hu).2 e] at hb
      exact absurd hb.2 (by decide)
    refine ⟨us, ⟨h1, h2, fun j hj => ?_⟩, e⟩
    by_cases ej : j = i
    · subst ej; exact hb.1
    · have := h3 j (by rw [List.length_set]; exact hj)
      rwa [show (l.set i (l.getD i 0 &&& 1#64 <<< u)).getD j 0 = l.getD j 0 by simp [List.getD_eq_getElem?_getD, List.getElem?_set, Ne.symm ej]] at this
  · rintro ⟨us, h, rfl⟩; exact matU_erase h hi
set_option autoImplicit false
open Go Go.RowKit
def inB (l : List Int) (n : Nat) : Bool := l.any fun x => decide (x = (n : Int))
theorem spl_W {l : List (BitVec 64)} {k : Nat} {w : BitVec 64} (h : k < l.length) : Zt (l.map iW) (0 + k * 1) [iW w] = (l.set k w).map iW := by
  rw [show 0 + k * 1 = k by omega]
  unfold Zt
  rw [List.map_set, List.set_eq_take_append_cons_drop, if_pos (by rw [List.length_map]; exact h)]; simp
set_option autoImplicit true
set_option maxHeartbeats 1000000
open Go
def fnd (has : List Int) (u : Nat) : Nat → Nat → Nat
  | 0, k => k
  | n + 1, k => if has.getD k 0 = (u : Int) then k else fnd has u n (k + 1)
abbrev HSt : Type := List Int × BitVec 64
structure Cor (n : Nat) (O has : List Int) : Prop where
  hl : has.length = n
  ol : O.length = 64
  to : ∀ k, k < n → has.getD k 0 = -1 ∨ ∃ u : Nat, u < 64 ∧ has.getD k 0 = (u : Int) ∧ O.getD u 0 = (k : Int) + 1
  fr : ∀ u, u < 64 → O.getD u 0 = 0 ∨ ∃ k : Nat, k < n ∧ O.getD u 0 = (k : Int) + 1 ∧ has.getD k 0 = (u : Int)
structure Cor2 (n i : Nat) (S : BitVec 64) (O has O' has' : List Int) : Prop where
  hl : has'.length = n
  ol : O'.length = 64
  to : ∀ k, k < n → has'.getD k 0 = -1 ∨ ∃ u : Nat, u < 64 ∧ has'.getD k 0 = (u : Int) ∧ O'.getD u 0 = (k : Int) + 1
  fr : ∀ u, u < 64 → O'.getD u 0 = 0 ∨ ∃ k : Nat, k < n ∧ O'.getD u 0 = (k : Int) + 1 ∧ (has'.getD k 0 = (u : Int) ∨ (k = i ∧ has.getD i 0 = (u : Int)))
  nw : ∃ u : Nat, u < 64 ∧ has'.getD i 0 = (u : Int) ∧ S.getLsbD u = false
  un : ∀ u, S.getLsbD u = true → O'.getD u 0 = O.getD u 0
  st : ∀ k, k < n → k ≠ i → (has.getD k 0 = -1 ∨ ∃ u : Nat, has.getD k 0 = (u : Int) ∧ S.getLsbD u = true) → has'.getD k 0 = has.getD k 0
structure Sam (n i : Nat) (O has : List Int) (S : BitVec 64) (p : Bool × GSt) (q : Bool × HSt) : Prop where
  b : p.1 = q.1
  s : p.2.2 = q.2.2
  no : p.1 = false → p.2.1 = O ∧ q.2.1 = has
  yes : p.1 = true → Cor2 n i S O has p.2.1 q.2.1
set_option autoImplicit false
open Go Go.RowKit
section
variable {T : TypeId → Option VTy} {ρ : Operand → VVal} {H : Zd} {op : Op}
end
end Go.V
