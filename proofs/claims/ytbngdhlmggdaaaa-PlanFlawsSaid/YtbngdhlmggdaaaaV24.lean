/- Long regions that draw their order: which pairs must be looked at is told by the kernel, by their places. -/
import Derived.Test.YtbngdhlmggdaaaaV23
set_option autoImplicit false
set_option linter.unusedVariables false
namespace Go.V
open Go Go.RowKit

def okPair : Cls → Cls → Bool
  | .calm, _ | _, .calm | .look, .look | .look, .grow | .grow, .look | .grow, .grow => true
  | _, _ => false
def openPos (bef : Array Nat) (ks : List (Nat × Cls)) : List (Nat × Nat) :=
  (List.range ks.length).flatMap fun p => (List.range ks.length).filterMap fun q =>
    match ks[p]?, ks[q]? with
    | some (i, c), some (j, d) => if p < q && !(bef.getD j 0).testBit i && !okPair c d then some (p, q) else none
    | _, _ => none
def kinds (tk : List (Nat × Tr)) : List (Nat × Cls) := tk.map fun p => (p.1, p.2.kind)

structure FineAt (tk : List (Nat × Tr)) (p q : Nat) (i j : Nat) (a b : Item') : Prop where
  l : tk[p]? = some (i, .it a)
  r : tk[q]? = some (j, .it b)
  f : fine a b
def AllF (tk : List (Nat × Tr)) : List (Nat × Nat) → Prop
  | [] => True
  | (p, q) :: l => (∃ i j a b, FineAt tk p q i j a b) ∧ AllF tk l
theorem AllF.mem {tk : List (Nat × Tr)} {p q : Nat} : ∀ {l : List (Nat × Nat)}, AllF tk l → (p, q) ∈ l → ∃ i j a b, FineAt tk p q i j a b
  | [], _, h => by cases h
  | (p', q') :: l, h, hm => by
    rcases List.mem_cons.1 hm with e | hm
    · cases e; exact h.1
    · exact AllF.mem h.2 hm

theorem match2_get {p : Nat} : ∀ {l : List (Nat × Tr)} {m : List (Nat × Item')}, Match2 l m → ∀ {j : Nat} {b : Item'}, m[p]? = some (j, b) → ∃ y, l[p]? = some (j, y) ∧ y.ok b
  | _, _, .nil, _, _, h => by simp at h
  | x :: l, y :: m, .cons h t, j, b, hm => by
    cases p with
    | zero =>
      simp only [List.getElem?_cons_zero, Option.some.injEq] at hm ⊢
      subst hm
      exact ⟨x.2, Prod.ext h.1 rfl, h.2⟩
    | succ p => simp only [List.getElem?_cons_succ] at hm ⊢; exact match2_get t hm

theorem fineAll_pos {bef : Array Nat} : ∀ {m : List (Nat × Item')}, (∀ (p q i : Nat) (a : Item') (j : Nat) (b : Item'), p < q → m[p]? = some (i, a) → m[q]? = some (j, b) → (bef.getD j 0).testBit i = false → fine a b) → fineAll bef m
  | [], _ => trivial
  | (i, a) :: m, h => by
    refine ⟨fun y hy hb => ?_, fineAll_pos fun p q i' a' j b hpq h1 h2 h3 => h (p + 1) (q + 1) i' a' j b (by omega) (by simpa using h1) (by simpa using h2) h3⟩
    obtain ⟨q, hq⟩ := List.getElem?_of_mem hy
    exact h 0 (q + 1) i a y.1 y.2 (by omega) rfl (by simpa using hq) hb

theorem fine_ok {a b : Item'} (h : okPair (kindOf a) (kindOf b) = true) : fine a b := by
  cases a <;> cases b <;> simp [kindOf, okPair, fine] at h ⊢

theorem gA {l : List (Nat × Tr)} {x y : Nat × Tr} {p : Nat} (h : l[p]? = some y) : (l ++ [x])[p]? = some y := by
  rw [List.getElem?_append_left (List.getElem?_eq_some_iff.1 h).1]; exact h
theorem gL {l : List (Nat × Tr)} {x : Nat × Tr} {p : Nat} (h : l.length = p) : (l ++ [x])[p]? = some x := by
  subst h; simp
theorem O_nilP {S : Sys} {ops : Array Oper} {bef : Array Nat} {env : VEnv} {H : VHeap} {tk : List (Nat × Tr)} {K : VEnv → VHeap → Prop} (ps : List (Nat × Nat)) (hn : openPos bef (kinds tk) = ps) (hp : AllF tk ps) (h : K env H) : WO S ops bef [] env H tk K := by
  refine ⟨fun _ => noCall, fun _ => noCall_ok, fun tr htr => ⟨env, H, tr, rfl, fineAll_pos fun p q i a j b hpq h1 h2 h3 => ?_, h⟩⟩
  obtain ⟨x, e1, o1⟩ := match2_get htr h1
  obtain ⟨y, e2, o2⟩ := match2_get htr h2
  by_cases hok : okPair (kindOf a) (kindOf b) = true
  · exact fine_ok hok
  · have hm : (p, q) ∈ ps := by
      rw [← hn]
      have k1 : (kinds tk)[p]? = some (i, x.kind) := by unfold kinds; rw [List.getElem?_map, e1]; rfl
      have k2 : (kinds tk)[q]? = some (j, y.kind) := by unfold kinds; rw [List.getElem?_map, e2]; rfl
      have l1 := (List.getElem?_eq_some_iff.1 k1).1
      have l2 := (List.getElem?_eq_some_iff.1 k2).1
      refine List.mem_flatMap.2 ⟨p, List.mem_range.2 l1, List.mem_filterMap.2 ⟨q, List.mem_range.2 l2, ?_⟩⟩
      simp only [k1, k2, Tr.kind_ok o1, Tr.kind_ok o2, hpq, decide_true, h3, Bool.not_false, Bool.true_and]
      rw [if_pos (by simpa using hok)]
    obtain ⟨i', j', a', b', f⟩ := AllF.mem hp hm
    have g1 := f.l; have g2 := f.r
    rw [e1] at g1; rw [e2] at g2
    simp only [Option.some.injEq, Prod.mk.injEq] at g1 g2
    obtain ⟨_, rfl⟩ := g1
    obtain ⟨_, rfl⟩ := g2
    have h5 : a = a' := o1
    have h6 : b = b' := o2
    rw [h5, h6]; exact f.f
end Go.V
