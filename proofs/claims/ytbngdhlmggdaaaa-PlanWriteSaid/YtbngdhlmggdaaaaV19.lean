/- Ranges over iterators that tell a list. -/
import Derived.Test.YtbngdhlmggdaaaaV18
import Derived.Test.YtbngdhlmggdaaaaP1
set_option autoImplicit false
set_option linter.unusedVariables false
namespace Go.V
open Go Go.RowKit

section
variable {S : Sys} {H0 H : VHeap} {rd : Option Nat} {env : VEnv} {Q : Post}

/-- what an iterator tells: the values one after the other, till yield says no -/
def Iter (S : Sys) (l : Nat) : List VVal → VHeap → (VHeap → Prop) → Prop
  | [], G, R => R G
  | x :: xs, G, R => Fv S (.yield l) [x] G fun v G' => ∃ b, v = .bool b ∧ if b = true then Iter S l xs G' R else R G'

/-- a range over what tells the list xs: k is the loop's record, s the rest of the heap -/
theorem B_rangeL {f1 : FuncId} {caps : List VVal} {g : Operand} {ps : Array Nat} {as body : Code} (xs : List VVal) (hrd : ∀ l0, rd = some l0 → ∃ st p fn tmps ps as body, H[l0]? = some (.loop st p fn tmps ps as body)) (hg : env.eval g = .func f1 [] caps)
    (hAll : ∀ (l : Nat) (G : VHeap) (R : VHeap → Prop), Iter S l xs G R → F S f1 ([.yield l] ++ caps) G fun v G' => R G')
    {σ : Type} (hp : VBlk → σ → VHeap) (s0 : σ) (h0 : ∀ k, H ++ [k] = hp k s0) (hget : ∀ k s, (hp k s)[H.length]? = some k) (hset : ∀ k k' s, (hp k s).set H.length k' = hp k' s)
    (inv : List VVal → σ → Prop) (hi : inv [] s0) (X : Code → List VVal → VVal → σ → Prop) (hps : ps.toList.length = 1)
    (round : ∀ pre c post s, xs = pre ++ c :: post → inv pre s → ∀ (kr kb : VBlk), kr = .loop .ready none 0 env ps.toList as body → kb = .loop .busy none 0 env ps.toList as body →
      B S (hp kr s) (some H.length) as (setParams env ps.toList [c]) (hp kr s) (fun ex env1 H1 => ex = .normal ∧ ∃ s1, H1 = hp kr s1 ∧ B S (hp kr s) (some H.length) body env1 (hp kb s1)
        (fun ex2 _ H2 => ∃ s2, H2 = hp kb s2 ∧ ((ex2 = .normal ∧ inv (pre ++ [c]) s2) ∨ (∃ j, jumpOf ex2 = some (some j) ∧ X j pre c s2)))))
    (done : ∀ s k, k = VBlk.loop .exhausted none 0 env ps.toList as body → inv xs s → Q .normal env (hp k s))
    (stop : ∀ j pre c post s k, k = VBlk.loop .exhausted (some j) 0 env ps.toList as body → xs = pre ++ c :: post → X j pre c s → jumpTo (some j) env (hp k s) Q) : B S H0 rd (.rangeFunc g ps as body) env H Q := by
  let rec' : LoopState → Option Code → VBlk := fun st p => .loop st p 0 env ps.toList as body
  let Rf : VHeap → Prop := fun G => (∃ s, G = hp (rec' .ready none) s ∧ inv xs s) ∨ ∃ j pre c post s, G = hp (rec' .done (some j)) s ∧ xs = pre ++ c :: post ∧ X j pre c s
  have key : ∀ (ys pre : List VVal) (s : σ), xs = pre ++ ys → inv pre s → Iter S H.length ys (hp (rec' .ready none) s) Rf := by
    intro ys
    induction ys with
    | nil =>
      intro pre s hx hs
      rw [List.append_nil] at hx
      exact .inl ⟨s, rfl, hx ▸ hs⟩
    | cons c ys ih =>
      intro pre s hx hs
      have hr := round pre c ys s hx hs _ _ rfl rfl
      refine Fv_yield (p := none) (fn := 0) (tmps := env) (ps := ps.toList) (as := as) (body := body) (hget _ s) (by simp [hps]) _ rfl (hr.mono ?_)
      rintro ex env1 H1 ⟨rfl, s1, rfl, hb⟩
      refine ⟨rfl, none, 0, env, ps.toList, as, body, hget _ s1, ?_⟩
      rw [hset]
      refine hb.mono ?_
      rintro ex2 env2 H2 ⟨s2, rfl, h2⟩
      rcases h2 with ⟨rfl, h2⟩ | ⟨j, hj, h2⟩
      · refine ⟨none, rfl, .busy, none, 0, env, ps.toList, as, body, hget _ s2, true, rfl, ?_⟩
        rw [if_pos rfl, hset]
        exact ih (pre ++ [c]) s2 (by rw [hx]; simp) h2
      · refine ⟨some j, hj, .busy, none, 0, env, ps.toList, as, body, hget _ s2, false, rfl, ?_⟩
        rw [if_neg (by simp), hset]
        exact .inr ⟨j, pre, c, ys, s2, rfl, hx, h2⟩
  refine B_range hrd hg (hAll H.length _ Rf (by rw [h0]; exact key xs [] s0 rfl hi)) ?_
  rintro v H2 (⟨s, rfl, hs⟩ | ⟨j, pre, c, post, s, rfl, hx, hX⟩)
  · refine ⟨.ready, none, 0, env, ps.toList, as, body, hget _ s, by simp, ?_⟩
    rw [hset]
    exact done s _ rfl hs
  · refine ⟨.done, some j, 0, env, ps.toList, as, body, hget _ s, by simp, ?_⟩
    rw [hset]
    exact stop j pre c post s _ rfl hx hX

/-- .. that tells the images of xs -/
theorem B_rangeM {f1 : FuncId} {caps : List VVal} {g : Operand} {ps : Array Nat} {as body : Code} {β : Type} (fv : β → VVal) (xs : List β) (hrd : ∀ l0, rd = some l0 → ∃ st p fn tmps ps as body, H[l0]? = some (.loop st p fn tmps ps as body)) (hg : env.eval g = .func f1 [] caps)
    (hAll : ∀ (l : Nat) (G : VHeap) (R : VHeap → Prop), Iter S l (xs.map fv) G R → F S f1 ([.yield l] ++ caps) G fun v G' => R G')
    {σ : Type} (hp : VBlk → σ → VHeap) (s0 : σ) (h0 : ∀ k, H ++ [k] = hp k s0) (hget : ∀ k s, (hp k s)[H.length]? = some k) (hset : ∀ k k' s, (hp k s).set H.length k' = hp k' s)
    (inv : List β → σ → Prop) (hi : inv [] s0) (X : Code → List β → β → σ → Prop) (hps : ps.toList.length = 1)
    (round : ∀ pre c post s, xs = pre ++ c :: post → inv pre s → ∀ (kr kb : VBlk), kr = .loop .ready none 0 env ps.toList as body → kb = .loop .busy none 0 env ps.toList as body →
      B S (hp kr s) (some H.length) as (setParams env ps.toList [fv c]) (hp kr s) (fun ex env1 H1 => ex = .normal ∧ ∃ s1, H1 = hp kr s1 ∧ B S (hp kr s) (some H.length) body env1 (hp kb s1)
        (fun ex2 _ H2 => ∃ s2, H2 = hp kb s2 ∧ ((ex2 = .normal ∧ inv (pre ++ [c]) s2) ∨ (∃ j, jumpOf ex2 = some (some j) ∧ X j pre c s2)))))
    (done : ∀ s k, k = VBlk.loop .exhausted none 0 env ps.toList as body → inv xs s → Q .normal env (hp k s))
    (stop : ∀ j pre c post s k, k = VBlk.loop .exhausted (some j) 0 env ps.toList as body → xs = pre ++ c :: post → X j pre c s → jumpTo (some j) env (hp k s) Q) : B S H0 rd (.rangeFunc g ps as body) env H Q := by
  refine B_rangeL (xs.map fv) hrd hg hAll hp s0 h0 hget hset (fun pre s => ∃ p q, pre = p.map fv ∧ xs = p ++ q ∧ inv p s) ⟨[], xs, rfl, rfl, hi⟩ (fun j pre c s => ∃ p b q, pre = p.map fv ∧ c = fv b ∧ xs = p ++ b :: q ∧ X j p b s) hps ?_ ?_ ?_
  · rintro pre c post s hx ⟨p, q, rfl, rfl, hI⟩ kr kb hkr hkb
    rw [List.map_append, List.append_cancel_left_eq] at hx
    cases q with
    | nil => simp at hx
    | cons b q =>
      simp only [List.map_cons, List.cons.injEq] at hx
      obtain ⟨rfl, rfl⟩ := hx
      refine (round p b q s rfl hI kr kb hkr hkb).mono ?_
      rintro ex env1 H1 ⟨h1, s1, h2, h3⟩
      refine ⟨h1, s1, h2, h3.mono ?_⟩
      rintro ex2 env2 H2 ⟨s2, h4, h5⟩
      refine ⟨s2, h4, ?_⟩
      rcases h5 with ⟨h5, h6⟩ | ⟨j, h5, h6⟩
      · exact .inl ⟨h5, p ++ [b], q, by simp, by simp, h6⟩
      · exact .inr ⟨j, h5, p, b, q, rfl, rfl, rfl, h6⟩
  · rintro s k hk ⟨p, q, hp', rfl, hI⟩
    have hq : q = [] := by
      have := congrArg List.length hp'
      simp at this
      exact this
    subst hq
    rw [List.append_nil] at *
    exact done s k hk hI
  · rintro j pre c post s k hk hx ⟨p, b, q, rfl, rfl, hxs, hX⟩
    exact stop j p b q s k hk hxs hX

abbrev cI (c : Nat) : VVal := .int .i64 (c : Int)
end
end Go.V
