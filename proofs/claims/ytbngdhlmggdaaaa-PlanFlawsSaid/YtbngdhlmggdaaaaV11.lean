/- Regions whose order Go leaves open: the run here, step by step. -/
import Derived.Test.YtbngdhlmggdaaaaV10
set_option autoImplicit false
set_option linter.unusedVariables false
set_option linter.unusedSimpArgs false
namespace Go.V
open Go Go.RowKit

/-! ### What kinds of operations do, without a world -/
theorem vop_calm {T : TypeId → Option VTy} {ρ : Operand → VVal} {op : Op} {H H' : VHeap} {v : VVal} (h : vop T ρ H op = some (v, H')) (hc : clsOf T op = .calm) :
    H' = H ∧ ∀ G, vop T ρ G op = some (v, G) := by
  cases op <;> simp only [clsOf, reduceCtorEq] at hc
  case pick c a b =>
    simp only [vop] at h ⊢
    split at h
    · simp only [Option.some.injEq, Prod.mk.injEq] at h; obtain ⟨rfl, rfl⟩ := h; exact ⟨rfl, fun _ => rfl⟩
    · cases h
  case makeMap t r => cases r <;> simp [clsOf] at hc
  case makeFunc f a b =>
    cases f <;> simp only [vop, reduceCtorEq] at h ⊢
    simp only [Option.some.injEq, Prod.mk.injEq] at h; obtain ⟨rfl, rfl⟩ := h; exact ⟨rfl, fun _ => rfl⟩
  case convert src dst x =>
    split at hc
    · rename_i hi
      simp only [vop] at h ⊢
      unfold isIntTy at hi
      split at hi
      · rename_i y hy
        split at hi
        · rename_i k hk
          have hinv : H' = H ∧ ∃ s j n, T src = some s ∧ ρ x = .int j n ∧ v = .int k (k.wrap n) := by
            unfold vconvert at h
            cases hs : T src with
            | none => rw [hs] at h; simp at h
            | some s =>
              rw [hs, hy] at h
              simp only [hk] at h
              cases hx : ρ x <;> rw [hx] at h <;> cases hd : s.desc <;> simp [hd] at h <;> exact ⟨h.2.symm, _, _, _, rfl, rfl, h.1.symm⟩
          obtain ⟨rfl, s, j, n, hs, hx, rfl⟩ := hinv
          refine ⟨rfl, fun G => ?_⟩
          simp only [vconvert, hs, hy, hk, hx]
        · cases hi
      · cases hi
    · split at hc <;> cases hc
  case call c =>
    obtain ⟨callee, args, ats⟩ := c
    cases callee <;> (try simp only [clsOf, reduceCtorEq] at hc)
    rename_i b
    cases b <;> (try simp only [clsOf, reduceCtorEq] at hc)
    all_goals
      simp only [vop, vbuiltin, Option.map_eq_some_iff, Prod.mk.injEq] at h
      obtain ⟨u, hu, rfl, rfl⟩ := h
      exact ⟨rfl, fun G => by simp [vop, vbuiltin, hu]⟩
  all_goals first
    | (simp only [vop, Option.some.injEq, Prod.mk.injEq] at h; obtain ⟨rfl, rfl⟩ := h; exact ⟨rfl, fun _ => rfl⟩)
    | (simp only [vop, Option.map_eq_some_iff, Prod.mk.injEq] at h; obtain ⟨u, hu, rfl, rfl⟩ := h; exact ⟨rfl, fun G => by simp [vop, hu]⟩)

theorem vconvert_str {T : TypeId → Option VTy} {H H' : VHeap} {src dst : TypeId} {x v : VVal} (hd : isStrTy T dst = true) (h : vconvert T H src dst x = some (v, H')) :
    H' = H ∧ ∀ X, vconvert T (H ++ X) src dst x = some (v, H ++ X) := by
  unfold isStrTy at hd
  split at hd
  · rename_i y hy
    split at hd
    · rename_i hs
      unfold vconvert at h
      cases hsrc : T src with
      | none => rw [hsrc] at h; simp at h
      | some s =>
        rw [hsrc, hy] at h
        simp only [hs] at h
        cases hsd : s.desc <;> rw [hsd] at h <;> (try (simp only [reduceCtorEq] at h; done))
        case string =>
          cases x <;> simp only [reduceCtorEq, Option.some.injEq, Prod.mk.injEq] at h
          obtain ⟨rfl, rfl⟩ := h
          exact ⟨rfl, fun X => by simp [vconvert, hsrc, hy, hs, hsd]⟩
        case slice e =>
          dsimp only at h
          cases hz : T e with
          | none => rw [hz] at h; simp at h
          | some z =>
            rw [hz] at h
            cases x with
            | slice a len cap ex es =>
              cases a with
              | none =>
                simp only at h
                split at h
                · rename_i hzd
                  simp only [Option.some.injEq, Prod.mk.injEq] at h
                  obtain ⟨rfl, rfl⟩ := h
                  exact ⟨rfl, fun X => by simp [vconvert, hsrc, hy, hs, hsd, hz, hzd]⟩
                · cases h
              | some p =>
                obtain ⟨b, off⟩ := p
                by_cases he : es = 1
                · subst he
                  simp only at h
                  split at h
                  · rename_i hzd hg
                    split at h
                    · rename_i l hl
                      simp only [Option.map_eq_some_iff, Prod.mk.injEq] at h
                      obtain ⟨u, hu, rfl, rfl⟩ := h
                      exact ⟨rfl, fun X => by simp [vconvert, hsrc, hy, hs, hsd, hz, hzd, get_append hg, hl, hu]⟩
                    · cases h
                  · cases h
                · exfalso
                  match es, he with
                  | 0, _ => simp at h
                  | n + 2, _ => simp at h
            | fsl cs len es ex =>
              by_cases he : es = 1
              · subst he
                simp only at h
                split at h
                · rename_i hzd
                  split at h
                  · rename_i l hl
                    simp only [Option.map_eq_some_iff, Prod.mk.injEq] at h
                    obtain ⟨u, hu, rfl, rfl⟩ := h
                    exact ⟨rfl, fun X => by simp [vconvert, hsrc, hy, hs, hsd, hz, hzd, hl, hu]⟩
                  · cases h
                · cases h
              · exfalso
                match es, he with
                | 0, _ => simp at h
                | n + 2, _ => simp at h
            | _ => simp at h
    · cases hd
  · cases hd

theorem vlookup_append {T : TypeId → Option VTy} {H : VHeap} {t : TypeId} {x k v : VVal} {ok : Bool} (X : VHeap) (hu : vlookup T H t x k ok = some v) : vlookup T (H ++ X) t x k ok = some v := by
  unfold vlookup at hu ⊢
  split at hu
  · split at hu
    · split at hu
      · simp only at hu ⊢
        split at hu
        · rename_i hcnd
          rw [if_pos hcnd]
          split at hu
          · exact hu
          · split at hu
            · rename_i hg; simp only [get_append hg]; exact hu
            · cases hu
          · cases hu
        · cases hu
      · cases hu
    · cases hu
  · cases hu

theorem vop_look {T : TypeId → Option VTy} {ρ : Operand → VVal} {op : Op} {H H' : VHeap} {v : VVal} (h : vop T ρ H op = some (v, H')) (hc : clsOf T op = .look) :
    H' = H ∧ ∀ X, vop T ρ (H ++ X) op = some (v, H ++ X) := by
  cases op <;> simp only [clsOf, reduceCtorEq] at hc
  case load t a =>
    simp only [vop, Option.map_eq_some_iff, Prod.mk.injEq] at h
    obtain ⟨u, hu, rfl, rfl⟩ := h
    exact ⟨rfl, fun X => by simp [vop, vload_append X hu]⟩
  case lookup t x k ok =>
    simp only [vop, Option.map_eq_some_iff, Prod.mk.injEq] at h
    obtain ⟨u, hu, rfl, rfl⟩ := h
    exact ⟨rfl, fun X => by simp [vop, vlookup_append X hu]⟩
  case convert src dst' x =>
    simp only [vop] at h
    split at hc
    · cases hc
    · split at hc
      · rename_i hs
        obtain ⟨rfl, q⟩ := vconvert_str hs h
        exact ⟨rfl, fun X => by simp [vop, q X]⟩
      · cases hc
  case makeMap t r => cases r <;> simp [clsOf] at hc
  case call c =>
    obtain ⟨callee, args, ats⟩ := c
    cases callee <;> (try simp only [clsOf, reduceCtorEq] at hc)
    rename_i b
    cases b <;> (try simp only [clsOf, reduceCtorEq] at hc)
    simp only [vop] at h ⊢
    generalize args.toList.map ρ = l at h ⊢
    match l, h with
    | [], h => simp [vbuiltin] at h
    | _ :: _ :: _, h => simp [vbuiltin] at h
    | [x], h =>
      simp only [vbuiltin] at h ⊢
      split at h
      · rename_i t hat
        simp only [Option.map_eq_some_iff, Prod.mk.injEq] at h
        obtain ⟨u, hu, rfl, rfl⟩ := h
        exact ⟨rfl, fun X => by simp [vlen_append X hu]⟩
      · cases h

theorem vop_grow {P : Program} {T : TypeId → Option VTy} (hT : TOk P T) {ρ : Operand → VVal} {o : Oper} {H H' : VHeap} {v : VVal} (h : vop T ρ H o.op = some (v, H')) (hc : clsOf T o.op = .grow) :
    ∃ k, H' = H ++ [k] := by
  obtain ⟨k, e, _⟩ := grow_run (ρ' := fun _ => undef) hT h hc
  exact ⟨k, e⟩

/-! ### The run, step by step -/
structure St where
  i : Nat
  o : Oper
  env : VEnv
  H : VHeap
  v : VVal
  H' : VHeap
  it : Item'

def isTurn : Item' → Bool
  | .turn .. => true
  | _ => false

def StOk (C : Cfg) (call : Nat → Caller) (ops : Array Oper) (s : St) : Prop := ops[s.i]? = some s.o ∧ runOp C.T C.meth (call s.i) ops s.o s.env s.H = some (s.v, s.H', s.it) ∧ s.H.length ≤ s.H'.length

def Chain (C : Cfg) (call : Nat → Caller) (ops : Array Oper) : VEnv → VHeap → List St → VEnv → VHeap → Prop
  | env, H, [], env', H' => env' = env ∧ H' = H
  | env, H, s :: S, env', H' => s.env = env ∧ s.H = H ∧ StOk C call ops s ∧ Chain C call ops (s.env.put s.o.dst s.v) s.H' S env' H'

theorem runOps_chain {C : Cfg} {call : Nat → Caller} (hlen : ∀ i f args H v H', call i f args H = some (v, H') → H.length ≤ H'.length) {ops : Array Oper} : ∀ (l : List Nat) (env : VEnv) (H : VHeap) (tr : List (Nat × Item')) (env' : VEnv) (H' : VHeap) (tr' : List (Nat × Item')),
    runOps C.T C.meth call ops l env H tr = some (env', H', tr') → ∃ S : List St, S.map (·.i) = l ∧ tr' = tr ++ S.map (fun s => (s.i, s.it)) ∧ Chain C call ops env H S env' H'
  | [], env, H, tr, env', H', tr', h => by
    simp only [runOps, Option.some.injEq, Prod.mk.injEq] at h
    obtain ⟨rfl, rfl, rfl⟩ := h
    exact ⟨[], rfl, by simp, rfl, rfl⟩
  | i :: l, env, H, tr, env', H', tr', h => by
    simp only [runOps] at h
    split at h
    · cases h
    · rename_i o ho
      split at h
      · rename_i v H1 it hop
        obtain ⟨S, a, b, c⟩ := runOps_chain hlen l _ _ _ _ _ _ h
        have hl := runOps_len (T := C.T) (meth := C.meth) hlen ops [i] env H [] (env.put o.dst v) H1 [(i, it)] (by simp [runOps, ho, hop])
        exact ⟨⟨i, o, env, H, v, H1, it⟩ :: S, by simp [a], by simp [b], rfl, rfl, ⟨ho, hop, hl⟩, c⟩
      · cases h

/-- the kinds of steps -/
theorem st_cases {C : Cfg} {call : Nat → Caller} {ops : Array Oper} {s : St} (h : StOk C call ops s) :
    (vwanted ops s.env s.o.guard = some false ∧ s.v = .skip ∧ s.H' = s.H ∧ s.it = .calm) ∨
    (vwanted ops s.env s.o.guard = some true ∧ calleeOf C.meth s.env.eval s.o.op = none ∧ clsOf C.T s.o.op = .calm ∧ vop C.T s.env.eval s.H s.o.op = some (s.v, s.H') ∧ s.it = .calm) ∨
    (vwanted ops s.env s.o.guard = some true ∧ calleeOf C.meth s.env.eval s.o.op = none ∧ clsOf C.T s.o.op = .look ∧ vop C.T s.env.eval s.H s.o.op = some (s.v, s.H') ∧ s.it = .look (fun G => vop C.T s.env.eval G s.o.op) s.v) ∨
    (vwanted ops s.env s.o.guard = some true ∧ calleeOf C.meth s.env.eval s.o.op = none ∧ clsOf C.T s.o.op = .grow ∧ vop C.T s.env.eval s.H s.o.op = some (s.v, s.H') ∧ s.it = .grow s.H.length) ∨
    s.it = .turn s.H s.H' := by
  obtain ⟨_, h, _⟩ := h
  unfold runOp at h
  split at h
  · cases h
  · rename_i hw
    simp only [Option.some.injEq, Prod.mk.injEq] at h
    obtain ⟨a, b, c⟩ := h
    exact .inl ⟨hw, a.symm, b.symm, c.symm⟩
  · rename_i hw
    split at h
    · split at h
      · simp only [Option.some.injEq, Prod.mk.injEq] at h
        obtain ⟨a, b, c⟩ := h
        right; right; right; right
        rw [← c, b]
      · cases h
    · rename_i hcal
      split at h
      · rename_i hop
        simp only [Option.some.injEq, Prod.mk.injEq] at h
        obtain ⟨a, b, c⟩ := h
        subst a b
        unfold itemOf at c
        cases hc : clsOf C.T s.o.op <;> rw [hc] at c <;> simp only at c
        · exact .inr (.inl ⟨hw, hcal, rfl, hop, c.symm⟩)
        · exact .inr (.inr (.inl ⟨hw, hcal, rfl, hop, c.symm⟩))
        · exact .inr (.inr (.inr (.inl ⟨hw, hcal, rfl, hop, c.symm⟩)))
        · exact .inr (.inr (.inr (.inr c.symm)))
      · cases h

/-- the heap ahead of the first turn that is not yet carried out -/
def hp (D : Nat → Bool) : List St → VHeap → VHeap
  | [], H => H
  | s :: S, H => if isTurn s.it = true ∧ D s.i = false then s.H else hp D S s.H'

/-- the slots as the steps carried out leave them -/
def ev (D : Nat → Bool) : List St → VEnv → VEnv
  | [], e => e
  | s :: S, e => ev D S (if D s.i = true then e.put s.o.dst s.v else e)

section
variable {C : Cfg} {call : Nat → Caller} {ops : Array Oper}

theorem chain_split {env' : VEnv} {H' : VHeap} : ∀ {A : List St} {s : St} {B : List St} {env : VEnv} {H : VHeap}, Chain C call ops env H (A ++ s :: B) env' H' →
    Chain C call ops env H A s.env s.H ∧ StOk C call ops s ∧ Chain C call ops (s.env.put s.o.dst s.v) s.H' B env' H'
  | [], s, B, env, H, h => by obtain ⟨rfl, rfl, a, b⟩ := h; exact ⟨⟨rfl, rfl⟩, a, b⟩
  | u :: A, s, B, env, H, h => by
    obtain ⟨a, b, c, d⟩ := h
    obtain ⟨e, f, g⟩ := chain_split d
    exact ⟨⟨a, b, c, e⟩, f, g⟩

theorem st_len {s : St} (h : StOk C call ops s) : s.H.length ≤ s.H'.length := by
  exact h.2.2

theorem chain_len {env' : VEnv} {H' : VHeap} : ∀ {S : List St} {env : VEnv} {H : VHeap}, Chain C call ops env H S env' H' → H.length ≤ H'.length ∧ (∀ s, s ∈ S → H.length ≤ s.H.length ∧ StOk C call ops s) ∧ ∀ D, H.length ≤ (hp D S H).length
  | [], env, H, h => by obtain ⟨rfl, rfl⟩ := h; exact ⟨Nat.le_refl _, by simp, fun D => Nat.le_refl _⟩
  | u :: S, env, H, h => by
    obtain ⟨rfl, rfl, c, d⟩ := h
    obtain ⟨e, f, g⟩ := chain_len d
    have l := st_len c
    refine ⟨by omega, ?_, ?_⟩
    · intro s hs
      rcases List.mem_cons.1 hs with rfl | hs
      · exact ⟨Nat.le_refl _, c⟩
      · have := f s hs; exact ⟨by omega, this.2⟩
    · intro D
      unfold hp
      split
      · exact Nat.le_refl _
      · have := g D; omega

theorem hp_congr {D D' : Nat → Bool} : ∀ {S : List St} {H : VHeap}, (∀ s, s ∈ S → isTurn s.it = true → D s.i = D' s.i) → hp D S H = hp D' S H
  | [], H, _ => rfl
  | s :: S, H, h => by
    unfold hp
    rw [hp_congr (fun u hu => h u (List.mem_cons_of_mem _ hu))]
    by_cases ht : isTurn s.it = true
    · rw [h s (List.mem_cons_self ..) ht]
    · simp [ht]

theorem hp_split {D : Nat → Bool} {s : St} {B : List St} {env' : VEnv} {H' : VHeap} : ∀ {A : List St} {env : VEnv} {H : VHeap}, Chain C call ops env H (A ++ s :: B) env' H' →
    (∃ u, u ∈ A ∧ isTurn u.it = true ∧ D u.i = false ∧ hp D (A ++ s :: B) H = u.H) ∨ ((∀ u, u ∈ A → isTurn u.it = true → D u.i = true) ∧ hp D (A ++ s :: B) H = hp D (s :: B) s.H)
  | [], env, H, h => by obtain ⟨rfl, rfl, _⟩ := h; exact .inr ⟨by simp, rfl⟩
  | u :: A, env, H, h => by
    obtain ⟨_, rfl, c, d⟩ := h
    by_cases ht : isTurn u.it = true ∧ D u.i = false
    · exact .inl ⟨u, List.mem_cons_self .., ht.1, ht.2, by simp [hp, ht]⟩
    · have e : hp D (u :: A ++ s :: B) u.H = hp D (A ++ s :: B) u.H' := by simp only [List.cons_append, hp]; rw [if_neg ht]
      rw [e]
      rcases hp_split (D := D) d with ⟨x, hx, h1, h2, h3⟩ | ⟨h1, h2⟩
      · exact .inl ⟨x, List.mem_cons_of_mem _ hx, h1, h2, h3⟩
      · refine .inr ⟨fun x hx hxt => ?_, h2⟩
        rcases List.mem_cons.1 hx with rfl | hx
        · cases hD : D x.i with
          | true => rfl
          | false => exact absurd ⟨hxt, hD⟩ ht
        · exact h1 x hx hxt

theorem st_new {P : Program} (hT : TOk P C.T) {s : St} (h : StOk C call ops s) (ht : isTurn s.it = false) : ∃ X, s.H' = s.H ++ X := by
  rcases st_cases h with ⟨_, _, e, _⟩ | ⟨_, _, hc, hv, _⟩ | ⟨_, _, hc, hv, _⟩ | ⟨_, _, hc, hv, _⟩ | e
  · exact ⟨[], by simp [e]⟩
  · exact ⟨[], by simp [(vop_calm hv hc).1]⟩
  · exact ⟨[], by simp [(vop_look hv hc).1]⟩
  · obtain ⟨k, e⟩ := vop_grow hT hv hc; exact ⟨[k], e⟩
  · rw [e] at ht; simp [isTurn] at ht

theorem hp_ext {P : Program} (hT : TOk P C.T) {D : Nat → Bool} {env' : VEnv} {H' : VHeap} : ∀ {B : List St} {env : VEnv} {H : VHeap}, Chain C call ops env H B env' H' → (∀ u, u ∈ B → isTurn u.it = true → D u.i = false) →
    ∃ X, hp D B H = H ++ X
  | [], env, H, h, _ => ⟨[], by simp [hp]⟩
  | u :: B, env, H, h, hd => by
    obtain ⟨_, rfl, c, d⟩ := h
    unfold hp
    split
    · exact ⟨[], by simp⟩
    · rename_i hn
      have ht : isTurn u.it = false := by
        cases ht : isTurn u.it with
        | false => rfl
        | true => exact absurd ⟨ht, hd u (List.mem_cons_self ..) ht⟩ hn
      obtain ⟨X, hX⟩ := st_new hT c ht
      obtain ⟨Y, hY⟩ := hp_ext hT d (fun x hx => hd x (List.mem_cons_of_mem _ hx))
      exact ⟨X ++ Y, by rw [hY, hX, List.append_assoc]⟩

theorem st_turn {s : St} (h : StOk C call ops s) (ht : isTurn s.it = true) : s.it = .turn s.H s.H' := by
  rcases st_cases h with ⟨_, _, _, e⟩ | ⟨_, _, _, _, e⟩ | ⟨_, _, _, _, e⟩ | ⟨_, _, _, _, e⟩ | e
  · rw [e] at ht; simp [isTurn] at ht
  · rw [e] at ht; simp [isTurn] at ht
  · rw [e] at ht; simp [isTurn] at ht
  · rw [e] at ht; simp [isTurn] at ht
  · exact e

/-- a property of heaps that more blocks behind leave as it is, and so do the turns that are carried out -/
theorem hp_keep {P : Program} (hT : TOk P C.T) {D : Nat → Bool} {env' : VEnv} {H' : VHeap} (φ : VHeap → Prop) (happ : ∀ G X, φ G → φ (G ++ X)) : ∀ {B : List St} {env : VEnv} {H : VHeap}, Chain C call ops env H B env' H' →
    (∀ u, u ∈ B → isTurn u.it = true → D u.i = true → φ u.H → φ u.H') → φ H → φ (hp D B H)
  | [], env, H, h, _, hH => hH
  | u :: B, env, H, h, hd, hH => by
    obtain ⟨_, rfl, c, d⟩ := h
    unfold hp
    split
    · exact hH
    · rename_i hn
      refine hp_keep hT φ happ d (fun x hx => hd x (List.mem_cons_of_mem _ hx)) ?_
      cases ht : isTurn u.it with
      | false =>
        obtain ⟨X, hX⟩ := st_new hT c ht
        rw [hX]; exact happ _ _ hH
      | true =>
        cases hD : D u.i with
        | false => exact absurd ⟨ht, hD⟩ hn
        | true => exact hd u (List.mem_cons_self ..) ht hD hH

theorem hp_end {D : Nat → Bool} {env' : VEnv} {H' : VHeap} : ∀ {B : List St} {env : VEnv} {H : VHeap}, Chain C call ops env H B env' H' → (∀ u, u ∈ B → D u.i = true) → hp D B H = H' ∧ ev D B env = env'
  | [], env, H, h, _ => by obtain ⟨rfl, rfl⟩ := h; exact ⟨rfl, rfl⟩
  | u :: B, env, H, h, hd => by
    obtain ⟨rfl, rfl, c, d⟩ := h
    have hu := hd u (List.mem_cons_self ..)
    have := hp_end d (fun x hx => hd x (List.mem_cons_of_mem _ hx))
    unfold hp ev
    rw [if_neg (by simp [hu]), if_pos hu]
    exact this

/-! ### Slots -/
theorem put_get (e e' : VEnv) (dst : Option Nat) (v : VVal) (t : Nat) (h : e[t]? = e'[t]?) : (e.put dst v)[t]? = (e'.put dst v)[t]? := by
  cases dst with
  | none => exact h
  | some d =>
    simp only [VEnv.put, List.getElem?_set]
    by_cases hd : d = t
    · subst hd
      rw [if_pos rfl, if_pos rfl]
      have : d < e.length ↔ d < e'.length := by
        constructor <;> intro hl
        · rw [List.getElem?_eq_getElem hl] at h; exact (List.getElem?_eq_some_iff.1 h.symm).1
        · rw [List.getElem?_eq_getElem hl] at h; exact (List.getElem?_eq_some_iff.1 h).1
      by_cases hl : d < e.length
      · rw [if_pos hl, if_pos (this.1 hl)]
      · rw [if_neg hl, if_neg (fun x => hl (this.2 x))]
    · rw [if_neg hd, if_neg hd]; exact h

theorem put_other (e : VEnv) (dst : Option Nat) (v : VVal) (t : Nat) (h : dst ≠ some t) : (e.put dst v)[t]? = e[t]? := by
  cases dst with
  | none => rfl
  | some d => simp only [VEnv.put, List.getElem?_set]; rw [if_neg (by intro x; exact h (by rw [x]))]

theorem ev_agree {t : Nat} {D : Nat → Bool} : ∀ {A : List St} {e e' : VEnv}, (∀ u, u ∈ A → u.o.dst = some t → D u.i = true) → e[t]? = e'[t]? → (ev D A e)[t]? = (ev (fun _ => true) A e')[t]?
  | [], e, e', _, h => h
  | u :: A, e, e', hd, h => by
    unfold ev
    refine ev_agree (fun x hx => hd x (List.mem_cons_of_mem _ hx)) ?_
    rw [if_pos rfl]
    by_cases ht : u.o.dst = some t
    · rw [if_pos (hd u (List.mem_cons_self ..) ht)]; exact put_get _ _ _ _ _ h
    · rw [put_other _ _ _ _ ht]
      split
      · rw [put_other _ _ _ _ ht]; exact h
      · exact h

theorem ev_still {t : Nat} {D : Nat → Bool} : ∀ {B : List St} {e : VEnv}, (∀ u, u ∈ B → u.o.dst = some t → D u.i = false) → (ev D B e)[t]? = e[t]?
  | [], e, _ => rfl
  | u :: B, e, hd => by
    unfold ev
    rw [ev_still (fun x hx => hd x (List.mem_cons_of_mem _ hx))]
    by_cases ht : u.o.dst = some t
    · rw [if_neg (by rw [hd u (List.mem_cons_self ..) ht]; simp)]
    · split
      · rw [put_other _ _ _ _ ht]
      · rfl

theorem ev_congr {D D' : Nat → Bool} : ∀ {B : List St} {e : VEnv}, (∀ u, u ∈ B → D u.i = D' u.i) → ev D B e = ev D' B e
  | [], e, _ => rfl
  | u :: B, e, hd => by
    unfold ev
    rw [ev_congr (fun x hx => hd x (List.mem_cons_of_mem _ hx)), hd u (List.mem_cons_self ..)]

theorem ev_append {D : Nat → Bool} : ∀ {A B : List St} {e : VEnv}, ev D (A ++ B) e = ev D B (ev D A e)
  | [], B, e => rfl
  | u :: A, B, e => by
    simp only [List.cons_append, ev]
    exact ev_append

theorem ev_put {D : Nat → Bool} {dst : Option Nat} {v : VVal} : ∀ {B : List St} {e : VEnv}, (∀ u, u ∈ B → D u.i = true → ∀ t, dst = some t → u.o.dst ≠ some t) → ev D B (e.put dst v) = (ev D B e).put dst v
  | [], e, _ => rfl
  | u :: B, e, hd => by
    unfold ev
    have : (if D u.i = true then (e.put dst v).put u.o.dst u.v else e.put dst v) = (if D u.i = true then e.put u.o.dst u.v else e).put dst v := by
      split
      · rename_i h
        have hne := hd u (List.mem_cons_self ..) h
        cases dst with
        | none => rfl
        | some t =>
          cases hu : u.o.dst with
          | none => rfl
          | some t' =>
            simp only [VEnv.put]
            exact List.set_comm _ _ (fun x => hne t rfl (by rw [hu, x]))
      · rfl
    rw [this]
    exact ev_put (fun x hx => hd x (List.mem_cons_of_mem _ hx))

theorem chain_env {env' : VEnv} {H' : VHeap} {S : List St} {env : VEnv} {H : VHeap} (h : Chain C call ops env H S env' H') : ev (fun _ => true) S env = env' :=
  (hp_end h (fun _ _ => rfl)).2
end
end Go.V
