/- Proved: Rows.TallyOwnCardSaid, the statement TallyOwn with its card, of the given program at the commit; no conditions beyond those in the statement. -/
import Derived.Test.YtccgigdjkghieaaDoorC12x6
import Derived.OrdersIn
set_option autoImplicit false
set_option linter.unusedVariables false
set_option linter.unusedSimpArgs false
namespace Go.V
open Go Go.RowKit
section
variable {P : Program} {w0 : World}
theorem Qu {ι : Inj} {env : VEnv} {a : Act} (h : RelL ι env a.tmps.toList) (d : Nat) : Rel ι (env.getD d .skip) (a.tmps.getD d undef) := by
 have := XB h (.tmp d)
 exact this
theorem Xa (a : Act) (dst : Option Nat) (v : Value) : (a.put dst v).defers = a.defers := by
 cases dst <;> rfl
end
open Go Go.RowKit
theorem vop_calm {T : TypeId → Option VTy} {ρ : Operand → VVal} {op : Op} {H H' : Ze} {v : VVal} (h : vop T ρ H op = some (v, H')) (hc : Yh T op = .calm) :
  H' = H ∧ ∀ G, vop T ρ G op = some (v, G) := by
 cases op <;> simp only [Yh, reduceCtorEq] at hc
 case pick c a b =>
  simp only [vop] at h ⊢
  split at h
  ·simp only [Option.some.injEq, Prod.mk.injEq] at h; obtain ⟨rfl, rfl⟩ := h; exact ⟨rfl, fun _ => rfl⟩
  cases h
 case makeMap t r => cases r <;> simp [Yh] at hc
 case makeFunc f a b =>
  cases f <;> simp only [vop, reduceCtorEq] at h ⊢
  simp only [Option.some.injEq, Prod.mk.injEq] at h; obtain ⟨rfl, rfl⟩ := h; exact ⟨rfl, fun _ => rfl⟩
 case convert src dst x =>
  split at hc
  ·rename_i hi
   simp only [vop] at h ⊢
   unfold Qf at hi
   split at hi
   ·rename_i y hy
    split at hi
    ·rename_i k hk
     have hinv : H' = H ∧ ∃ s j n, T src = some s ∧ ρ x = .int j n ∧ v = .int k (k.wrap n) := by
      unfold Yw at h
      cases hs : T src with
      | none => rw [hs] at h; simp at h
      | some s =>
       rw [hs, hy] at h
       simp only [hk] at h
       cases hx : ρ x <;> rw [hx] at h <;> cases hd : s.desc <;> simp [hd] at h <;> exact ⟨h.2.symm, _, _, _, rfl, rfl, h.1.symm⟩
     obtain ⟨rfl, s, j, n, hs, hx, rfl⟩ := hinv
     refine ⟨rfl, fun G => ?_⟩
     simp only [Yw, hs, hy, hk, hx]
    cases hi
   cases hi
  split at hc <;> cases hc
 case call c =>
  obtain ⟨callee, args, ats⟩ := c
  cases callee <;> (try simp only [Yh, reduceCtorEq] at hc)
  rename_i b
  cases b <;> (try simp only [Yh, reduceCtorEq] at hc)
  all_goals
   simp only [vop, ZR, Option.map_eq_some_iff, Prod.mk.injEq] at h
   obtain ⟨u, hu, rfl, rfl⟩ := h
   exact ⟨rfl, fun G => by simp [vop, ZR, hu]⟩
 all_goals first
  | (simp only [vop, Option.some.injEq, Prod.mk.injEq] at h; obtain ⟨rfl, rfl⟩ := h; exact ⟨rfl, fun _ => rfl⟩)
  | (simp only [vop, Option.map_eq_some_iff, Prod.mk.injEq] at h; obtain ⟨u, hu, rfl, rfl⟩ := h; exact ⟨rfl, fun G => by simp [vop, hu]⟩)
theorem vconvert_str {T : TypeId → Option VTy} {H H' : Ze} {src dst : TypeId} {x v : VVal} (hd : Qe T dst = true) (h : Yw T H src dst x = some (v, H')) :
  H' = H ∧ ∀ X, Yw T (H ++ X) src dst x = some (v, H ++ X) := by
 have := (QC h).2
 rw [hd] at this; cases this
theorem ZbL {T : TypeId → Option VTy} {H : Ze} {t : TypeId} {x k v : VVal} {ok : Bool} (X : Ze) (hu : XK T H t x k ok = some v) : XK T (H ++ X) t x k ok = some v := by
 unfold XK at hu ⊢
 split at hu
 ·split at hu
  ·split at hu
   ·simp only at hu ⊢
    split at hu
    ·rename_i hcnd
     rw [if_pos hcnd]
     split at hu
     ·exact hu
     ·split at hu
      ·rename_i hg; simp only [Zn hg]; exact hu
      cases hu
     cases hu
    cases hu
   cases hu
  cases hu
 cases hu
theorem Zb7 {T : TypeId → Option VTy} {ρ : Operand → VVal} {op : Op} {H H' : Ze} {v : VVal} (h : vop T ρ H op = some (v, H')) (hc : Yh T op = .look) :
  H' = H ∧ ∀ X, vop T ρ (H ++ X) op = some (v, H ++ X) := by
 cases op <;> simp only [Yh, reduceCtorEq] at hc
 case load t a =>
  simp only [vop, Option.map_eq_some_iff, Prod.mk.injEq] at h
  obtain ⟨u, hu, rfl, rfl⟩ := h
  exact ⟨rfl, fun X => by simp [vop, Zal X hu]⟩
 case lookup t x k ok =>
  simp only [vop, Option.map_eq_some_iff, Prod.mk.injEq] at h
  obtain ⟨u, hu, rfl, rfl⟩ := h
  exact ⟨rfl, fun X => by simp [vop, ZbL X hu]⟩
 case convert src dst' x =>
  simp only [vop] at h
  split at hc
  ·cases hc
  split at hc
  ·rename_i hs
   obtain ⟨rfl, q⟩ := vconvert_str hs h
   exact ⟨rfl, fun X => by simp [vop, q X]⟩
  cases hc
 case makeMap t r => cases r <;> simp [Yh] at hc
 case call c =>
  obtain ⟨callee, args, ats⟩ := c
  cases callee <;> (try simp only [Yh, reduceCtorEq] at hc)
  rename_i b
  cases b <;> (try simp only [Yh, reduceCtorEq] at hc)
  simp only [vop] at h ⊢
  generalize args.toList.map ρ = l at h ⊢
  match l, h with
  | [], h => simp [ZR] at h
  | _ :: _ :: _, h => simp [ZR] at h
  | [x], h =>
   simp only [ZR] at h ⊢
   split at h
   ·rename_i t hat
    simp only [Option.map_eq_some_iff, Prod.mk.injEq] at h
    obtain ⟨u, hu, rfl, rfl⟩ := h
    exact ⟨rfl, fun X => by simp [Za4 X hu]⟩
   cases h
theorem vop_grow {P : Program} {T : TypeId → Option VTy} (hT : TOk P T) {ρ : Operand → VVal} {o : Oper} {H H' : Ze} {v : VVal} (h : vop T ρ H o.op = some (v, H')) (hc : Yh T o.op = .grow) :
  ∃ k, H' = H ++ [k] := by
 obtain ⟨k, e, _⟩ := Zci (ρ' := fun _ => undef) hT h hc
 exact ⟨k, e⟩
structure St where
 i : Nat
 o : Oper
 env : VEnv
 H : Ze
 v : VVal
 H' : Ze
 it : Item'
def Yt : Item' → Bool
 | .turn .. => true
 | _ => false
def StOk (C : Cfg) (call : Nat → YR) (ops : Array Oper) (s : St) : Prop := ops[s.i]? = some s.o ∧ YL C.T C.meth (call s.i) ops s.o s.env s.H = some (s.v, s.H', s.it) ∧ s.H.length ≤ s.H'.length
def QV (C : Cfg) (call : Nat → YR) (ops : Array Oper) : VEnv → Ze → List St → VEnv → Ze → Prop
 | env, H, [], env', H' => env' = env ∧ H' = H
 | env, H, s :: S, env', H' => s.env = env ∧ s.H = H ∧ StOk C call ops s ∧ QV C call ops (s.env.put s.o.dst s.v) s.H' S env' H'
theorem QD {C : Cfg} {call : Nat → YR} (hlen : ∀ i f args H v H', call i f args H = some (v, H') → H.length ≤ H'.length) {ops : Array Oper} : ∀ (l : List Nat) (env : VEnv) (H : Ze) (tr : List (Nat × Item')) (env' : VEnv) (H' : Ze) (tr' : List (Nat × Item')),
  Xe C.T C.meth call ops l env H tr = some (env', H', tr') → ∃ S : List St, S.map (·.i) = l ∧ tr' = tr ++ S.map (fun s => (s.i, s.it)) ∧ QV C call ops env H S env' H'
 | [], env, H, tr, env', H', tr', h => by
  simp only [Xe, Option.some.injEq, Prod.mk.injEq] at h
  obtain ⟨rfl, rfl, rfl⟩ := h
  exact ⟨[], rfl, by simp, rfl, rfl⟩
 | i :: l, env, H, tr, env', H', tr', h => by
  simp only [Xe] at h
  split at h
  ·cases h
  rename_i o ho
  split at h
  ·rename_i v H1 it hop
   obtain ⟨S, a, b, c⟩ := QD hlen l _ _ _ _ _ _ h
   have hl := JU (T := C.T) (meth := C.meth) hlen ops [i] env H [] (env.put o.dst v) H1 [(i, it)] (by simp [Xe, ho, hop])
   exact ⟨⟨i, o, env, H, v, H1, it⟩ :: S, by simp [a], by simp [b], rfl, rfl, ⟨ho, hop, hl⟩, c⟩
  cases h
theorem Qs {C : Cfg} {call : Nat → YR} {ops : Array Oper} {s : St} (h : StOk C call ops s) :
  (Z7 ops s.env s.o.guard = some false ∧ s.v = .skip ∧ s.H' = s.H ∧ s.it = .calm) ∨
  (Z7 ops s.env s.o.guard = some true ∧ ZZ C.meth s.env.eval s.o.op = none ∧ Yh C.T s.o.op = .calm ∧ vop C.T s.env.eval s.H s.o.op = some (s.v, s.H') ∧ s.it = .calm) ∨
  (Z7 ops s.env s.o.guard = some true ∧ ZZ C.meth s.env.eval s.o.op = none ∧ Yh C.T s.o.op = .look ∧ vop C.T s.env.eval s.H s.o.op = some (s.v, s.H') ∧ s.it = .look (fun G => vop C.T s.env.eval G s.o.op) s.v) ∨
  (Z7 ops s.env s.o.guard = some true ∧ ZZ C.meth s.env.eval s.o.op = none ∧ Yh C.T s.o.op = .grow ∧ vop C.T s.env.eval s.H s.o.op = some (s.v, s.H') ∧ s.it = .grow s.H.length) ∨
  s.it = .turn s.H s.H' := by
 obtain ⟨_, h, _⟩ := h
 unfold YL at h
 split at h
 ·cases h
 ·rename_i hw
  simp only [Option.some.injEq, Prod.mk.injEq] at h
  obtain ⟨a, b, c⟩ := h
  exact .inl ⟨hw, a.symm, b.symm, c.symm⟩
 rename_i hw
 split at h
 ·split at h
  ·simp only [Option.some.injEq, Prod.mk.injEq] at h
   obtain ⟨a, b, c⟩ := h
   right; right; right; right
   rw [← c, b]
  cases h
 rename_i hcal
 split at h
 ·rename_i hop
  simp only [Option.some.injEq, Prod.mk.injEq] at h
  obtain ⟨a, b, c⟩ := h
  subst a b
  unfold X0 at c
  cases hc : Yh C.T s.o.op <;> rw [hc] at c <;> simp only at c
  ·exact .inr (.inl ⟨hw, hcal, rfl, hop, c.symm⟩)
  ·exact .inr (.inr (.inl ⟨hw, hcal, rfl, hop, c.symm⟩))
  ·exact .inr (.inr (.inr (.inl ⟨hw, hcal, rfl, hop, c.symm⟩)))
  exact .inr (.inr (.inr (.inr c.symm)))
 cases h
def hp (D : Nat → Bool) : List St → Ze → Ze
 | [], H => H
 | s :: S, H => if Yt s.it = true ∧ D s.i = false then s.H else hp D S s.H'
def ev (D : Nat → Bool) : List St → VEnv → VEnv
 | [], e => e
 | s :: S, e => ev D S (if D s.i = true then e.put s.o.dst s.v else e)
section
variable {C : Cfg} {call : Nat → YR} {ops : Array Oper}
theorem Q6 {env' : VEnv} {H' : Ze} : ∀ {A : List St} {s : St} {B : List St} {env : VEnv} {H : Ze}, QV C call ops env H (A ++ s :: B) env' H' →
  QV C call ops env H A s.env s.H ∧ StOk C call ops s ∧ QV C call ops (s.env.put s.o.dst s.v) s.H' B env' H'
 | [], s, B, env, H, h => by obtain ⟨rfl, rfl, a, b⟩ := h; exact ⟨⟨rfl, rfl⟩, a, b⟩
 | u :: A, s, B, env, H, h => by
  obtain ⟨a, b, c, d⟩ := h
  obtain ⟨e, f, g⟩ := Q6 d
  exact ⟨⟨a, b, c, e⟩, f, g⟩
theorem st_len {s : St} (h : StOk C call ops s) : s.H.length ≤ s.H'.length := by
 exact h.2.2
theorem Z5 {env' : VEnv} {H' : Ze} : ∀ {S : List St} {env : VEnv} {H : Ze}, QV C call ops env H S env' H' → H.length ≤ H'.length ∧ (∀ s, s ∈ S → H.length ≤ s.H.length ∧ StOk C call ops s) ∧ ∀ D, H.length ≤ (hp D S H).length
 | [], env, H, h => by obtain ⟨rfl, rfl⟩ := h; exact ⟨Nat.le_refl _, by simp, fun D => Nat.le_refl _⟩
 | u :: S, env, H, h => by
  obtain ⟨rfl, rfl, c, d⟩ := h
  obtain ⟨e, f, g⟩ := Z5 d
  have l := st_len c
  refine ⟨by omega, ?_, ?_⟩
  ·intro s hs
   rcases List.mem_cons.1 hs with rfl | hs
   ·exact ⟨Nat.le_refl _, c⟩
   have := f s hs; exact ⟨by omega, this.2⟩
  intro D
  unfold hp
  split
  ·exact Nat.le_refl _
  have := g D; omega
theorem hp_congr {D D' : Nat → Bool} : ∀ {S : List St} {H : Ze}, (∀ s, s ∈ S → Yt s.it = true → D s.i = D' s.i) → hp D S H = hp D' S H
 | [], H, _ => rfl
 | s :: S, H, h => by
  unfold hp
  rw [hp_congr (fun u hu => h u (List.mem_cons_of_mem _ hu))]
  by_cases ht : Yt s.it = true
  ·rw [h s (List.mem_cons_self ..) ht]
  simp [ht]
theorem Qy {D : Nat → Bool} {s : St} {B : List St} {env' : VEnv} {H' : Ze} : ∀ {A : List St} {env : VEnv} {H : Ze}, QV C call ops env H (A ++ s :: B) env' H' →
  (∃ u, u ∈ A ∧ Yt u.it = true ∧ D u.i = false ∧ hp D (A ++ s :: B) H = u.H) ∨ ((∀ u, u ∈ A → Yt u.it = true → D u.i = true) ∧ hp D (A ++ s :: B) H = hp D (s :: B) s.H)
 | [], env, H, h => by obtain ⟨rfl, rfl, _⟩ := h; exact .inr ⟨by simp, rfl⟩
 | u :: A, env, H, h => by
  obtain ⟨_, rfl, c, d⟩ := h
  by_cases ht : Yt u.it = true ∧ D u.i = false
  ·exact .inl ⟨u, List.mem_cons_self .., ht.1, ht.2, by simp [hp, ht]⟩
  have e : hp D (u :: A ++ s :: B) u.H = hp D (A ++ s :: B) u.H' := by simp only [List.cons_append, hp]; rw [if_neg ht]
  rw [e]
  rcases Qy (D := D) d with ⟨x, hx, h1, h2, h3⟩ | ⟨h1, h2⟩
  ·exact .inl ⟨x, List.mem_cons_of_mem _ hx, h1, h2, h3⟩
  refine .inr ⟨fun x hx hxt => ?_, h2⟩
  rcases List.mem_cons.1 hx with rfl | hx
  ·cases hD : D x.i with
   | true => rfl
   | false => exact absurd ⟨hxt, hD⟩ ht
  exact h1 x hx hxt
theorem st_new {P : Program} (hT : TOk P C.T) {s : St} (h : StOk C call ops s) (ht : Yt s.it = false) : ∃ X, s.H' = s.H ++ X := by
 rcases Qs h with ⟨_, _, e, _⟩ | ⟨_, _, hc, hv, _⟩ | ⟨_, _, hc, hv, _⟩ | ⟨_, _, hc, hv, _⟩ | e
 ·exact ⟨[], by simp [e]⟩
 ·exact ⟨[], by simp [(vop_calm hv hc).1]⟩
 ·exact ⟨[], by simp [(Zb7 hv hc).1]⟩
 ·obtain ⟨k, e⟩ := vop_grow hT hv hc; exact ⟨[k], e⟩
 rw [e] at ht; simp [Yt] at ht
theorem hp_ext {P : Program} (hT : TOk P C.T) {D : Nat → Bool} {env' : VEnv} {H' : Ze} : ∀ {B : List St} {env : VEnv} {H : Ze}, QV C call ops env H B env' H' → (∀ u, u ∈ B → Yt u.it = true → D u.i = false) →
  ∃ X, hp D B H = H ++ X
 | [], env, H, h, _ => ⟨[], by simp [hp]⟩
 | u :: B, env, H, h, hd => by
  obtain ⟨_, rfl, c, d⟩ := h
  unfold hp
  split
  ·exact ⟨[], by simp⟩
  rename_i hn
  have ht : Yt u.it = false := by
   cases ht : Yt u.it with
   | false => rfl
   | true => exact absurd ⟨ht, hd u (List.mem_cons_self ..) ht⟩ hn
  obtain ⟨X, hX⟩ := st_new hT c ht
  obtain ⟨Y, hY⟩ := hp_ext hT d (fun x hx => hd x (List.mem_cons_of_mem _ hx))
  exact ⟨X ++ Y, by rw [hY, hX, List.append_assoc]⟩
theorem JA {s : St} (h : StOk C call ops s) (ht : Yt s.it = true) : s.it = .turn s.H s.H' := by
 rcases Qs h with ⟨_, _, _, e⟩ | ⟨_, _, _, _, e⟩ | ⟨_, _, _, _, e⟩ | ⟨_, _, _, _, e⟩ | e
 ·rw [e] at ht; simp [Yt] at ht
 ·rw [e] at ht; simp [Yt] at ht
 ·rw [e] at ht; simp [Yt] at ht
 ·rw [e] at ht; simp [Yt] at ht
 exact e
theorem hp_keep {P : Program} (hT : TOk P C.T) {D : Nat → Bool} {env' : VEnv} {H' : Ze} (φ : Ze → Prop) (happ : ∀ G X, φ G → φ (G ++ X)) : ∀ {B : List St} {env : VEnv} {H : Ze}, QV C call ops env H B env' H' →
  (∀ u, u ∈ B → Yt u.it = true → D u.i = true → φ u.H → φ u.H') → φ H → φ (hp D B H)
 | [], env, H, h, _, hH => hH
 | u :: B, env, H, h, hd, hH => by
  obtain ⟨_, rfl, c, d⟩ := h
  unfold hp
  split
  ·exact hH
  rename_i hn
  refine hp_keep hT φ happ d (fun x hx => hd x (List.mem_cons_of_mem _ hx)) ?_
  cases ht : Yt u.it with
  | false =>
   obtain ⟨X, hX⟩ := st_new hT c ht
   rw [hX]; exact happ _ _ hH
  | true =>
   cases hD : D u.i with
   | false => exact absurd ⟨ht, hD⟩ hn
   | true => exact hd u (List.mem_cons_self ..) ht hD hH
theorem Zcy {D : Nat → Bool} {env' : VEnv} {H' : Ze} : ∀ {B : List St} {env : VEnv} {H : Ze}, QV C call ops env H B env' H' → (∀ u, u ∈ B → D u.i = true) → hp D B H = H' ∧ ev D B env = env'
 | [], env, H, h, _ => by obtain ⟨rfl, rfl⟩ := h; exact ⟨rfl, rfl⟩
 | u :: B, env, H, h, hd => by
  obtain ⟨rfl, rfl, c, d⟩ := h
  have hu := hd u (List.mem_cons_self ..)
  have := Zcy d (fun x hx => hd x (List.mem_cons_of_mem _ hx))
  unfold hp ev
  rw [if_neg (by simp [hu]), if_pos hu]
  exact this
theorem put_get (e e' : VEnv) (dst : Option Nat) (v : VVal) (t : Nat) (h : e[t]? = e'[t]?) : (e.put dst v)[t]? = (e'.put dst v)[t]? := by
 cases dst with
 | none => exact h
 | some d =>
  simp only [VEnv.put, List.getElem?_set]
  by_cases hd : d = t
  ·subst hd
   rw [if_pos rfl, if_pos rfl]
   have : d < e.length ↔ d < e'.length := by
    constructor <;> intro hl
    ·rw [List.getElem?_eq_getElem hl] at h; exact (List.getElem?_eq_some_iff.1 h.symm).1
    rw [List.getElem?_eq_getElem hl] at h; exact (List.getElem?_eq_some_iff.1 h).1
   by_cases hl : d < e.length
   ·rw [if_pos hl, if_pos (this.1 hl)]
   rw [if_neg hl, if_neg (fun x => hl (this.2 x))]
  rw [if_neg hd, if_neg hd]; exact h
theorem ZaW (e : VEnv) (dst : Option Nat) (v : VVal) (t : Nat) (h : dst ≠ some t) : (e.put dst v)[t]? = e[t]? := by
 cases dst with
 | none => rfl
 | some d => simp only [VEnv.put, List.getElem?_set]; rw [if_neg (by intro x; exact h (by rw [x]))]
theorem ev_agree {t : Nat} {D : Nat → Bool} : ∀ {A : List St} {e e' : VEnv}, (∀ u, u ∈ A → u.o.dst = some t → D u.i = true) → e[t]? = e'[t]? → (ev D A e)[t]? = (ev (fun _ => true) A e')[t]?
 | [], e, e', _, h => h
 | u :: A, e, e', hd, h => by
  unfold ev
  refine ev_agree (fun x hx => hd x (List.mem_cons_of_mem _ hx)) ?_
  rw [if_pos rfl]
  by_cases ht : u.o.dst = some t
  ·rw [if_pos (hd u (List.mem_cons_self ..) ht)]; exact put_get _ _ _ _ _ h
  rw [ZaW _ _ _ _ ht]
  split
  ·rw [ZaW _ _ _ _ ht]; exact h
  exact h
theorem ev_still {t : Nat} {D : Nat → Bool} : ∀ {B : List St} {e : VEnv}, (∀ u, u ∈ B → u.o.dst = some t → D u.i = false) → (ev D B e)[t]? = e[t]?
 | [], e, _ => rfl
 | u :: B, e, hd => by
  unfold ev
  rw [ev_still (fun x hx => hd x (List.mem_cons_of_mem _ hx))]
  by_cases ht : u.o.dst = some t
  ·rw [if_neg (by rw [hd u (List.mem_cons_self ..) ht]; simp)]
  split
  ·rw [ZaW _ _ _ _ ht]
  rfl
theorem Zcm {D D' : Nat → Bool} : ∀ {B : List St} {e : VEnv}, (∀ u, u ∈ B → D u.i = D' u.i) → ev D B e = ev D' B e
 | [], e, _ => rfl
 | u :: B, e, hd => by
  unfold ev
  rw [Zcm (fun x hx => hd x (List.mem_cons_of_mem _ hx)), hd u (List.mem_cons_self ..)]
theorem Js {D : Nat → Bool} : ∀ {A B : List St} {e : VEnv}, ev D (A ++ B) e = ev D B (ev D A e)
 | [], B, e => rfl
 | u :: A, B, e => by
  simp only [List.cons_append, ev]
  exact Js
theorem ev_put {D : Nat → Bool} {dst : Option Nat} {v : VVal} : ∀ {B : List St} {e : VEnv}, (∀ u, u ∈ B → D u.i = true → ∀ t, dst = some t → u.o.dst ≠ some t) → ev D B (e.put dst v) = (ev D B e).put dst v
 | [], e, _ => rfl
 | u :: B, e, hd => by
  unfold ev
  have : (if D u.i = true then (e.put dst v).put u.o.dst u.v else e.put dst v) = (if D u.i = true then e.put u.o.dst u.v else e).put dst v := by
   split
   ·rename_i h
    have hne := hd u (List.mem_cons_self ..) h
    cases dst with
    | none => rfl
    | some t =>
     cases hu : u.o.dst with
     | none => rfl
     | some t' =>
      simp only [VEnv.put]
      exact List.set_comm _ _ (fun x => hne t rfl (by rw [hu, x]))
   rfl
  rw [this]
  exact ev_put (fun x hx => hd x (List.mem_cons_of_mem _ hx))
theorem chain_env {env' : VEnv} {H' : Ze} {S : List St} {env : VEnv} {H : Ze} (h : QV C call ops env H S env' H') : ev (fun _ => true) S env = env' :=
 (Zcy h (fun _ _ => rfl)).2
end
open Go Go.RowKit
section
variable {P : Program} {w0 : World}
theorem Sim.extend {w : World} {ι : Inj} {H : Ze} (s : Sim w0 ι H w) (X : Ze) : Sim w0 ι (H ++ X) w := by
 refine ⟨s.below, s.frz, fun r arr b e k hz h g ho => ?_, fun b e h => ?_, fun b e k h g => ?_, fun b b' e e' k k' h h' g g' o o' hr => ?_⟩
 ·rw [List.getElem?_append_left (s.dom b e h)] at g; exact s.fo r arr b e k hz h g ho
 ·have := s.dom b e h; simp; omega
 ·rw [List.getElem?_append_left (s.dom b e h)] at g; exact s.blk b e k h g
 rw [List.getElem?_append_left (s.dom b e h)] at g
 rw [List.getElem?_append_left (s.dom b' e' h')] at g'
 exact s.inj b b' e e' k k' h h' g g' o o' hr
structure Run (C : Cfg) (call : Nat → YR) (ops : Array Oper) (bef : Nat → Nat) (env0 : VEnv) (H0 : Ze) (S : List St) (envF : VEnv) (HF : Ze) : Prop where
 chain : QV C call ops env0 H0 S envF HF
 pw : S.Pairwise fun x y => (bef x.i).testBit y.i = false ∧ ((bef y.i).testBit x.i = false → fine x.it y.it) ∧ x.i ≠ y.i
 slots : ∀ x, x ∈ S → ∀ y, y ∈ S → x.i ≠ y.i → ∀ t, x.o.dst = some t → t ∈ YM ops y.o → (bef y.i).testBit x.i = true ∨ (bef x.i).testBit y.i = true
def Cl (bef : Nat → Nat) (S : List St) (D : Nat → Bool) : Prop := ∀ u, u ∈ S → D u.i = true → ∀ m, (bef u.i).testBit m = true → D m = true
def Inv (w0 : World) (ι0 : Inj) (ds : List Deferred) (env0 : VEnv) (H0 : Ze) (S : List St) (D : Nat → Bool) (a : Act) (w : World) : Prop :=
 ∃ ι, Inj.ex H0.length ι0 ι ∧ Sim w0 ι (hp D S H0) w ∧ RelL ι (ev D S env0) a.tmps.toList ∧ a.defers = ds ∧ ∀ u, u ∈ S → D u.i = false → ∀ id, u.it = .grow id → ι id = none
def mark (D : Nat → Bool) (i : Nat) : Nat → Bool := fun j => j == i || D j
theorem ZcN {ops : Array Oper} {o : Oper} {t : Nat} (h : Operand.tmp t ∈ o.op.operands) : t ∈ YM ops o := by
 unfold YM
 refine List.mem_append_left _ (List.mem_append_right _ (List.mem_filterMap.2 ⟨.tmp t, by simpa using h, rfl⟩))
theorem ZcO {ops : Array Oper} {o : Oper} {t : Nat} (h : o.dst = some t) : t ∈ YM ops o := by
 unfold YM
 refine List.mem_append_left _ (List.mem_append_left _ (by simp [h]))
theorem Zbo {ops : Array Oper} {o : Oper} {j t : Nat} {b : Bool} (h : o.guard = some (j, b)) (hd : (ops[j]?).bind (·.dst) = some t) : t ∈ YM ops o := by
 unfold YM
 refine List.mem_append_right _ (by simp only [h, hd]; simp)
theorem Zdh {C : Cfg} (hC : CfgOk P C w0) {call : Nat → YR} (hv : ∀ i, CallSound P w0 (call i)) {ops : Array Oper} {bef : Nat → Nat} {env0 : VEnv} {H0 : Ze} {S : List St} {envF : VEnv} {HF : Ze} (R : Run C call ops bef env0 H0 S envF HF)
  {ι0 : Inj} {ds : List Deferred} {D : Nat → Bool} {a : Act} {w : World} (hI : Inv w0 ι0 ds env0 H0 S D a w) (hcl : Cl bef S D) {s : St} (hmem : s ∈ S) (hs : D s.i = false) (hb : ∀ m, (bef s.i).testBit m = true → D m = true)
  {ro : Option Nat} {n : Nat} {K : Act → World → Prop} {Q : Exit → Act → World → Prop} (hK : ∀ a' w', Inv w0 ι0 ds env0 H0 S (mark D s.i) a' w' → K a' w') :
  if Region.wanted s.o (yielded ops a.tmps) = true then s.o.wpIn (WF ro) n P a w K Q else (∀ f, s.o.about P w a.eval = some f → (WF ro).fn f) ∧ K (a.put s.o.dst undef) w := by
 obtain ⟨ι, hex, hsim, hrel, hds, hgr⟩ := hI
 obtain ⟨A, B, rfl⟩ := List.append_of_mem hmem
 obtain ⟨cA, okS, cB⟩ := Q6 R.chain
 have hpw := List.pairwise_append.1 R.pw
 have hpB := (List.pairwise_cons.1 hpw.2.1).1
 have hpA : ∀ u, u ∈ A → _ := fun u hu => hpw.2.2 u hu s (List.mem_cons_self ..)
 have inA : ∀ u, u ∈ A → u ∈ A ++ s :: B := fun u hu => List.mem_append_left _ hu
 have inB : ∀ u, u ∈ B → u ∈ A ++ s :: B := fun u hu => List.mem_append_right _ (List.mem_cons_of_mem _ hu)
 -- who wrote ahead
 have wrA : ∀ u, u ∈ A → ∀ t, u.o.dst = some t → t ∈ YM ops s.o → D u.i = true := by
  intro u hu t ht hn
  rcases R.slots u (inA u hu) s hmem (hpA u hu).2.2 t ht hn with h | h
  ·exact hb _ h
  rw [(hpA u hu).1] at h; cases h
 have wrB : ∀ u, u ∈ B → ∀ t, u.o.dst = some t → t ∈ YM ops s.o → D u.i = false := by
  intro u hu t ht hn
  rcases R.slots u (inB u hu) s hmem (Ne.symm (hpB u hu).2.2) t ht hn with h | h
  ·rw [(hpB u hu).1] at h; cases h
  cases hD : D u.i with
  | false => rfl
  | true => have := hcl u (inB u hu) hD _ h; rw [hs] at this; cases this
 have hslot : ∀ t, t ∈ YM ops s.o → (ev D (A ++ s :: B) env0)[t]? = s.env[t]? := by
  intro t ht
  rw [Js]
  have e1 : ev D (s :: B) (ev D A env0) = ev D B (ev D A env0) := by simp only [ev, hs]; simp
  rw [e1, ev_still (fun u hu h => wrB u hu t h ht), ev_agree (e' := env0) (fun u hu h => wrA u hu t h ht) rfl, chain_env cA]
 have hgetD : ∀ t, t ∈ YM ops s.o → s.env.getD t .skip = (ev D (A ++ s :: B) env0).getD t .skip := fun t ht => by
  rw [List.getD_eq_getElem?_getD, List.getD_eq_getElem?_getD, hslot t ht]
 have hρ : Ops ι s.env.eval a.eval s.o.op := by
  intro x hx
  have r := XB hrel x
  cases x with
  | tmp t =>
   simp only [VEnv.eval] at r ⊢
   rw [hgetD t (ZcN hx)]; exact r
  | const v => exact r
  | global g => exact r
  | func f => exact r
 have hg : ∀ j want d, s.o.guard = some (j, want) → (ops[j]?).bind (·.dst) = some d → Rel ι (s.env.getD d .skip) (a.tmps.getD d undef) := fun j want d h1 h2 => by
  rw [hgetD d (Zbo h1 h2)]; exact Qu hrel d
 -- behind the step: the slots
 have hev : ev (mark D s.i) (A ++ s :: B) env0 = (ev D (A ++ s :: B) env0).put s.o.dst s.v := by
  rw [Js, Js]
  have e0 : ev (mark D s.i) A env0 = ev D A env0 := Zcm fun u hu => by
   have := (hpA u hu).2.2
   simp [mark, this]
  rw [e0]
  simp only [ev, hs]
  have e1 : mark D s.i s.i = true := by simp [mark]
  rw [if_pos e1, if_neg (by simp)]
  have e2 : ∀ e, ev (mark D s.i) B e = ev D B e := fun e => Zcm fun u hu => by
   have := (hpB u hu).2.2
   simp [mark, Ne.symm this]
  rw [e2]
  refine ev_put fun u hu hD t ht hut => ?_
  have := wrB u hu t hut (ZcO ht)
  rw [hD] at this; cases this
 have hlen0 : H0.length ≤ (hp D (A ++ s :: B) H0).length := (Z5 R.chain).2.2 D
 have hD' : ∀ u, u ∈ A ++ s :: B → mark D s.i u.i = false → D u.i = false ∧ u.i ≠ s.i := fun u hu h => by
  simp only [mark, Bool.or_eq_false_iff, beq_eq_false_iff_ne] at h; exact ⟨h.2, h.1⟩
 have hmarkA : ∀ u, u ∈ A → mark D s.i u.i = D u.i := fun u hu => by have := (hpA u hu).2.2; simp [mark, this]
 have hmarkB : ∀ u, u ∈ B → mark D s.i u.i = D u.i := fun u hu => by have := (hpB u hu).2.2; simp [mark, Ne.symm this]
 have same : Yt s.it = false → hp (mark D s.i) (A ++ s :: B) H0 = hp D (A ++ s :: B) H0 := fun ht => hp_congr fun u hu hut => by
  rcases List.mem_append.1 hu with hu | hu
  ·exact hmarkA u hu
  rcases List.mem_cons.1 hu with rfl | hu
  ·rw [ht] at hut; cases hut
  exact hmarkB u hu
 have hgrow_it : ∀ u, u ∈ A ++ s :: B → ∀ id, u.it = .grow id → id = u.H.length ∧ u.H'.length = u.H.length + 1 := by
  intro u hu id hid
  rcases Qs ((Z5 R.chain).2.1 u hu).2 with ⟨_, _, _, e⟩ | ⟨_, _, _, _, e⟩ | ⟨_, _, _, _, e⟩ | ⟨_, _, hc, hvv, e⟩ | e
  ·rw [e] at hid; cases hid
  ·rw [e] at hid; cases hid
  ·rw [e] at hid; cases hid
  ·rw [e] at hid; cases hid
   obtain ⟨kk, ek⟩ := vop_grow hC.tys hvv hc
   exact ⟨rfl, by rw [ek]; simp⟩
  rw [e] at hid; cases hid
 have lenA : ∀ u, u ∈ A → u.H'.length ≤ s.H.length := by
  intro u hu
  obtain ⟨A1, A2, rfl⟩ := List.append_of_mem hu
  have := (Q6 cA).2.2
  exact (Z5 this).1
 have lenB : ∀ u, u ∈ B → s.H'.length ≤ u.H.length := fun u hu => ((Z5 cB).2.1 u hu).1
 -- the heap as it is: a look at it, or none
 have calmK : ∀ {it'}, Yt s.it = false → YL C.T C.meth (call s.i) ops s.o s.env (hp D (A ++ s :: B) H0) = some (s.v, hp D (A ++ s :: B) H0, it') →
   (∀ id, s.it ≠ .grow id) →
   (if Region.wanted s.o (yielded ops a.tmps) = true then s.o.wpIn (WF ro) n P a w K Q else (∀ f, s.o.about P w a.eval = some f → (WF ro).fn f) ∧ K (a.put s.o.dst undef) w) := by
  intro it' ht hrun hng
  refine op_any hC (hv s.i) hrun hsim hρ hg (fun x w' ι' e1 s1 r1 => hK _ _ ⟨ι', Inj.ex_trans hex e1 hlen0, ?_, ?_, (Xa _ _ _).trans hds, ?_⟩)
  ·rw [same ht]; exact s1
  ·rw [hev]; exact QK (RelL.mono (hsim.le e1) _ _ hrel) _ r1
  intro u hu hDu id hid
  have h0 := hgr u hu (hD' u hu hDu).1 id hid
  by_cases hlt : id < (hp D (A ++ s :: B) H0).length
  ·rw [e1.1 id hlt]; exact h0
  cases hx : ι' id with
  | none => rfl
  | some e => exact absurd (s1.dom id e hx) hlt
 rcases Qs okS with ⟨hw, hsv, hH, hit⟩ | ⟨hw, hcal, hc, hop, hit⟩ | ⟨hw, hcal, hc, hop, hit⟩ | ⟨hw, hcal, hc, hop, hit⟩ | hit
 ·-- passed over
  refine calmK (it' := .calm) (by rw [hit]; rfl) ?_ (fun id => by rw [hit]; simp)
  unfold YL
  rw [hw, hsv]
 ·-- calm
  refine calmK (it' := X0 C.T s.o.op s.env.eval s.v (hp D (A ++ s :: B) H0) (hp D (A ++ s :: B) H0)) (by rw [hit]; rfl) ?_ (fun id => by rw [hit]; simp)
  unfold YL
  simp only [hw, hcal, (vop_calm hop hc).2]
 ·-- a look
  have hlook : vop C.T s.env.eval (hp D (A ++ s :: B) H0) s.o.op = some (s.v, hp D (A ++ s :: B) H0) := by
   rcases Qy (D := D) R.chain with ⟨u, hu, hut, hDu, he⟩ | ⟨hall, he⟩
   ·have hf := (hpA u hu).2.1 (by
     cases hbit : (bef s.i).testBit u.i with
     | false => rfl
     | true => have := hb _ hbit; rw [hDu] at this; cases this)
    rw [JA ((Z5 R.chain).2.1 u (inA u hu)).2 hut, hit] at hf
    rw [he]
    exact hf.1
   rw [he]
   have e1 : hp D (s :: B) s.H = hp D B s.H' := by simp only [hp]; rw [if_neg (by rw [hit]; simp [Yt])]
   rw [e1]
   refine hp_keep hC.tys (fun G => vop C.T s.env.eval G s.o.op = some (s.v, G)) (fun G X hG => (Zb7 hG hc).2 X) cB ?_ ?_
   ·intro u hu hut hDu hφ
    have hf := (hpB u hu).2.1 (by
     cases hbit : (bef u.i).testBit s.i with
     | false => rfl
     | true => have := hcl u (inB u hu) hDu _ hbit; rw [hs] at this; cases this)
    rw [JA ((Z5 R.chain).2.1 u (inB u hu)).2 hut, hit] at hf
    exact hf.2
   have := (Zb7 hop hc).1
   rw [this] at hop ⊢; exact hop
  refine calmK (it' := X0 C.T s.o.op s.env.eval s.v (hp D (A ++ s :: B) H0) (hp D (A ++ s :: B) H0)) (by rw [hit]; rfl) ?_ (fun id => by rw [hit]; simp)
  unfold YL
  simp only [hw, hcal, hlook]
 ·-- a new block
  have hright : hp D (A ++ s :: B) H0 = hp D (s :: B) s.H := by
   rcases Qy (D := D) R.chain with ⟨u, hu, hut, hDu, he⟩ | ⟨hall, he⟩
   ·exfalso
    have hf := (hpA u hu).2.1 (by
     cases hbit : (bef s.i).testBit u.i with
     | false => rfl
     | true => have := hb _ hbit; rw [hDu] at this; cases this)
    rw [JA ((Z5 R.chain).2.1 u (inA u hu)).2 hut, hit] at hf
    exact hf
   exact he
  have e1 : hp D (s :: B) s.H = hp D B s.H' := by simp only [hp]; rw [if_neg (by rw [hit]; simp [Yt])]
  obtain ⟨kk, hk, _, hrun⟩ := Zci (ρ' := a.eval) hC.tys hop hc
  have hat : (hp D (A ++ s :: B) H0)[s.H.length]? = some kk := by
   rw [hright, e1]
   refine hp_keep hC.tys (fun G => G[s.H.length]? = some kk) (fun G X hG => Zn hG) cB ?_ (by rw [hk]; simp)
   intro u hu hut hDu hφ
   have hf := (hpB u hu).2.1 (by
    cases hbit : (bef u.i).testBit s.i with
    | false => rfl
    | true => have := hcl u (inB u hu) hDu _ hbit; rw [hs] at this; cases this)
   rw [JA ((Z5 R.chain).2.1 u (inB u hu)).2 hut, hit] at hf
   simp only [fine] at hf
   rw [hf]; exact hφ
  have hnone : ι s.H.length = none := hgr s hmem hs _ hit
  obtain ⟨x, obj, lim, hx, hh⟩ := hrun ι w hρ
  have hle : ι.le (ι.ext s.H.length ⟨w.heap.size, 0, lim⟩) := by
   refine ⟨fun c e' h => ?_, fun _ _ h => h⟩
   rw [Inj.ext_m]
   by_cases hc' : c = s.H.length
   ·subst hc'; rw [hnone] at h; cases h
   rw [if_neg hc']; exact h
  have hh := hh (ι.ext s.H.length ⟨w.heap.size, 0, lim⟩) hle (by simp [Inj.ext])
  rw [QG hw hg, if_pos rfl]
  refine ⟨fun _ _ => trivial, ?_⟩
  rw [Oper.semAt_eq _ _ _ (fun c => Zak hop c), hx]
  refine hK _ _ ⟨ι.ext s.H.length ⟨w.heap.size, 0, lim⟩, ?_, ?_, ?_, (Xa _ _ _).trans hds, ?_⟩
  ·have : H0.length ≤ s.H.length := ((Z5 R.chain).2.1 s hmem).1
   exact Inj.ex_trans hex (Zag ι s.H.length _) this
  ·rw [same (by rw [hit]; rfl)]
   refine hsim.fill hnone hat (hsim.below.alloc hsim.below.size _) (fun i hi => ?_) rfl (hh.2 w0 _ hsim.below.size (World.alloc_heap_new w obj))
   show (w.heap.push obj)[i]? = _
   rw [Array.getElem?_push, if_neg (by omega)]
  ·rw [hev]; exact QK (RelL.mono hle _ _ hrel) _ hh.1
  intro u hu hDu id hid
  have h0 := hgr u hu (hD' u hu hDu).1 id hid
  have hidu := hgrow_it u hu id hid
  have hids := hgrow_it s hmem _ hit
  have hne : id ≠ s.H.length := by
   rcases List.mem_append.1 hu with hu' | hu'
   ·have := lenA u hu'; omega
   rcases List.mem_cons.1 hu' with rfl | hu'
   ·exact absurd rfl (hD' u hu hDu).2
   have := lenB u hu'; omega
  rw [Inj.ext_m, if_neg hne]; exact h0
 -- a turn
 have hut : Yt s.it = true := by rw [hit]; rfl
 have hallA : ∀ u, u ∈ A → Yt u.it = true → D u.i = true := by
  rcases Qy (D := D) R.chain with ⟨u, hu, hut', hDu, he⟩ | ⟨hall, he⟩
  ·exfalso
   have hf := (hpA u hu).2.1 (by
    cases hbit : (bef s.i).testBit u.i with
    | false => rfl
    | true => have := hb _ hbit; rw [hDu] at this; cases this)
   rw [JA ((Z5 R.chain).2.1 u (inA u hu)).2 hut', hit] at hf
   exact hf
  exact hall
 have hH : hp D (A ++ s :: B) H0 = s.H := by
  rcases Qy (D := D) R.chain with ⟨u, hu, hut', hDu, he⟩ | ⟨hall, he⟩
  ·rw [hallA u hu hut'] at hDu; cases hDu
  rw [he]; simp only [hp]; rw [if_pos ⟨hut, hs⟩]
 have hturnB : ∀ u, u ∈ B → Yt u.it = true → D u.i = false := by
  intro u hu hut'
  cases hD : D u.i with
  | false => rfl
  | true =>
   exfalso
   have hf := (hpB u hu).2.1 (by
    cases hbit : (bef u.i).testBit s.i with
    | false => rfl
    | true => have := hcl u (inB u hu) hD _ hbit; rw [hs] at this; cases this)
   rw [JA ((Z5 R.chain).2.1 u (inB u hu)).2 hut', hit] at hf
   exact hf
 rw [hH] at hsim
 refine op_any hC (hv s.i) okS.2.1 hsim hρ hg (fun x w' ι' e1 s1 r1 => hK _ _ ⟨ι', Inj.ex_trans hex e1 ((Z5 R.chain).2.1 s hmem).1, ?_, ?_, (Xa _ _ _).trans hds, ?_⟩)
 ·have e2 : hp (mark D s.i) (A ++ s :: B) H0 = hp (mark D s.i) B s.H' := by
   rcases Qy (D := mark D s.i) R.chain with ⟨u, hu, hut', hDu, he⟩ | ⟨hall, he⟩
   ·rw [hmarkA u hu, hallA u hu hut'] at hDu; cases hDu
   rw [he]; simp only [hp]; rw [if_neg (by simp [mark])]
  obtain ⟨X, hX⟩ := hp_ext (D := mark D s.i) hC.tys cB (fun u hu hut' => by rw [hmarkB u hu]; exact hturnB u hu hut')
  rw [e2, hX]
  exact s1.extend X
 ·rw [hev]; exact QK (RelL.mono (hsim.le e1) _ _ hrel) _ r1
 intro u hu hDu id hid
 have h0 := hgr u hu (hD' u hu hDu).1 id hid
 have hidu := hgrow_it u hu id hid
 rcases List.mem_append.1 hu with hu' | hu'
 ·have := lenA u hu'
  rw [e1.1 id (by omega)]; exact h0
 rcases List.mem_cons.1 hu' with rfl | hu'
 ·exact absurd rfl (hD' u hu hDu).2
 have := lenB u hu'
 cases hx : ι' id with
 | none => rfl
 | some e => have := s1.dom id e hx; omega
end
open Go Go.RowKit
section
variable {P : Program} {w0 : World}
theorem Q4 {D : Nat → Bool} : ∀ {S : List St}, (∃ s, s ∈ S ∧ D s.i = false) → ∃ A s B, S = A ++ s :: B ∧ (∀ u, u ∈ A → D u.i = true) ∧ D s.i = false
 | [], h => by obtain ⟨s, hs, _⟩ := h; cases hs
 | x :: S, h => by
  cases hx : D x.i with
  | false => exact ⟨[], x, S, rfl, by simp, hx⟩
  | true =>
   obtain ⟨s, hs, hD⟩ := h
   rcases List.mem_cons.1 hs with rfl | hs
   ·rw [hx] at hD; cases hD
   obtain ⟨A, s, B, e, f, g⟩ := Q4 ⟨s, hs, hD⟩
   refine ⟨x :: A, s, B, by rw [e]; rfl, fun u hu => ?_, g⟩
   rcases List.mem_cons.1 hu with rfl | hu
   ·exact hx
   exact f u hu
theorem count_le {p q : St → Bool} : ∀ {S : List St}, (∀ s, s ∈ S → p s = true → q s = true) → S.countP p ≤ S.countP q
 | [], _ => Nat.le_refl _
 | x :: S, h => by
  have := count_le (fun s hs => h s (List.mem_cons_of_mem _ hs))
  rw [List.countP_cons, List.countP_cons]
  by_cases hp : p x = true
  ·rw [if_pos hp, if_pos (h x (List.mem_cons_self ..) hp)]; omega
  rw [if_neg hp]; omega
theorem count_lt {p q : St → Bool} : ∀ {S : List St}, (∀ s, s ∈ S → p s = true → q s = true) → (∃ s, s ∈ S ∧ p s = false ∧ q s = true) → S.countP p < S.countP q
 | [], _, h => by obtain ⟨s, hs, _⟩ := h; cases hs
 | x :: S, h, hx => by
  obtain ⟨s, hs, h1, h2⟩ := hx
  rw [List.countP_cons, List.countP_cons]
  rcases List.mem_cons.1 hs with rfl | hs
  ·have := count_le (fun s hs => h s (List.mem_cons_of_mem _ hs))
   rw [if_neg (by simp [h1]), if_pos h2]; omega
  have := count_lt (fun s hs => h s (List.mem_cons_of_mem _ hs)) ⟨s, hs, h1, h2⟩
  by_cases hp : p x = true
  ·rw [if_pos hp, if_pos (h x (List.mem_cons_self ..) hp)]; omega
  rw [if_neg hp]; omega
structure Edges (ops : Array Oper) (bef : Nat → Nat) (S : List St) : Prop where
 all : ∀ i, i < ops.size → ∃ s, s ∈ S ∧ s.i = i
 edge : ∀ s, s ∈ S → ∀ e, e ∈ s.o.after → Region.binds .any e = true → (bef s.i).testBit e.on = true ∧ e.on < ops.size
 back : ∀ s, s ∈ S → ∀ m, (bef s.i).testBit m = true → ∃ e, e ∈ s.o.after ∧ Region.binds .any e = true ∧ (e.on = m ∨ (bef e.on).testBit m = true)
 self : ∀ s, s ∈ S → (bef s.i).testBit s.i = false
theorem draw_all {C : Cfg} (hC : CfgOk P C w0) {call : Nat → YR} (hv : ∀ i, CallSound P w0 (call i)) {ops : Array Oper} {bef : Nat → Nat} {env0 : VEnv} {H0 : Ze} {S : List St} {envF : VEnv} {HF : Ze} (R : Run C call ops bef env0 H0 S envF HF)
  (E : Edges ops bef S) {ι0 : Inj} {ds : List Deferred} {ro : Option Nat} {n : Nat} {Q : Exit → Act → World → Prop}
  (hQ : ∀ a' w' ι', a'.defers = ds → Inj.ex H0.length ι0 ι' → Sim w0 ι' HF w' → RelL ι' envF a'.tmps.toList → Q .normal a' w') :
  ∀ (fuel : Nat) (listed : Array Bool) (a : Act) (w : World), listed.size = ops.size → S.countP (fun s => !listed.getD s.i false) ≤ fuel → Inv w0 ι0 ds env0 H0 S (fun i => listed.getD i false) a w → Cl bef S (fun i => listed.getD i false) →
   wpAnyIn (WF ro) n P .any ops Q fuel listed a w := by
 have okS : ∀ s, s ∈ S → StOk C call ops s := fun s hs => ((Z5 R.chain).2.1 s hs).2
 have done : ∀ (listed : Array Bool) (a : Act) (w : World), (∀ s, s ∈ S → listed.getD s.i false = true) → Inv w0 ι0 ds env0 H0 S (fun i => listed.getD i false) a w → Q .normal a w := by
  intro listed a w hall hI
  obtain ⟨ι, hex, hsim, hrel, hds, _⟩ := hI
  obtain ⟨e1, e2⟩ := Zcy R.chain (D := fun i => listed.getD i false) hall
  rw [e1] at hsim
  rw [e2] at hrel
  exact hQ a w ι hds hex hsim hrel
 have sz : ∀ {listed : Array Bool} {i : Nat}, listed.size = ops.size → i < ops.size → listed.getD i true = listed.getD i false := by
  intro listed i h1 h2
  rw [Array.getD_eq_getD_getElem?, Array.getD_eq_getD_getElem?, Array.getElem?_eq_getElem (by omega)]; rfl
 have lt : ∀ s, s ∈ S → s.i < ops.size := fun s hs => (Array.getElem?_eq_some_iff.1 (okS s hs).1).1
 have nil_all : ∀ (listed : Array Bool), listed.size = ops.size → Region.ready .any ops listed = [] → ∀ s, s ∈ S → listed.getD s.i false = true := by
  intro listed hsz hnil s hs
  cases hD : listed.getD s.i false with
  | true => rfl
  | false =>
   exfalso
   obtain ⟨A, u, B, rfl, hA, hu⟩ := Q4 (D := fun i => listed.getD i false) ⟨s, hs, hD⟩
   have humem : u ∈ A ++ u :: B := List.mem_append_right _ (List.mem_cons_self ..)
   have hpw := List.pairwise_append.1 R.pw
   have hpB := (List.pairwise_cons.1 hpw.2.1).1
   have : u.i ∈ Region.ready .any ops listed := by
    rw [mem_ready]
    refine ⟨by rw [sz hsz (lt u humem)]; exact hu, u.o, (okS u humem).1, fun e he hb => ?_⟩
    obtain ⟨hbit, hlt⟩ := E.edge u humem e he hb
    obtain ⟨x, hx, hxi⟩ := E.all e.on hlt
    rcases List.mem_append.1 hx with hx | hx
    ·rw [← hxi]; exact hA x hx
    rcases List.mem_cons.1 hx with rfl | hx
    ·rw [← hxi, E.self x humem] at hbit; cases hbit
    rw [← hxi, (hpB x hx).1] at hbit; cases hbit
   rw [hnil] at this; cases this
 intro fuel
 induction fuel with
 | zero =>
  intro listed a w hsz hcnt hI hcl
  have hall : ∀ s, s ∈ S → listed.getD s.i false = true := by
   intro s hs
   have h0 : S.countP (fun s => !listed.getD s.i false) = 0 := by omega
   have := List.countP_eq_zero.1 h0 s hs
   simpa using this
  refine ⟨?_, done listed a w hall hI⟩
  cases hr : Region.ready .any ops listed with
  | nil => rfl
  | cons i rest =>
   have hi : i ∈ Region.ready .any ops listed := by rw [hr]; exact List.mem_cons_self ..
   obtain ⟨hun, o, ho, _⟩ := mem_ready.1 hi
   obtain ⟨s, hs, hsi⟩ := E.all i (Array.getElem?_eq_some_iff.1 ho).1
   have := hall s hs
   rw [hsi, ← sz hsz (Array.getElem?_eq_some_iff.1 ho).1, hun] at this
   cases this
 | succ fuel ih =>
  intro listed a w hsz hcnt hI hcl
  refine ⟨fun hnil => done listed a w (nil_all listed hsz hnil) hI, fun i hi => ?_⟩
  obtain ⟨hun, o, ho, hall⟩ := mem_ready.1 hi
  have hlt := (Array.getElem?_eq_some_iff.1 ho).1
  obtain ⟨s, hs, hsi⟩ := E.all i hlt
  subst hsi
  have hso : s.o = o := by have := (okS s hs).1; rw [ho] at this; cases this; rfl
  subst hso
  have hDs : listed.getD s.i false = false := by rw [← sz hsz hlt]; exact hun
  have hb : ∀ m, (bef s.i).testBit m = true → listed.getD m false = true := by
   intro m hm
   obtain ⟨e, he, hbd, h⟩ := E.back s hs m hm
   have hon := hall e he hbd
   rcases h with rfl | h
   ·exact hon
   obtain ⟨x, hx, hxi⟩ := E.all e.on (E.edge s hs e he hbd).2
   exact hcl x hx (by rw [hxi]; exact hon) m (by rw [hxi]; exact h)
  have hmark : ∀ j, (listed.setIfInBounds s.i true).getD j false = mark (fun i => listed.getD i false) s.i j := by
   intro j
   rw [Array.getD_eq_getD_getElem?, Array.getElem?_setIfInBounds]
   simp only [mark]
   by_cases hj : s.i = j
   ·subst hj; simp [hsz, hlt]
   rw [if_neg hj]
   have : (j == s.i) = false := by simp; exact fun h => hj h.symm
   rw [this, Bool.false_or, Array.getD_eq_getD_getElem?]
  unfold wpOpIn
  rw [ho]
  refine Zdh hC hv R hI hcl hs hDs hb (fun a' w' hI' => ?_)
  have hfun : (fun i => (listed.setIfInBounds s.i true).getD i false) = mark (fun i => listed.getD i false) s.i := funext hmark
  refine ih _ a' w' (by simp [hsz]) ?_ (by rw [hfun]; exact hI') ?_
  ·have : S.countP (fun u => !(listed.setIfInBounds s.i true).getD u.i false) < S.countP (fun u => !listed.getD u.i false) := by
    refine count_lt (fun u hu h => ?_) ⟨s, hs, by rw [hmark]; simp [mark], by simp [hDs]⟩
    rw [hmark] at h
    simp only [mark, Bool.not_eq_true', Bool.or_eq_false_iff] at h ⊢
    exact h.2
   omega
  rw [hfun]
  intro u hu hDu m hm
  by_cases hui : u.i = s.i
  ·rw [hui] at hm
   have := hb m hm
   simp [mark, this]
  have h0 : listed.getD u.i false = true := by
   simp only [mark, Bool.or_eq_true, beq_iff_eq] at hDu
   rcases hDu with h | h
   ·exact absurd h hui
   exact h
  have := hcl u hu h0 m hm
  simp only at this
  simp [mark, this]
theorem J4 {bef : Array Nat} : ∀ {l : List (Nat × Item')}, JF bef l → l.Pairwise fun x y => (bef.getD y.1 0).testBit x.1 = false → fine x.2 y.2
 | [], _ => .nil
 | x :: l, h => .cons (fun y hy => h.1 y hy) (J4 h.2)
theorem JX {bef : Array Nat} : ∀ {l : List Nat}, ZaG bef l = true → (l.Pairwise fun x y => (bef.getD x 0).testBit y = false ∧ x ≠ y) ∧ ∀ x, x ∈ l → (bef.getD x 0).testBit x = false
 | [], _ => ⟨.nil, by simp⟩
 | x :: l, h => by
  simp only [ZaG, Bool.and_eq_true, List.all_eq_true, Bool.not_eq_true'] at h
  obtain ⟨⟨⟨h1, h2⟩, h3⟩, h4⟩ := h
  obtain ⟨i1, i2⟩ := JX h4
  refine ⟨.cons (fun y hy => ⟨h1 y hy, fun e => ?_⟩) i1, fun y hy => ?_⟩
  ·subst e
   have : l.contains x = true := by simpa using hy
   rw [h3] at this; cases this
  rcases List.mem_cons.1 hy with rfl | hy
  ·exact h2
  exact i2 y hy
theorem Qn (bef : Array Nat) (m : Nat) : ∀ (l : List Edge) (s : Nat),
  (l.foldl (fun s e => if Region.binds .any e then s ||| 2 ^ e.on ||| bef.getD e.on 0 else s) s).testBit m = true ↔ s.testBit m = true ∨ ∃ e, e ∈ l ∧ Region.binds .any e = true ∧ (e.on = m ∨ (bef.getD e.on 0).testBit m = true)
 | [], s => by simp
 | e :: l, s => by
  rw [List.foldl_cons, Qn bef m l]
  by_cases hb : Region.binds .any e = true
  ·rw [if_pos hb]
   simp only [Nat.testBit_or, Bool.or_eq_true, Nat.testBit_two_pow, decide_eq_true_eq]
   constructor
   ·rintro (((h | h) | h) | ⟨e', he', h⟩)
    ·exact .inl h
    ·exact .inr ⟨e, List.mem_cons_self .., hb, .inl h⟩
    ·exact .inr ⟨e, List.mem_cons_self .., hb, .inr h⟩
    exact .inr ⟨e', List.mem_cons_of_mem _ he', h⟩
   rintro (h | ⟨e', he', hb', h⟩)
   ·exact .inl (.inl (.inl h))
   rcases List.mem_cons.1 he' with rfl | he'
   ·rcases h with h | h
    ·exact .inl (.inl (.inr h))
    exact .inl (.inr h)
   exact .inr ⟨e', he', hb', h⟩
  rw [if_neg hb]
  constructor
  ·rintro (h | ⟨e', he', h⟩)
   ·exact .inl h
   exact .inr ⟨e', List.mem_cons_of_mem _ he', h⟩
  rintro (h | ⟨e', he', hb', h⟩)
  ·exact .inl h
  rcases List.mem_cons.1 he' with rfl | he'
  ·exact absurd hb' hb
  exact .inr ⟨e', he', hb', h⟩
theorem Zcf : ∀ (n : Nat) (l : List Nat), l.Nodup → (∀ x, x ∈ l → x < n) → l.length ≤ n
 | 0, [], _, _ => Nat.le_refl _
 | 0, x :: l, _, h => absurd (h x (List.mem_cons_self ..)) (by omega)
 | n + 1, l, hd, h => by
  by_cases hn : n ∈ l
  ·have h1 := Zcf n (l.erase n) (hd.erase n) (fun x hx => by
    have := (List.Nodup.mem_erase_iff hd).1 hx
    have := h x this.2
    omega)
   rw [List.length_erase_of_mem hn] at h1
   omega
  have := Zcf n l hd (fun x hx => by
   have h1 := h x hx
   have : x ≠ n := fun e => hn (e ▸ hx)
   omega)
  omega
theorem region_draw {C : Cfg} (hC : CfgOk P C w0) {call : Nat → YR} (hv : ∀ i, CallSound P w0 (call i)) {ops : Array Oper} {id : Nat} {ro : Option Nat} {n : Nat} {Q : Exit → Act → World → Prop} {env : VEnv} {H : Ze} {env' : VEnv} {H' : Ze} {tr : List (Nat × Item')}
  {w : World} {ι : Inj} {a : Act} (h : Xe C.T C.meth call ops (canon C.T ops) env H [] = some (env', H', tr)) (hd : drawOk C.T ops = true) (hf : JF (Region.before ops) tr) (s : Sim w0 ι H w) (r : RelL ι env a.tmps.toList)
  (hQ : ∀ a' w' ι', a'.defers = a.defers → Inj.ex H.length ι ι' → Sim w0 ι' H' w' → RelL ι' env' a'.tmps.toList → Q .normal a' w') : (Code.region id ops true).wpIn (WF ro) n P Q a w := by
 obtain ⟨S, hSi, htr, hch⟩ := QD (fun i => (hv i).len) _ _ _ _ _ _ _ h
 simp only [List.nil_append] at htr
 subst htr
 simp only [drawOk, Bool.and_eq_true] at hd
 obtain ⟨⟨⟨hbo, htm⟩, hoo⟩, hco⟩ := hd
 have hord := JX hoo
 rw [← hSi] at hord
 have okS : ∀ s, s ∈ S → StOk C call ops s := fun s hs => ((Z5 hch).2.1 s hs).2
 have lt : ∀ s, s ∈ S → s.i < ops.size := fun s hs => (Array.getElem?_eq_some_iff.1 (okS s hs).1).1
 have hp1 := List.pairwise_map.1 hord.1
 have hp2 := List.pairwise_map.1 (J4 hf)
 have R : Run C call ops (fun i => (Region.before ops).getD i 0) env H S env' H' := by
  refine ⟨hch, ?_, ?_⟩
  ·refine (hp1.and hp2).imp ?_
   intro x y hxy
   exact ⟨hxy.1.1, hxy.2, hxy.1.2⟩
  intro x hx y hy hne t ht hn
  simp only [tmpsOk, List.all_eq_true, List.mem_range] at htm
  have := htm y.i (lt y hy) x.i (lt x hx)
  rw [(okS x hx).1, (okS y hy).1] at this
  simp only [Option.bind_some, ht, Bool.or_eq_true, beq_iff_eq, Bool.not_eq_true'] at this
  rcases this with h | h | h
  ·exact absurd h hne
  ·have : (YM ops y.o).contains t = true := by simpa using hn
   rw [h] at this; cases this
  rcases Nat.lt_or_gt_of_ne hne with hlt | hlt
  ·rw [Nat.max_eq_right (by omega), Nat.min_eq_left (by omega)] at h
   exact .inl h
  rw [Nat.max_eq_left (by omega), Nat.min_eq_right (by omega)] at h
  exact .inr h
 have hbe : ∀ s, s ∈ S → (Region.before ops).getD s.i 0 = s.o.after.toList.foldl (fun x e => if Region.binds .any e then x ||| 2 ^ e.on ||| (Region.before ops).getD e.on 0 else x) 0 ∧ ∀ e, e ∈ s.o.after → Region.binds .any e = true → e.on < ops.size := by
  intro s hs
  simp only [ZcK, List.all_eq_true, List.mem_range] at hbo
  have := hbo s.i (lt s hs)
  rw [(okS s hs).1] at this
  simp only [Bool.and_eq_true, beq_iff_eq, List.all_eq_true, Bool.or_eq_true, Bool.not_eq_true', decide_eq_true_eq] at this
  refine ⟨this.1, fun e he hb => ?_⟩
  rcases this.2 e (by simpa using he) with h | h
  ·rw [hb] at h; cases h
  exact h
 have E : Edges ops (fun i => (Region.before ops).getD i 0) S := by
  refine ⟨fun i hi => ?_, fun s hs e he hb => ⟨?_, (hbe s hs).2 e he hb⟩, fun s hs m hm => ?_, fun s hs => ?_⟩
  ·simp only [List.all_eq_true, List.mem_range] at hco
   have := hco i hi
   rw [← hSi] at this
   simp only [List.contains_iff_mem, List.mem_map] at this
   exact this
  ·rw [(hbe s hs).1, Qn]
   exact .inr ⟨e, by simpa using he, hb, .inl rfl⟩
  ·rw [(hbe s hs).1, Qn] at hm
   rcases hm with h | ⟨e, he, hb, h⟩
   ·simp at h
   exact ⟨e, by simpa using he, hb, h⟩
  exact hord.2 s.i (List.mem_map.2 ⟨s, hs, rfl⟩)
 refine wpIn_region_any hC.mixed (draw_all hC hv R E (ι0 := ι) (ds := a.defers) (fun a' w' ι' h1 h2 h3 h4 => hQ a' w' ι' h1 h2 h3 h4) ops.size (Array.replicate ops.size false) a _ (by simp) ?_ ?_ ?_)
 ·have hl : S.length ≤ ops.size := by
   have hnd : (S.map (·.i)).Nodup := hord.1.imp (fun h => h.2)
   have hsub : (S.map (·.i)) ⊆ List.range ops.size := by
    intro i hi
    obtain ⟨s, hs, rfl⟩ := List.mem_map.1 hi
    exact List.mem_range.2 (lt s hs)
   have := Zcf ops.size _ hnd (fun x hx => List.mem_range.1 (hsub hx))
   simpa using this
  exact Nat.le_trans List.countP_le_length hl
 ·have hfalse : ∀ i, (Array.replicate ops.size false).getD i false = false := fun i => by
   rw [Array.getD_eq_getD_getElem?, Array.getElem?_replicate]; split <;> rfl
  obtain ⟨X, hX⟩ := hp_ext hC.tys (D := fun i => (Array.replicate ops.size false).getD i false) hch (fun u _ _ => hfalse _)
  refine ⟨ι, Inj.ex_refl _ _, ?_, ?_, rfl, ?_⟩
  ·rw [hX]; exact Sim.drew (s.extend X)
  ·have : ∀ (T : List St) (e : VEnv), ev (fun i => (Array.replicate ops.size false).getD i false) T e = e := by
    intro T
    induction T with
    | nil => intro e; rfl
    | cons u T ih =>
     intro e
     unfold ev
     rw [if_neg (by rw [hfalse]; simp)]
     exact ih e
   rw [this]; exact r
  intro u hu _ id hid
  cases hx : ι id with
  | none => rfl
  | some e =>
   have h1 := s.dom id e hx
   have h2 := ((Z5 hch).2.1 u hu).1
   rcases Qs (okS u hu) with ⟨_, _, _, e⟩ | ⟨_, _, _, _, e⟩ | ⟨_, _, _, _, e⟩ | ⟨_, _, _, _, e⟩ | e <;> rw [e] at hid <;> cases hid
   omega
 intro u _ hD
 simp [Array.getD_eq_getD_getElem?, Array.getElem?_replicate] at hD
 split at hD <;> simp at hD
end
end Go.V
