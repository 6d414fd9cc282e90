/- THE LOGIC: what code, functions and calls come to, said of the model and seen through the virtual heap. -/
import Derived.Test.YtbngdhlmggdaaaaV13
import Derived.LoopNIn
set_option autoImplicit false
set_option linter.unusedVariables false
set_option linter.unusedSimpArgs false
namespace Go.V
open Go Go.RowKit

/-- a program, what is known of it, and the world in which all began -/
structure Sys where
  P : Program
  C : Cfg
  w0 : World
  ok : CfgOk P C w0

section
variable {P : Program} {w0 : World}

theorem roundsIn_mono {F : Fence} {n : Nat} {c : Code} {Q Q' : Exit → Act → World → Prop} (h : ∀ e a w, Q e a w → Q' e a w) : ∀ (m : Nat) (a : Act) (w : World), Code.roundsIn F n P c Q m a w → Code.roundsIn F n P c Q' m a w
  | 0, _, _, r => r.elim
  | m + 1, a, w, r => wpIn_mono r fun e a w => by
      cases e <;> first | exact roundsIn_mono h m a w | exact h _ a w

theorem Rel.clear {ι : Inj} : ∀ {ts : List Nat} {env : VEnv} {l : List Value}, RelL ι env l → RelL ι (VEnv.clear ts env) l
  | [], _, _, r => r
  | t :: ts, env, l, r => by
    simp only [VEnv.clear, List.foldl_cons]
    refine Rel.clear (ts := ts) ?_
    refine .of_get (by rw [List.length_set]; exact r.length) fun i v x hv hx => ?_
    rw [List.getElem?_set] at hv
    split at hv
    · split at hv
      · cases hv; exact Rel.undef ι x
      · cases hv
    · obtain ⟨x', h1, h2⟩ := r.get i v hv
      rw [hx] at h1; cases h1; exact h2

theorem results_of {ι : Inj} {T : TypeId → Option VTy} (hT : TOk P T) {H : VHeap} {w : World} {env : VEnv} {fn : Func} {tmps : Array Value} {v : VVal} (s : Sim w0 ι H w) (r : RelL ι env tmps.toList) (h : vresults T env H fn.results = some v) :
    ∃ x, (results fn tmps).run P w = .ok x w ∧ Rel ι v x := by
  obtain ⟨g, hg⟩ : ∃ g : ResultVar → Sem Value, g = (fun q => match q with | .tmp t => (pure (tmps.getD t undef) : Sem Value) | .cell a t => (do loadVar t (← asAddr (tmps.getD a undef)) : Sem Value)) := ⟨_, rfl⟩
  have slot : ∀ t, Rel ι (env.getD t .skip) (tmps.getD t undef) := fun t => rel_slot (a := ⟨tmps, []⟩) r t
  have one : ∀ (q : ResultVar) (u : VVal), vresult T env H q = some u → ∃ x, (g q).run P w = .ok x w ∧ Rel ι u x := by
    intro q u hq
    rw [hg]
    cases q with
    | tmp t =>
      simp only [vresult, Option.some.injEq] at hq
      subst hq
      exact ⟨_, rfl, slot t⟩
    | cell a t =>
      simp only [vresult] at hq
      obtain ⟨_, ad, h3, x, hx, rx⟩ := vload_run hT s hq (slot a)
      refine ⟨x, ?_, rx⟩
      simp [Sem.run_bind, asAddr, h3, hx]
  have all : ∀ (l : List ResultVar) (us : List VVal), l.mapM (vresult T env H) = some us → ∃ xs : List Value, (l.mapM g).run P w = .ok xs w ∧ RelL ι us xs := by
    intro l
    induction l with
    | nil => intro us hu; simp at hu; subst hu; exact ⟨[], rfl, .nil⟩
    | cons q l ih =>
      intro us hu
      simp only [List.mapM_cons, Option.bind_eq_bind, Option.bind_eq_some_iff, Option.pure_def, Option.some.injEq] at hu
      obtain ⟨u, h1, us', h2, rfl⟩ := hu
      obtain ⟨x, hx, rx⟩ := one q u h1
      obtain ⟨xs, hxs, rxs⟩ := ih us' h2
      exact ⟨x :: xs, by simp [List.mapM_cons, Sem.run_bind, hx, hxs], .cons rx rxs⟩
  have hres : ∀ xs : List Value, (fn.results.toList.mapM g).run P w = .ok xs w → (results fn tmps).run P w = .ok (if h : xs.toArray.size = 1 then xs.toArray[0] else .tuple xs.toArray) w := by
    intro xs hxs
    have : results fn tmps = (do let vs ← fn.results.mapM g; pure (if h : vs.size = 1 then vs[0] else .tuple vs)) := by rw [hg]; rfl
    rw [this, Array.mapM_eq_mapM_toList]
    simp [Sem.run_bind, hxs]
  unfold vresults at h
  split at h
  · rename_i q hq
    obtain ⟨x, hx, rx⟩ := one q v h
    refine ⟨x, ?_, rx⟩
    have := hres [x] (by rw [hq]; simp [List.mapM_cons, Sem.run_bind, hx])
    rw [this]; rfl
  · rename_i hne
    simp only [Option.map_eq_some_iff] at h
    obtain ⟨us, hus, rfl⟩ := h
    obtain ⟨xs, hxs, rxs⟩ := all _ us hus
    refine ⟨_, hres xs hxs, ?_⟩
    have hl : xs.length ≠ 1 := by
      intro hl
      have h1 := rxs.length
      have h2 : us.length = fn.results.toList.length := by
        have hlen : ∀ (l : List ResultVar) (us : List VVal), l.mapM (vresult T env H) = some us → us.length = l.length := by
          intro l
          induction l with
          | nil => intro us hu; simp at hu; subst hu; rfl
          | cons q l ih =>
            intro us hu
            simp only [List.mapM_cons, Option.bind_eq_bind, Option.bind_eq_some_iff, Option.pure_def, Option.some.injEq] at hu
            obtain ⟨u, h1, us', h2, rfl⟩ := hu
            simp [ih us' h2]
        exact hlen _ _ hus
      match hr : fn.results.toList with
      | [] => rw [hr, List.length_nil] at h2; omega
      | [q] => exact hne q hr
      | _ :: _ :: _ => rw [hr, List.length_cons, List.length_cons] at h2; omega
    rw [dif_neg (by simpa using hl)]
    simp only [Rel]
    exact ⟨_, rfl, by simpa using rxs⟩

theorem below_putObj {B : Nat} {w : World} (h : Below B w0 w) {r : Nat} (hr : B ≤ r) (o : Obj) : Below B w0 (w.putObj r o) :=
  ⟨h.os, h.tape, h.output, by simpa using h.size, fun k hk => (World.putObj_heap_other (fun e => by omega)).trans (h.block k hk)⟩

/-- the deferred calls of this call's ranges -/
def DsOk (ι : Inj) (D0 : List Nat) : Option Nat → List Deferred → Prop
  | none, l => ∃ rs : List Nat, ι.df = rs ++ D0 ∧ l = rs.map fun r => { target := .collected r, args := #[] }
  | some _, l => l = [] ∧ ι.df = D0

theorem DsOk.df {ι ι' : Inj} {D0 : List Nat} {rd : Option Nat} {l : List Deferred} (h : DsOk ι D0 rd l) (e : ι'.df = ι.df) : DsOk ι' D0 rd l := by
  cases rd with
  | none => obtain ⟨rs, a, b⟩ := h; exact ⟨rs, e.trans a, b⟩
  | some r => exact ⟨h.1, e.trans h.2⟩

theorem Inj.le_df (ι : Inj) (D : List Nat) : ι.le ⟨ι.m, ι.z, D⟩ := ⟨fun _ _ h => h, fun _ _ h => h⟩

/-- one row of deferred calls is shut -/
theorem Sim.shut {w : World} {ι : Inj} {H : VHeap} {r : Nat} {D : List Nat} (s : Sim w0 ι H w) (hd : ι.df = r :: D) : Sim w0 ⟨ι.m, ι.z, D⟩ H (w.putObj r (.deferred none)) := by
  have hr : r ∈ ι.df := by rw [hd]; exact List.mem_cons_self ..
  obtain ⟨h1, h2⟩ := s.frz.dd r hr
  have hn := s.frz.dn
  rw [hd, List.nodup_cons] at hn
  refine ⟨below_putObj s.below h2 _, ⟨fun q arr h => ?_, hn.2, fun q hq => ?_⟩, s.fo, s.dom, fun b e k h g => ?_, s.inj⟩
  · obtain ⟨t, fr, hq⟩ := s.frz.fz q arr h
    refine ⟨t, fr, ?_⟩
    rw [World.putObj_heap_other]
    · exact hq
    · rintro rfl; rw [h1] at hq; cases hq
  · rw [World.putObj_heap_other]
    · exact s.frz.dd q (by rw [hd]; exact List.mem_cons_of_mem _ hq)
    · rintro rfl; exact hn.1 hq
  · have rb := s.blk b e k h g
    have key : BRel w0 ι (w.putObj r (.deferred none)) e k := by
      by_cases hdd : k = .dead
      · subst hdd; trivial
      · refine BRel.frame ?_ rb
        rw [World.putObj_heap_other]
        rintro he
        cases k with
        | dead => exact hdd rfl
        | cells cs rw => obtain ⟨arr, t, fr, cs', a, _⟩ := rb; rw [he, h1] at a; cases a
        | map es => obtain ⟨en, cl, a, _⟩ := rb; rw [he, h1] at a; cases a
        | loop st p fn tmps ps as body => obtain ⟨l, a, _⟩ := rb; rw [he, h1] at a; cases a
    exact key.mono (ι.le_df D)

theorem rel_df {ι : Inj} {D : List Nat} {v : VVal} {x : Value} (r : Rel ι v x) : Rel ⟨ι.m, ι.z, D⟩ v x := Rel.mono (ι.le_df D) _ _ r

theorem leaves {n : Nat} {fn : Func} {tmps : Array Value} {R : Ending → World → Prop} {D0 : List Nat} {H : VHeap} : ∀ {rs : List Nat} {ι : Inj} {w : World}, Sim w0 ι H w → ι.df = rs ++ D0 →
    (∀ w', Sim w0 ⟨ι.m, ι.z, D0⟩ H w' → LeavesIn (WF none) n P fn tmps R [] .returning w') → LeavesInM (WF none) n P fn tmps R (rs.map fun r => { target := .collected r, args := #[] }) .returning w
  | [], ι, w, s, hd, h => by
    have : ι = ⟨ι.m, ι.z, D0⟩ := by cases ι; simp at hd; subst hd; rfl
    rw [this] at s
    exact h w s
  | r :: rs, ι, w, s, hd, h => by
    have hr : r ∈ ι.df := by rw [hd]; simp
    have hb := s.frz.dd r hr
    refine ⟨by simp, .inl ⟨r, _, rfl, run_takeDeferred hb.1, ?_⟩⟩
    have s' := s.shut (r := r) (D := rs ++ D0) (by rw [hd]; rfl)
    exact leaves (rs := rs) s' rfl (by simpa using h)

theorem setParams_rel {ι : Inj} : ∀ {ps : List Nat} {vs : List VVal} {xs : List Value} {env : VEnv} {tmps : Array Value}, RelL ι env tmps.toList → RelL ι vs xs →
    RelL ι (setParams env ps vs) (((ps.zip xs).foldl (fun t p => t.setIfInBounds p.1 p.2) tmps).toList)
  | [], vs, xs, env, tmps, h, k => by simpa [setParams] using h
  | p :: ps, [], xs, env, tmps, h, k => by
    have : xs = [] := by simpa [RelL] using k
    subst this; simpa [setParams] using h
  | p :: ps, v :: vs, xs, env, tmps, h, k => by
    simp only [RelL] at k
    obtain ⟨y, ys, rfl, ry, rys⟩ := k
    have h1 : RelL ι (env.set p v) (tmps.setIfInBounds p y).toList := by rw [Array.toList_setIfInBounds]; exact h.set p ry
    have := setParams_rel (ps := ps) h1 rys
    simpa [setParams] using this

theorem fold_params (ps : Array Nat) (xs : Array Value) (tmps : Array Value) :
    (ps.zip xs).foldl (fun tmps (t, a) => tmps.setIfInBounds t a) tmps = (ps.toList.zip xs.toList).foldl (fun t p => t.setIfInBounds p.1 p.2) tmps := by
  rw [← Array.foldl_toList]
  simp

theorem Sim.loop {w : World} {ι : Inj} {H : VHeap} (s : Sim w0 ι H w) {l : Nat} {e : Ent} {st : LoopState} {p : Option Code} {fn : FuncId} {tmps : List VVal} {ps : List Nat} {as body : Code} (he : ι l = some e)
    (hH : H[l]? = some (.loop st p fn tmps ps as body)) : ∃ L, w.heap[e.r]? = some (.loop L) ∧ L.state = st ∧ L.pending = p ∧ RelL ι tmps L.tmps.toList ∧ L.params.toList = ps ∧ L.assign = as ∧ L.body = body ∧
      ∀ st' p', Sim w0 ι (H.set l (.loop st' p' fn tmps ps as body)) (w.putObj e.r (.loop { L with state := st', pending := p' })) := by
  obtain ⟨L, h1, h2, h3, h4, h5, h6, h7, h8⟩ := s.blk l e _ he hH
  have hlt : e.r < w.heap.size := (Array.getElem?_eq_some_iff.1 h1).1
  refine ⟨L, h1, h3, h4, h5, h6, h7, h8, fun st' p' => ?_⟩
  exact s.turn he hH rfl _ (below_putObj s.below h2 _) (fun i hi hne => World.putObj_heap_other hne)
    ⟨_, World.putObj_heap_same hlt, h2, rfl, rfl, h5, h6, h7, h8⟩ (.inl rfl)

theorem jump_inv {ex : Exit} {j : Option Code} (h : jumpOf ex = some j) : (ex = .normal ∧ j = none) ∨ (ex = .ret ∧ j = some .ret) ∨ ∃ id, ex = .exit id ∧ j = some (.exit id) := by
  unfold jumpOf at h
  split at h
  · simp at h; exact .inl ⟨rfl, h.symm⟩
  · simp at h; exact .inr (.inl ⟨rfl, h.symm⟩)
  · simp at h; exact .inr (.inr ⟨_, rfl, h.symm⟩)
  · cases h
end

/-! ### The judgements -/
/-- what was mapped as the call began is mapped as it was then -/
def Base (S : Sys) (H0 : VHeap) (ι : Inj) : Prop := ∃ ι0 we, Sim S.w0 ι0 H0 we ∧ ∀ b, b < H0.length → ι b = ι0 b

def Inj.go (n : Nat) (ι ι' : Inj) : Prop := (∀ b, b < n → ι' b = ι b) ∧ (∀ r a, ι.z r = some a → ι'.z r = some a)
theorem Inj.go_refl (n : Nat) (ι : Inj) : Inj.go n ι ι := ⟨fun _ _ => rfl, fun _ _ h => h⟩
theorem Inj.go_trans {n : Nat} {a b c : Inj} (h : Inj.go n a b) (k : Inj.go n b c) : Inj.go n a c := ⟨fun i hi => (k.1 i hi).trans (h.1 i hi), fun _ _ x => k.2 _ _ (h.2 _ _ x)⟩
theorem Inj.ex.go {n m : Nat} {a b : Inj} (h : Inj.ex m a b) (hnm : n ≤ m) : Inj.go n a b := ⟨fun i hi => h.1 i (by omega), h.2.1⟩
theorem Base.go {S : Sys} {H0 : VHeap} {ι ι' : Inj} (b : Base S H0 ι) (h : Inj.go H0.length ι ι') : Base S H0 ι' := by
  obtain ⟨ι0, we, s, e⟩ := b
  exact ⟨ι0, we, s, fun i hi => (h.1 i hi).trans (e i hi)⟩

def RdOk (H0 : VHeap) (ι : Inj) : Option Nat → Option Nat → Prop
  | none, none => True
  | some l, some r => l < H0.length ∧ ∃ e, ι l = some e ∧ e.r = r
  | _, _ => False
theorem RdOk.go {H0 : VHeap} {ι ι' : Inj} {rd ro : Option Nat} (r : RdOk H0 ι rd ro) (h : Inj.go H0.length ι ι') : RdOk H0 ι' rd ro := by
  cases rd <;> cases ro <;> simp only [RdOk] at r ⊢
  obtain ⟨hl, e, a, b⟩ := r; exact ⟨hl, e, (h.1 _ hl).trans a, b⟩

abbrev Post := Exit → VEnv → VHeap → Prop

def BPost (S : Sys) (H0 : VHeap) (rd : Option Nat) (D0 : List Nat) (ι : Inj) (Q : Post) (e : Exit) (a : Act) (w : World) : Prop :=
  ∃ ι' env H, Inj.go H0.length ι ι' ∧ H0.length ≤ H.length ∧ Sim S.w0 ι' H w ∧ RelL ι' env a.tmps.toList ∧ DsOk ι' D0 rd a.defers ∧ Q e env H

/-- code, begun at these slots and this heap, comes to an end of which Q holds; H0: the heap as the call began -/
def B (S : Sys) (H0 : VHeap) (rd : Option Nat) (c : Code) (env : VEnv) (H : VHeap) (Q : Post) : Prop :=
  ∀ (ro : Option Nat) (n : Nat) (D0 : List Nat) (a : Act) (w : World) (ι : Inj), RdOk H0 ι rd ro → Base S H0 ι → H0.length ≤ H.length → Sim S.w0 ι H w → RelL ι env a.tmps.toList → DsOk ι D0 rd a.defers →
    c.wpIn (WF ro) n S.P (BPost S H0 rd D0 ι Q) a w

def RetPost (S : Sys) (ι : Inj) (H : VHeap) (R : VVal → VHeap → Prop) (e : Ending) (w' : World) : Prop :=
  ∃ x v G ι', e = .returned x ∧ Inj.ex H.length ι ι' ∧ H.length ≤ G.length ∧ Sim S.w0 ι' G w' ∧ Rel ι' v x ∧ R v G

/-- a call of function f comes to an answer and a heap of which R holds -/
def F (S : Sys) (f : FuncId) (args : List VVal) (H : VHeap) (R : VVal → VHeap → Prop) : Prop :=
  ∀ (n : Nat) (w : World) (ι : Inj) (args' : Array Value), Sim S.w0 ι H w → RelL ι args args'.toList →
    (callFunc f args').run S.P w = .ok (.enter f args') w ∧ CallsIn Fence.wide n S.P f args' w (RetPost S ι H R)

def Fv (S : Sys) (fv : VVal) (args : List VVal) (H : VHeap) (R : VVal → VHeap → Prop) : Prop :=
  ∀ (ro : Option Nat) (n : Nat) (w : World) (ι : Inj) (fv' : Value) (args' : Array Value) (o : Oper) (a : Act) (K : Act → World → Prop) (Q : Exit → Act → World → Prop),
    Sim S.w0 ι H w → Rel ι fv fv' → RelL ι args args'.toList →
    (∀ x w' ι' v G, Inj.ex H.length ι ι' → H.length ≤ G.length → Sim S.w0 ι' G w' → Rel ι' v x → R v G → K (a.put o.dst x) w') →
    o.uponIn (WF ro) n S.P a K Q ((do let d ← Deferred.ofValue fv' args'; invoke d.target d.args : Sem Next).run S.P w)

/-- a change of mind about what is known: slots and heap seen otherwise, nothing is carried out -/
def Gh (S : Sys) (H0 : VHeap) (vs : List VVal) (H : VHeap) (vs' : List VVal) (H' : VHeap) : Prop :=
  H0.length ≤ H.length → H0.length ≤ H'.length ∧ ∀ (w : World) (ι : Inj) (xs : List Value), Base S H0 ι → Sim S.w0 ι H w → RelL ι vs xs → ∃ ι', Inj.ex H0.length ι ι' ∧ Sim S.w0 ι' H' w ∧ RelL ι' vs' xs

section
variable {S : Sys}

theorem F.mono {f : FuncId} {args : List VVal} {H : VHeap} {R R' : VVal → VHeap → Prop} (h : F S f args H R) (hr : ∀ v G, R v G → R' v G) : F S f args H R' := by
  intro n w ι args' s r
  refine ⟨(h n w ι args' s r).1, CallsIn.mono (h n w ι args' s r).2 ?_⟩
  rintro e w' ⟨x, v, G, ι', a, b, c, d, e, f⟩
  exact ⟨x, v, G, ι', a, b, c, d, e, hr _ _ f⟩

theorem Fv.mono {f : VVal} {args : List VVal} {H : VHeap} {R R' : VVal → VHeap → Prop} (h : Fv S f args H R) (hr : ∀ v G, R v G → R' v G) : Fv S f args H R' :=
  fun ro n w ι fv' args' o a K Q s rf ra hK => h ro n w ι fv' args' o a K Q s rf ra fun x w' ι' v G h1 h2 h3 h4 h5 => hK x w' ι' v G h1 h2 h3 h4 (hr _ _ h5)

theorem B.mono {H0 : VHeap} {rd : Option Nat} {c : Code} {env : VEnv} {H : VHeap} {Q Q' : Post} (h : B S H0 rd c env H Q) (hq : ∀ e v G, Q e v G → Q' e v G) : B S H0 rd c env H Q' := by
  intro ro n D0 a w ι h1 h2 h3 h4 h5 h6
  refine wpIn_mono (h ro n D0 a w ι h1 h2 h3 h4 h5 h6) ?_
  rintro e a' w' ⟨ι', env', H', b1, b2, b3, b4, b5, b6⟩
  exact ⟨ι', env', H', b1, b2, b3, b4, b5, hq _ _ _ b6⟩

theorem Base.self {H : VHeap} {ι : Inj} {w : World} (s : Sim S.w0 ι H w) : Base S H ι := ⟨ι, w, s, fun _ _ => rfl⟩

/-- the answer seen otherwise -/
theorem F.gh {f : FuncId} {args : List VVal} {H : VHeap} {R R' : VVal → VHeap → Prop} (h : F S f args H R) (hr : ∀ v G, R v G → ∃ v' G', Gh S H [v] G [v'] G' ∧ R' v' G') : F S f args H R' := by
  intro n w ι args' s r
  refine ⟨(h n w ι args' s r).1, CallsIn.mono (h n w ι args' s r).2 ?_⟩
  rintro e w' ⟨x, v, G, ι', a, b, c, d, e, f⟩
  obtain ⟨v', G', g, hR⟩ := hr v G f
  obtain ⟨g1, g2⟩ := g c
  obtain ⟨ι2, i1, i2, i3⟩ := g2 w' ι' [x] ((Base.self s).go (b.go (Nat.le_refl _))) d (.one e)
  simp only [RelL] at i3
  obtain ⟨y, ys, e1, e2, _⟩ := i3
  cases e1
  exact ⟨x, v', G', ι2, a, Inj.ex_trans b i1 (Nat.le_refl _), g1, i2, e2, hR⟩

theorem Fv_fn {f : FuncId} {first cap args : List VVal} {H : VHeap} {R : VVal → VHeap → Prop} (h : F S f (first ++ args ++ cap) H R) : Fv S (.func f first cap) args H R := by
  intro ro n w ι fv' args' o a K Q s rf ra hK
  simp only [Rel] at rf
  obtain ⟨a1, c1, rfl, r1, r2⟩ := rf
  have rall : RelL ι (first ++ args ++ cap) (a1 ++ args' ++ c1).toList := by
    rw [Array.toList_append, Array.toList_append]; exact (r1.append ra).append r2
  obtain ⟨e1, hc⟩ := h (n - 1) w ι _ s rall
  have e2 : ((do let d ← Deferred.ofValue (.func (.func f) a1 c1) args'; invoke d.target d.args : Sem Next)).run S.P w = .ok (.enter f (a1 ++ args' ++ c1)) w := by
    simp only [Deferred.ofValue, Sem.run_bind, Sem.run_pure, Result.andThen_ok, invoke]
    exact e1
  rw [e2, Oper.uponIn_enter]
  refine ⟨fun h => by simp [Fence.wide] at h, ?_⟩
  refine CallsIn.mono (F := WF ro) hc ?_
  rintro e w' ⟨x, v, G, ι', rfl, hex, hl, s', rx, hR⟩
  exact hK x w' ι' v G hex hl s' rx hR

/-- how a function ends -/
def fnK (S : Sys) (fn : Func) (H : VHeap) (R : VVal → VHeap → Prop) : Post := fun ex env G => (ex = .normal ∨ ex = .ret) ∧ ∃ v, vresults S.C.T env G fn.results = some v ∧ ∃ v' G', Gh S H [v] G [v'] G' ∧ R v' G'

theorem F_fn {f : FuncId} {fn : Func} {c : Code} {args : List VVal} {H : VHeap} {R : VVal → VHeap → Prop} (hf : S.C.fn f = some fn) (hb : fn.body = some c) (env : VEnv) (he : args ++ List.replicate (fn.ntmps - args.length) .skip = env)
    (h : B S H none c env H (fnK S fn H R)) : F S f args H R := by
  subst he
  intro n w ι args' s ra
  obtain ⟨hf', hn⟩ := S.ok.fns f fn hf
  refine ⟨run_callFunc_body hf' hn hb args' w, ?_⟩
  have hrel : RelL ι (args ++ List.replicate (fn.ntmps - args.length) .skip) (args' ++ Array.replicate (fn.ntmps - args'.size) undef).toList := by
    rw [Array.toList_append, Array.toList_replicate]
    have : args.length = args'.size := by have := ra.length; simpa using this
    rw [this]
    exact ra.append (.replicate (Rel.skip ι) _)
  have hw := h none n ι.df ⟨args' ++ Array.replicate (fn.ntmps - args'.size) undef, []⟩ w ι trivial (Base.self s) (Nat.le_refl _) s hrel ⟨[], rfl, rfl⟩
  refine callsIn_of_wp_marks (F := WF none) hf' hb trivial (wpIn_mono hw ?_)
  rintro e a w' ⟨ι', env', G, hgo, hl, s', r', ⟨rs, d1, d2⟩, hx, v, hv, v', G', hgh, hR⟩
  have fin : LeavesInM (WF none) n S.P fn a.tmps (RetPost S ι H R) a.defers .returning w' := by
    rw [d2]
    refine leaves (D0 := ι.df) (w0 := S.w0) s' d1 (fun w2 s2 => ?_)
    have r2 : RelL ⟨ι'.m, ι'.z, ι.df⟩ env' a.tmps.toList := RelL.mono (ι'.le_df ι.df) _ _ r'
    obtain ⟨x, hx, rx⟩ := results_of S.ok.tys s2 r2 hv
    obtain ⟨g1, g2⟩ := hgh hl
    obtain ⟨ι2, i1, i2, i3⟩ := g2 w2 _ [x] ((Base.self s).go (ι' := ⟨ι'.m, ι'.z, ι.df⟩) hgo) s2 (.one rx)
    simp only [RelL] at i3
    obtain ⟨y, ys, e1, e2, _⟩ := i3
    cases e1
    exact ⟨x, hx, x, v', G', ι2, rfl, ⟨fun b hb => (i1.1 b hb).trans (hgo.1 b hb), fun q a hq => i1.2.1 _ _ (hgo.2 _ _ hq), i1.2.2⟩, g1, i2, e2, hR⟩
  rcases hx with rfl | rfl
  · exact fin
  · exact fin

/-! ### Code -/
def seqK (S : Sys) (H0 : VHeap) (rd : Option Nat) (b : Code) (Q : Post) : Post := fun e env H => match e with
  | .normal => B S H0 rd b env H Q
  | e => Q e env H
def blkK (id : Nat) (Q : Post) : Post := fun e env H => match e with
  | .exit j => if j = id then Q .normal env H else Q (.exit j) env H
  | e => Q e env H

variable {H0 : VHeap} {rd : Option Nat} {env : VEnv} {H : VHeap} {Q : Post}

theorem bpost {D0 : List Nat} {ι : Inj} {a : Act} {w : World} {e : Exit} (h3 : H0.length ≤ H.length) (h4 : Sim S.w0 ι H w) (h5 : RelL ι env a.tmps.toList) (h6 : DsOk ι D0 rd a.defers) (h : Q e env H) : BPost S H0 rd D0 ι Q e a w := ⟨ι, env, H, Inj.go_refl _ _, h3, h4, h5, h6, h⟩

theorem B_skip (h : Q .normal env H) : B S H0 rd .skip env H Q := fun ro n D0 a w ι h1 h2 h3 h4 h5 h6 => wpIn_skip (bpost h3 h4 h5 h6 h)
theorem B_label {l : Nat} (h : Q .normal env H) : B S H0 rd (.label l) env H Q := fun ro n D0 a w ι h1 h2 h3 h4 h5 h6 => wpIn_label (bpost h3 h4 h5 h6 h)
theorem B_ret (h : Q .ret env H) : B S H0 rd .ret env H Q := fun ro n D0 a w ι h1 h2 h3 h4 h5 h6 => wpIn_ret (bpost h3 h4 h5 h6 h)
theorem B_exit {id : Nat} (h : Q (.exit id) env H) : B S H0 rd (.exit id) env H Q := fun ro n D0 a w ι h1 h2 h3 h4 h5 h6 => wpIn_exit (bpost h3 h4 h5 h6 h)

theorem BPost.go {D0 : List Nat} {ι ι' : Inj} {e : Exit} {a : Act} {w : World} (h : Inj.go H0.length ι ι') (p : BPost S H0 rd D0 ι' Q e a w) : BPost S H0 rd D0 ι Q e a w := by
  obtain ⟨ι2, env, H, b1, b⟩ := p
  exact ⟨ι2, env, H, Inj.go_trans h b1, b⟩

theorem B_seq {x y : Code} (h : B S H0 rd x env H (seqK S H0 rd y Q)) : B S H0 rd (.seq x y) env H Q := by
  intro ro n D0 a w ι h1 h2 h3 h4 h5 h6
  refine wpIn_seq (wpIn_mono (h ro n D0 a w ι h1 h2 h3 h4 h5 h6) ?_)
  rintro e a1 w1 ⟨ι1, env1, H1, b1, b2, b3, b4, b5, b6⟩
  cases e
  case normal =>
    exact wpIn_mono (b6 ro n D0 a1 w1 ι1 (h1.go b1) (h2.go b1) b2 b3 b4 b5) (fun e a w p => p.go b1)
  all_goals exact ⟨ι1, env1, H1, b1, b2, b3, b4, b5, b6⟩

theorem B_cond {x : Operand} {y z : Code} (t : Bool) (ht : env.eval x = .bool t) (ha : t = true → B S H0 rd y env H Q) (hb : t = false → B S H0 rd z env H Q) : B S H0 rd (.cond x y z) env H Q := by
  intro ro n D0 a w ι h1 h2 h3 h4 h5 h6
  have := rel_eval h5 x
  rw [ht] at this
  have e : a.eval x = .bool t := by simpa [Rel] using this
  refine wpIn_cond e ?_
  cases t with
  | true => exact ha rfl ro n D0 a w ι h1 h2 h3 h4 h5 h6
  | false => exact hb rfl ro n D0 a w ι h1 h2 h3 h4 h5 h6

theorem B_true {x : Operand} {y z : Code} {t : Bool} (ht : env.eval x = .bool t) (he : t = true) (h1 : B S H0 rd y env H Q) : B S H0 rd (.cond x y z) env H Q :=
  B_cond t ht (fun _ => h1) (fun h => by rw [he] at h; cases h)
theorem B_false {x : Operand} {y z : Code} {t : Bool} (ht : env.eval x = .bool t) (he : t = false) (h1 : B S H0 rd z env H Q) : B S H0 rd (.cond x y z) env H Q :=
  B_cond t ht (fun h => by rw [he] at h; cases h) (fun _ => h1)

theorem B_block {id : Nat} {x : Code} (h : B S H0 rd x env H (blkK id Q)) : B S H0 rd (.block id x) env H Q := by
  intro ro n D0 a w ι h1 h2 h3 h4 h5 h6
  refine wpIn_block (wpIn_mono (h ro n D0 a w ι h1 h2 h3 h4 h5 h6) ?_)
  rintro e a1 w1 ⟨ι1, env1, H1, b1, b2, b3, b4, b5, b6⟩
  cases e
  case exit j =>
    simp only [blkK] at b6
    simp only [Exit.inBlock]
    split
    · rename_i hj; rw [if_pos hj] at b6; exact ⟨ι1, env1, H1, b1, b2, b3, b4, b5, b6⟩
    · rename_i hj; rw [if_neg hj] at b6; exact ⟨ι1, env1, H1, b1, b2, b3, b4, b5, b6⟩
  all_goals exact ⟨ι1, env1, H1, b1, b2, b3, b4, b5, b6⟩

/-- seen otherwise -/
theorem B_gh {c : Code} {env' : VEnv} {H' : VHeap} (g : Gh S H0 env H env' H') (h : B S H0 rd c env' H' Q) : B S H0 rd c env H Q := by
  intro ro n D0 a w ι h1 h2 h3 h4 h5 h6
  obtain ⟨g1, g2⟩ := g h3
  obtain ⟨ι', i1, i2, i3⟩ := g2 w ι _ h2 h4 h5
  have hgo := i1.go (Nat.le_refl _)
  exact wpIn_mono (h ro n D0 a w ι' (h1.go hgo) (h2.go hgo) g1 i2 i3 (h6.df i1.2.2)) (fun e a w p => p.go hgo)

/-- .. at an end -/
theorem Q_gh {c : Code} {e : Exit} {env' : VEnv} {H' : VHeap} (g : Gh S H0 env H env' H') {D0 : List Nat} {ι : Inj} {a : Act} {w : World} (h2 : Base S H0 ι) (h3 : H0.length ≤ H.length) (h4 : Sim S.w0 ι H w) (h5 : RelL ι env a.tmps.toList) (h6 : DsOk ι D0 rd a.defers) (h : Q e env' H') : BPost S H0 rd D0 ι Q e a w := by
  obtain ⟨g1, g2⟩ := g h3
  obtain ⟨ι', i1, i2, i3⟩ := g2 w ι _ h2 h4 h5
  exact ⟨ι', env', H', i1.go (Nat.le_refl _), g1, i2, i3, h6.df i1.2.2, h⟩

theorem Gh.refl (S : Sys) (H0 : VHeap) (vs : List VVal) (H : VHeap) : Gh S H0 vs H vs H := fun h => ⟨h, fun w ι xs b s r => ⟨ι, Inj.ex_refl _ _, s, r⟩⟩
theorem Gh.trans {vs vs1 vs2 : List VVal} {G G1 G2 : VHeap} (a : Gh S H0 vs G vs1 G1) (b : Gh S H0 vs1 G1 vs2 G2) : Gh S H0 vs G vs2 G2 := by
  intro h
  obtain ⟨a1, a2⟩ := a h
  obtain ⟨b1, b2⟩ := b a1
  refine ⟨b1, fun w ι xs hb s r => ?_⟩
  obtain ⟨ι1, i1, i2, i3⟩ := a2 w ι xs hb s r
  obtain ⟨ι2, j1, j2, j3⟩ := b2 w ι1 xs (hb.go (i1.go (Nat.le_refl _))) i2 i3
  exact ⟨ι2, Inj.ex_trans i1 j1 (Nat.le_refl _), j2, j3⟩

/-- A LOOP: heads are told by a state x; each round goes on to a lesser one, or leaves; nothing is carried out between a round's end and the next head but a change of mind. -/
def loopK (S : Sys) (H0 : VHeap) (next : VEnv → VHeap → Prop) (Q : Post) : Post := fun e env H => match e with
  | .normal => ∃ env' H', Gh S H0 env H env' H' ∧ next env' H'
  | e => Q e env H

theorem B_loop {b : Code} {α : Type} (μ : α → Nat) (head : α → VEnv → VHeap → Prop)
    (round : ∀ x env H, head x env H → B S H0 rd b env H (loopK S H0 (fun env' H' => ∃ y, μ y < μ x ∧ head y env' H') Q)) (x : α) (h : head x env H) : B S H0 rd (.loop b) env H Q := by
  intro ro n D0 a w ι h1 h2 h3 h4 h5 h6
  have key : ∀ (k : Nat) (x : α), μ x < k → ∀ env H a w ι, head x env H → RdOk H0 ι rd ro → Base S H0 ι → H0.length ≤ H.length → Sim S.w0 ι H w → RelL ι env a.tmps.toList → DsOk ι D0 rd a.defers →
      Code.roundsIn (WF ro) n S.P b (BPost S H0 rd D0 ι Q) k a w := by
    intro k
    induction k with
    | zero => intro x hx; omega
    | succ k ih =>
      intro x hx env H a w ι hh h1 h2 h3 h4 h5 h6
      rw [roundsIn_succ]
      refine wpIn_mono (round x env H hh ro n D0 a w ι h1 h2 h3 h4 h5 h6) ?_
      rintro e a1 w1 ⟨ι1, env1, H1, b1, b2, b3, b4, b5, b6⟩
      cases e
      case normal =>
        obtain ⟨env2, H2, g, y, hy, hhy⟩ := b6
        obtain ⟨g1, g2⟩ := g b2
        obtain ⟨ι2, i1, i2, i3⟩ := g2 w1 ι1 _ (h2.go b1) b3 b4
        have b12 := Inj.go_trans b1 (i1.go (Nat.le_refl _))
        exact roundsIn_mono (fun e a w p => p.go b12) _ _ _ (ih y (by omega) env2 H2 a1 w1 ι2 hhy (h1.go b12) (h2.go b12) g1 i2 i3 (b5.df i1.2.2))
      all_goals exact ⟨ι1, env1, H1, b1, b2, b3, b4, b5, b6⟩
  exact wpIn_loop_rounds (μ x + 1) (key (μ x + 1) x (Nat.lt_succ_self _) env H a w ι h h1 h2 h3 h4 h5 h6)

end
end Go.V
