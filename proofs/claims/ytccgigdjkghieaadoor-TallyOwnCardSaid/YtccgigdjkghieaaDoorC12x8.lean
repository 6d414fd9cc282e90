/- Proved: Rows.TallyOwnCardSaid, the statement TallyOwn with its card, of the given program at the commit; no conditions beyond those in the statement. -/
import Derived.Test.YtccgigdjkghieaaDoorC12x7
import Derived.LoopNIn
set_option autoImplicit false
set_option linter.unusedVariables false
set_option linter.unusedSimpArgs false
namespace Go.V
open Go Go.RowKit
structure Sys where
 P : Program
 C : Cfg
 w0 : World
 ok : CfgOk P C w0
section
variable {P : Program} {w0 : World}
theorem JK {F : Fence} {n : Nat} {c : Code} {Q Q' : Exit → Act → World → Prop} (h : ∀ e a w, Q e a w → Q' e a w) : ∀ (m : Nat) (a : Act) (w : World), Code.roundsIn F n P c Q m a w → Code.roundsIn F n P c Q' m a w
 | 0, _, _, r => r.elim
 | m + 1, a, w, r => wpIn_mono r fun e a w => by
  cases e <;> first | exact JK h m a w | exact h _ a w
theorem Rel.clear {ι : Inj} : ∀ {ts : List Nat} {env : VEnv} {l : List Value}, RelL ι env l → RelL ι (VEnv.clear ts env) l
 | [], _, _, r => r
 | t :: ts, env, l, r => by
  simp only [VEnv.clear, List.foldl_cons]
  refine Rel.clear (ts := ts) ?_
  refine .of_get (by rw [List.length_set]; exact r.length) fun i v x hv hx => ?_
  rw [List.getElem?_set] at hv
  split at hv
  ·split at hv
   ·cases hv; exact Rel.undef ι x
   cases hv
  obtain ⟨x', h1, h2⟩ := r.get i v hv
  rw [hx] at h1; cases h1; exact h2
theorem results_of {ι : Inj} {T : TypeId → Option VTy} (hT : TOk P T) {H : Ze} {w : World} {env : VEnv} {fn : Func} {tmps : Array Value} {v : VVal} (s : Sim w0 ι H w) (r : RelL ι env tmps.toList) (h : ZX T env H fn.results = some v) :
  ∃ x, (results fn tmps).run P w = .ok x w ∧ Rel ι v x := by
 obtain ⟨g, hg⟩ : ∃ g : ResultVar → Sem Value, g = (fun q => match q with | .tmp t => (pure (tmps.getD t undef) : Sem Value) | .cell a t => (do loadVar t (← asAddr (tmps.getD a undef)) : Sem Value)) := ⟨_, rfl⟩
 have slot : ∀ t, Rel ι (env.getD t .skip) (tmps.getD t undef) := fun t => Qu (a := ⟨tmps, []⟩) r t
 have one : ∀ (q : ResultVar) (u : VVal), Y0 T env H q = some u → ∃ x, (g q).run P w = .ok x w ∧ Rel ι u x := by
  intro q u hq
  rw [hg]
  cases q with
  | tmp t =>
   simp only [Y0, Option.some.injEq] at hq
   subst hq
   exact ⟨_, rfl, slot t⟩
  | cell a t =>
   simp only [Y0] at hq
   obtain ⟨_, ad, h3, x, hx, rx⟩ := ZcV hT s hq (slot a)
   refine ⟨x, ?_, rx⟩
   simp [Sem.run_bind, asAddr, h3, hx]
 have all : ∀ (l : List ResultVar) (us : List VVal), l.mapM (Y0 T env H) = some us → ∃ xs : List Value, (l.mapM g).run P w = .ok xs w ∧ RelL ι us xs := by
  intro l
  induction l with
  | nil => intro us hu; simp at hu; subst hu; exact ⟨[], rfl, .nil⟩
  | cons q l ih =>
   intro us hu
   simp only [List.mapM_cons, Option.bind_eq_bind, Option.bind_eq_some_iff, Option.pure_def, Option.some.injEq] at hu
   obtain ⟨u, h1, us', h2, rfl⟩ := hu
   obtain ⟨x, hx, rx⟩ := one q u h1
   obtain ⟨xs, hxs, rxs⟩ := ih us' h2
   exact ⟨x :: xs, by simp [List.mapM_cons, Sem.run_bind, hx, hxs], .cons rx rxs⟩
 have hres : ∀ xs : List Value, (fn.results.toList.mapM g).run P w = .ok xs w → (results fn tmps).run P w = .ok (if h : xs.toArray.size = 1 then xs.toArray[0] else .tuple xs.toArray) w := by
  intro xs hxs
  have : results fn tmps = (do let vs ← fn.results.mapM g; pure (if h : vs.size = 1 then vs[0] else .tuple vs)) := by rw [hg]; rfl
  rw [this, Array.mapM_eq_mapM_toList]
  simp [Sem.run_bind, hxs]
 unfold ZX at h
 split at h
 ·rename_i q hq
  obtain ⟨x, hx, rx⟩ := one q v h
  refine ⟨x, ?_, rx⟩
  have := hres [x] (by rw [hq]; simp [List.mapM_cons, Sem.run_bind, hx])
  rw [this]; rfl
 rename_i hne
 simp only [Option.map_eq_some_iff] at h
 obtain ⟨us, hus, rfl⟩ := h
 obtain ⟨xs, hxs, rxs⟩ := all _ us hus
 refine ⟨_, hres xs hxs, ?_⟩
 have hl : xs.length ≠ 1 := by
  intro hl
  have h1 := rxs.length
  have h2 : us.length = fn.results.toList.length := by
   have hlen : ∀ (l : List ResultVar) (us : List VVal), l.mapM (Y0 T env H) = some us → us.length = l.length := by
    intro l
    induction l with
    | nil => intro us hu; simp at hu; subst hu; rfl
    | cons q l ih =>
     intro us hu
     simp only [List.mapM_cons, Option.bind_eq_bind, Option.bind_eq_some_iff, Option.pure_def, Option.some.injEq] at hu
     obtain ⟨u, h1, us', h2, rfl⟩ := hu
     simp [ih us' h2]
   exact hlen _ _ hus
  match hr : fn.results.toList with
  | [] => rw [hr, List.length_nil] at h2; omega
  | [q] => exact hne q hr
  | _ :: _ :: _ => rw [hr, List.length_cons, List.length_cons] at h2; omega
 rw [dif_neg (by simpa using hl)]
 simp only [Rel]
 exact ⟨_, rfl, by simpa using rxs⟩
theorem Zaq {B : Nat} {w : World} (h : Below B w0 w) {r : Nat} (hr : B ≤ r) (o : Obj) : Below B w0 (w.putObj r o) :=
 ⟨h.os, h.tape, h.output, by simpa using h.size, fun k hk => (World.putObj_heap_other (fun e => by omega)).trans (h.block k hk)⟩
def DsOk (ι : Inj) (D0 : List Nat) : Option Nat → List Deferred → Prop
 | none, l => ∃ rs : List Nat, ι.df = rs ++ D0 ∧ l = rs.map fun r => { target := .collected r, args := #[] }
 | some _, l => l = [] ∧ ι.df = D0
theorem DsOk.df {ι ι' : Inj} {D0 : List Nat} {rd : Option Nat} {l : List Deferred} (h : DsOk ι D0 rd l) (e : ι'.df = ι.df) : DsOk ι' D0 rd l := by
 cases rd with
 | none => obtain ⟨rs, a, b⟩ := h; exact ⟨rs, e.trans a, b⟩
 | some r => exact ⟨h.1, e.trans h.2⟩
theorem Inj.le_df (ι : Inj) (D : List Nat) : ι.le ⟨ι.m, ι.z, D⟩ := ⟨fun _ _ h => h, fun _ _ h => h⟩
theorem Sim.shut {w : World} {ι : Inj} {H : Ze} {r : Nat} {D : List Nat} (s : Sim w0 ι H w) (hd : ι.df = r :: D) : Sim w0 ⟨ι.m, ι.z, D⟩ H (w.putObj r (.deferred none)) := by
 have hr : r ∈ ι.df := by rw [hd]; exact List.mem_cons_self ..
 obtain ⟨h1, h2⟩ := s.frz.dd r hr
 have hn := s.frz.dn
 rw [hd, List.nodup_cons] at hn
 refine ⟨Zaq s.below h2 _, ⟨fun q arr h => ?_, hn.2, fun q hq => ?_⟩, s.fo, s.dom, fun b e k h g => ?_, s.inj⟩
 ·obtain ⟨t, fr, hq, hk⟩ := s.frz.fz q arr h
  refine ⟨t, fr, ?_, hk⟩
  rw [World.putObj_heap_other]
  ·exact hq
  rintro rfl; rw [h1] at hq; cases hq
 ·rw [World.putObj_heap_other]
  ·exact s.frz.dd q (by rw [hd]; exact List.mem_cons_of_mem _ hq)
  rintro rfl; exact hn.1 hq
 have rb := s.blk b e k h g
 have key : BRel w0 ι (w.putObj r (.deferred none)) e k := by
  by_cases hdd : k = .dead
  ·subst hdd; trivial
  refine BRel.frame ?_ rb
  rw [World.putObj_heap_other]
  rintro he
  cases k with
  | dead => exact hdd rfl
  | cells cs rw => obtain ⟨arr, t, fr, cs', a, _⟩ := rb; rw [he, h1] at a; cases a
  | map es => obtain ⟨en, cl, a, _⟩ := rb; rw [he, h1] at a; cases a
  | loop st p fn tmps ps as body => obtain ⟨l, a, _⟩ := rb; rw [he, h1] at a; cases a
 exact key.mono (ι.le_df D)
theorem leaves {n : Nat} {fn : Func} {tmps : Array Value} {R : Ending → World → Prop} {D0 : List Nat} {H : Ze} : ∀ {rs : List Nat} {ι : Inj} {w : World}, Sim w0 ι H w → ι.df = rs ++ D0 →
  (∀ w', Sim w0 ⟨ι.m, ι.z, D0⟩ H w' → LeavesIn (WF none) n P fn tmps R [] .returning w') → LeavesInM (WF none) n P fn tmps R (rs.map fun r => { target := .collected r, args := #[] }) .returning w
 | [], ι, w, s, hd, h => by
  have : ι = ⟨ι.m, ι.z, D0⟩ := by cases ι; simp at hd; subst hd; rfl
  rw [this] at s
  exact h w s
 | r :: rs, ι, w, s, hd, h => by
  have hr : r ∈ ι.df := by rw [hd]; simp
  have hb := s.frz.dd r hr
  refine ⟨by simp, .inl ⟨r, _, rfl, run_takeDeferred hb.1, ?_⟩⟩
  have s' := s.shut (r := r) (D := rs ++ D0) (by rw [hd]; rfl)
  exact leaves (rs := rs) s' rfl (by simpa using h)
theorem JJ {ι : Inj} : ∀ {ps : List Nat} {vs : List VVal} {xs : List Value} {env : VEnv} {tmps : Array Value}, RelL ι env tmps.toList → RelL ι vs xs →
  RelL ι (YI env ps vs) (((ps.zip xs).foldl (fun t p => t.setIfInBounds p.1 p.2) tmps).toList)
 | [], vs, xs, env, tmps, h, k => by simpa [YI] using h
 | p :: ps, [], xs, env, tmps, h, k => by
  have : xs = [] := by simpa [RelL] using k
  subst this; simpa [YI] using h
 | p :: ps, v :: vs, xs, env, tmps, h, k => by
  simp only [RelL] at k
  obtain ⟨y, ys, rfl, ry, rys⟩ := k
  have h1 : RelL ι (env.set p v) (tmps.setIfInBounds p y).toList := by rw [Array.toList_setIfInBounds]; exact h.set p ry
  have := JJ (ps := ps) h1 rys
  simpa [YI] using this
theorem fold_params (ps : Array Nat) (xs : Array Value) (tmps : Array Value) :
  (ps.zip xs).foldl (fun tmps (t, a) => tmps.setIfInBounds t a) tmps = (ps.toList.zip xs.toList).foldl (fun t p => t.setIfInBounds p.1 p.2) tmps := by
 rw [← Array.foldl_toList]
 simp
theorem Sim.loop {w : World} {ι : Inj} {H : Ze} (s : Sim w0 ι H w) {l : Nat} {e : Ent} {st : LoopState} {p : Option Code} {fn : FuncId} {tmps : List VVal} {ps : List Nat} {as body : Code} (he : ι l = some e)
  (hH : H[l]? = some (.loop st p fn tmps ps as body)) : ∃ L, w.heap[e.r]? = some (.loop L) ∧ L.state = st ∧ L.pending = p ∧ RelL ι tmps L.tmps.toList ∧ L.params.toList = ps ∧ L.assign = as ∧ L.body = body ∧
   ∀ st' p', Sim w0 ι (H.set l (.loop st' p' fn tmps ps as body)) (w.putObj e.r (.loop { L with state := st', pending := p' })) := by
 obtain ⟨L, h1, h2, h3, h4, h5, h6, h7, h8⟩ := s.blk l e _ he hH
 have hlt : e.r < w.heap.size := (Array.getElem?_eq_some_iff.1 h1).1
 refine ⟨L, h1, h3, h4, h5, h6, h7, h8, fun st' p' => ?_⟩
 exact s.turn he hH rfl _ (Zaq s.below h2 _) (fun i hi hne => World.putObj_heap_other hne)
  ⟨_, World.putObj_heap_same hlt, h2, rfl, rfl, h5, h6, h7, h8⟩ (.inl rfl)
theorem jump_inv {ex : Exit} {j : Option Code} (h : Zaf ex = some j) : (ex = .normal ∧ j = none) ∨ (ex = .ret ∧ j = some .ret) ∨ ∃ id, ex = .exit id ∧ j = some (.exit id) := by
 unfold Zaf at h
 split at h
 ·simp at h; exact .inl ⟨rfl, h.symm⟩
 ·simp at h; exact .inr (.inl ⟨rfl, h.symm⟩)
 ·simp at h; exact .inr (.inr ⟨_, rfl, h.symm⟩)
 cases h
end
def Base (S : Sys) (H0 : Ze) (ι : Inj) : Prop := ∃ ι0 we, Sim S.w0 ι0 H0 we ∧ ∀ b, b < H0.length → ι b = ι0 b
def Inj.go (n : Nat) (ι ι' : Inj) : Prop := (∀ b, b < n → ι' b = ι b) ∧ (∀ r a, ι.z r = some a → ι'.z r = some a)
theorem Inj.go_refl (n : Nat) (ι : Inj) : Inj.go n ι ι := ⟨fun _ _ => rfl, fun _ _ h => h⟩
theorem Inj.go_trans {n : Nat} {a b c : Inj} (h : Inj.go n a b) (k : Inj.go n b c) : Inj.go n a c := ⟨fun i hi => (k.1 i hi).trans (h.1 i hi), fun _ _ x => k.2 _ _ (h.2 _ _ x)⟩
theorem Inj.ex.go {n m : Nat} {a b : Inj} (h : Inj.ex m a b) (hnm : n ≤ m) : Inj.go n a b := ⟨fun i hi => h.1 i (by omega), h.2.1⟩
theorem Base.go {S : Sys} {H0 : Ze} {ι ι' : Inj} (b : Base S H0 ι) (h : Inj.go H0.length ι ι') : Base S H0 ι' := by
 obtain ⟨ι0, we, s, e⟩ := b
 exact ⟨ι0, we, s, fun i hi => (h.1 i hi).trans (e i hi)⟩
def RdOk (H0 : Ze) (ι : Inj) : Option Nat → Option Nat → Prop
 | none, none => True
 | some l, some r => l < H0.length ∧ ∃ e, ι l = some e ∧ e.r = r
 | _, _ => False
theorem RdOk.go {H0 : Ze} {ι ι' : Inj} {rd ro : Option Nat} (r : RdOk H0 ι rd ro) (h : Inj.go H0.length ι ι') : RdOk H0 ι' rd ro := by
 cases rd <;> cases ro <;> simp only [RdOk] at r ⊢
 obtain ⟨hl, e, a, b⟩ := r; exact ⟨hl, e, (h.1 _ hl).trans a, b⟩
abbrev XV := Exit → VEnv → Ze → Prop
def BPost (S : Sys) (H0 : Ze) (rd : Option Nat) (D0 : List Nat) (ι : Inj) (Q : XV) (e : Exit) (a : Act) (w : World) : Prop :=
 ∃ ι' env H, Inj.go H0.length ι ι' ∧ H0.length ≤ H.length ∧ Sim S.w0 ι' H w ∧ RelL ι' env a.tmps.toList ∧ DsOk ι' D0 rd a.defers ∧ Q e env H
def B (S : Sys) (H0 : Ze) (rd : Option Nat) (c : Code) (env : VEnv) (H : Ze) (Q : XV) : Prop :=
 ∀ (ro : Option Nat) (n : Nat) (D0 : List Nat) (a : Act) (w : World) (ι : Inj), RdOk H0 ι rd ro → Base S H0 ι → H0.length ≤ H.length → Sim S.w0 ι H w → RelL ι env a.tmps.toList → DsOk ι D0 rd a.defers →
  c.wpIn (WF ro) n S.P (BPost S H0 rd D0 ι Q) a w
def RetPost (S : Sys) (ι : Inj) (H : Ze) (R : VVal → Ze → Prop) (e : Ending) (w' : World) : Prop :=
 ∃ x v G ι', e = .returned x ∧ Inj.ex H.length ι ι' ∧ H.length ≤ G.length ∧ Sim S.w0 ι' G w' ∧ Rel ι' v x ∧ R v G
def F (S : Sys) (f : FuncId) (args : List VVal) (H : Ze) (R : VVal → Ze → Prop) : Prop :=
 ∀ (n : Nat) (w : World) (ι : Inj) (args' : Array Value), Sim S.w0 ι H w → RelL ι args args'.toList →
  (callFunc f args').run S.P w = .ok (.enter f args') w ∧ CallsIn Fence.wide n S.P f args' w (RetPost S ι H R)
def Fv (S : Sys) (fv : VVal) (args : List VVal) (H : Ze) (R : VVal → Ze → Prop) : Prop :=
 ∀ (ro : Option Nat) (n : Nat) (w : World) (ι : Inj) (fv' : Value) (args' : Array Value) (o : Oper) (a : Act) (K : Act → World → Prop) (Q : Exit → Act → World → Prop),
  Sim S.w0 ι H w → Rel ι fv fv' → RelL ι args args'.toList →
  (∀ x w' ι' v G, Inj.ex H.length ι ι' → H.length ≤ G.length → Sim S.w0 ι' G w' → Rel ι' v x → R v G → K (a.put o.dst x) w') →
  o.uponIn (WF ro) n S.P a K Q ((do let d ← Deferred.ofValue fv' args'; invoke d.target d.args : Sem Next).run S.P w)
def Gh (S : Sys) (H0 : Ze) (vs : List VVal) (H : Ze) (vs' : List VVal) (H' : Ze) : Prop :=
 H0.length ≤ H.length → H0.length ≤ H'.length ∧ ∀ (w : World) (ι : Inj) (xs : List Value), Base S H0 ι → Sim S.w0 ι H w → RelL ι vs xs → ∃ ι', Inj.ex H0.length ι ι' ∧ Sim S.w0 ι' H' w ∧ RelL ι' vs' xs
section
variable {S : Sys}
theorem F.mono {f : FuncId} {args : List VVal} {H : Ze} {R R' : VVal → Ze → Prop} (h : F S f args H R) (hr : ∀ v G, R v G → R' v G) : F S f args H R' := by
 intro n w ι args' s r
 refine ⟨(h n w ι args' s r).1, CallsIn.mono (h n w ι args' s r).2 ?_⟩
 rintro e w' ⟨x, v, G, ι', a, b, c, d, e, f⟩
 exact ⟨x, v, G, ι', a, b, c, d, e, hr _ _ f⟩
theorem Fv.mono {f : VVal} {args : List VVal} {H : Ze} {R R' : VVal → Ze → Prop} (h : Fv S f args H R) (hr : ∀ v G, R v G → R' v G) : Fv S f args H R' :=
 fun ro n w ι fv' args' o a K Q s rf ra hK => h ro n w ι fv' args' o a K Q s rf ra fun x w' ι' v G h1 h2 h3 h4 h5 => hK x w' ι' v G h1 h2 h3 h4 (hr _ _ h5)
theorem B.mono {H0 : Ze} {rd : Option Nat} {c : Code} {env : VEnv} {H : Ze} {Q Q' : XV} (h : B S H0 rd c env H Q) (hq : ∀ e v G, Q e v G → Q' e v G) : B S H0 rd c env H Q' := by
 intro ro n D0 a w ι h1 h2 h3 h4 h5 h6
 refine wpIn_mono (h ro n D0 a w ι h1 h2 h3 h4 h5 h6) ?_
 rintro e a' w' ⟨ι', env', H', b1, b2, b3, b4, b5, b6⟩
 exact ⟨ι', env', H', b1, b2, b3, b4, b5, hq _ _ _ b6⟩
theorem Base.self {H : Ze} {ι : Inj} {w : World} (s : Sim S.w0 ι H w) : Base S H ι := ⟨ι, w, s, fun _ _ => rfl⟩
theorem F.gh {f : FuncId} {args : List VVal} {H : Ze} {R R' : VVal → Ze → Prop} (h : F S f args H R) (hr : ∀ v G, R v G → ∃ v' G', Gh S H [v] G [v'] G' ∧ R' v' G') : F S f args H R' := by
 intro n w ι args' s r
 refine ⟨(h n w ι args' s r).1, CallsIn.mono (h n w ι args' s r).2 ?_⟩
 rintro e w' ⟨x, v, G, ι', a, b, c, d, e, f⟩
 obtain ⟨v', G', g, hR⟩ := hr v G f
 obtain ⟨g1, g2⟩ := g c
 obtain ⟨ι2, i1, i2, i3⟩ := g2 w' ι' [x] ((Base.self s).go (b.go (Nat.le_refl _))) d (.one e)
 simp only [RelL] at i3
 obtain ⟨y, ys, e1, e2, _⟩ := i3
 cases e1
 exact ⟨x, v', G', ι2, a, Inj.ex_trans b i1 (Nat.le_refl _), g1, i2, e2, hR⟩
theorem Fv_fn {f : FuncId} {first cap args : List VVal} {H : Ze} {R : VVal → Ze → Prop} (h : F S f (first ++ args ++ cap) H R) : Fv S (.func f first cap) args H R := by
 intro ro n w ι fv' args' o a K Q s rf ra hK
 simp only [Rel] at rf
 obtain ⟨a1, c1, rfl, r1, r2⟩ := rf
 have rall : RelL ι (first ++ args ++ cap) (a1 ++ args' ++ c1).toList := by
  rw [Array.toList_append, Array.toList_append]; exact (r1.append ra).append r2
 obtain ⟨e1, hc⟩ := h (n - 1) w ι _ s rall
 have e2 : ((do let d ← Deferred.ofValue (.func (.func f) a1 c1) args'; invoke d.target d.args : Sem Next)).run S.P w = .ok (.enter f (a1 ++ args' ++ c1)) w := by
  simp only [Deferred.ofValue, Sem.run_bind, Sem.run_pure, Result.andThen_ok, invoke]
  exact e1
 rw [e2, Oper.uponIn_enter]
 refine ⟨fun h => by simp [Fence.wide] at h, ?_⟩
 refine CallsIn.mono (F := WF ro) hc ?_
 rintro e w' ⟨x, v, G, ι', rfl, hex, hl, s', rx, hR⟩
 exact hK x w' ι' v G hex hl s' rx hR
def fnK (S : Sys) (fn : Func) (H : Ze) (R : VVal → Ze → Prop) : XV := fun ex env G => (ex = .normal ∨ ex = .ret) ∧ ∃ v, ZX S.C.T env G fn.results = some v ∧ ∃ v' G', Gh S H [v] G [v'] G' ∧ R v' G'
theorem F_fn {f : FuncId} {fn : Func} {c : Code} {args : List VVal} {H : Ze} {R : VVal → Ze → Prop} (hf : S.C.fn f = some fn) (hb : fn.body = some c) (env : VEnv) (he : args ++ List.replicate (fn.ntmps - args.length) .skip = env)
  (h : B S H none c env H (fnK S fn H R)) : F S f args H R := by
 subst he
 intro n w ι args' s ra
 obtain ⟨hf', hn⟩ := S.ok.fns f fn hf
 refine ⟨Zaj hf' hn hb args' w, ?_⟩
 have hrel : RelL ι (args ++ List.replicate (fn.ntmps - args.length) .skip) (args' ++ Array.replicate (fn.ntmps - args'.size) undef).toList := by
  rw [Array.toList_append, Array.toList_replicate]
  have : args.length = args'.size := by have := ra.length; simpa using this
  rw [this]
  exact ra.append (.replicate (Rel.skip ι) _)
 have hw := h none n ι.df ⟨args' ++ Array.replicate (fn.ntmps - args'.size) undef, []⟩ w ι trivial (Base.self s) (Nat.le_refl _) s hrel ⟨[], rfl, rfl⟩
 refine callsIn_of_wp_marks (F := WF none) hf' hb trivial (wpIn_mono hw ?_)
 rintro e a w' ⟨ι', env', G, hgo, hl, s', r', ⟨rs, d1, d2⟩, hx, v, hv, v', G', hgh, hR⟩
 have fin : LeavesInM (WF none) n S.P fn a.tmps (RetPost S ι H R) a.defers .returning w' := by
  rw [d2]
  refine leaves (D0 := ι.df) (w0 := S.w0) s' d1 (fun w2 s2 => ?_)
  have r2 : RelL ⟨ι'.m, ι'.z, ι.df⟩ env' a.tmps.toList := RelL.mono (ι'.le_df ι.df) _ _ r'
  obtain ⟨x, hx, rx⟩ := results_of S.ok.tys s2 r2 hv
  obtain ⟨g1, g2⟩ := hgh hl
  obtain ⟨ι2, i1, i2, i3⟩ := g2 w2 _ [x] ((Base.self s).go (ι' := ⟨ι'.m, ι'.z, ι.df⟩) hgo) s2 (.one rx)
  simp only [RelL] at i3
  obtain ⟨y, ys, e1, e2, _⟩ := i3
  cases e1
  exact ⟨x, hx, x, v', G', ι2, rfl, ⟨fun b hb => (i1.1 b hb).trans (hgo.1 b hb), fun q a hq => i1.2.1 _ _ (hgo.2 _ _ hq), i1.2.2⟩, g1, i2, e2, hR⟩
 rcases hx with rfl | rfl
 ·exact fin
 exact fin
def seqK (S : Sys) (H0 : Ze) (rd : Option Nat) (b : Code) (Q : XV) : XV := fun e env H => match e with
 | .normal => B S H0 rd b env H Q
 | e => Q e env H
def blkK (id : Nat) (Q : XV) : XV := fun e env H => match e with
 | .exit j => if j = id then Q .normal env H else Q (.exit j) env H
 | e => Q e env H
variable {H0 : Ze} {rd : Option Nat} {env : VEnv} {H : Ze} {Q : XV}
theorem bpost {D0 : List Nat} {ι : Inj} {a : Act} {w : World} {e : Exit} (h3 : H0.length ≤ H.length) (h4 : Sim S.w0 ι H w) (h5 : RelL ι env a.tmps.toList) (h6 : DsOk ι D0 rd a.defers) (h : Q e env H) : BPost S H0 rd D0 ι Q e a w := ⟨ι, env, H, Inj.go_refl _ _, h3, h4, h5, h6, h⟩
theorem Zh (h : Q .normal env H) : B S H0 rd .skip env H Q := fun ro n D0 a w ι h1 h2 h3 h4 h5 h6 => wpIn_skip (bpost h3 h4 h5 h6 h)
theorem Zj (h : Q .ret env H) : B S H0 rd .ret env H Q := fun ro n D0 a w ι h1 h2 h3 h4 h5 h6 => wpIn_ret (bpost h3 h4 h5 h6 h)
theorem Zz {id : Nat} (h : Q (.exit id) env H) : B S H0 rd (.exit id) env H Q := fun ro n D0 a w ι h1 h2 h3 h4 h5 h6 => wpIn_exit (bpost h3 h4 h5 h6 h)
theorem BPost.go {D0 : List Nat} {ι ι' : Inj} {e : Exit} {a : Act} {w : World} (h : Inj.go H0.length ι ι') (p : BPost S H0 rd D0 ι' Q e a w) : BPost S H0 rd D0 ι Q e a w := by
 obtain ⟨ι2, env, H, b1, b⟩ := p
 exact ⟨ι2, env, H, Inj.go_trans h b1, b⟩
theorem Zc {x y : Code} (h : B S H0 rd x env H (seqK S H0 rd y Q)) : B S H0 rd (.seq x y) env H Q := by
 intro ro n D0 a w ι h1 h2 h3 h4 h5 h6
 refine wpIn_seq (wpIn_mono (h ro n D0 a w ι h1 h2 h3 h4 h5 h6) ?_)
 rintro e a1 w1 ⟨ι1, env1, H1, b1, b2, b3, b4, b5, b6⟩
 cases e
 case normal =>
  exact wpIn_mono (b6 ro n D0 a1 w1 ι1 (h1.go b1) (h2.go b1) b2 b3 b4 b5) (fun e a w p => p.go b1)
 all_goals exact ⟨ι1, env1, H1, b1, b2, b3, b4, b5, b6⟩
theorem Zi {x : Operand} {y z : Code} (t : Bool) (ht : env.eval x = .bool t) (ha : t = true → B S H0 rd y env H Q) (hb : t = false → B S H0 rd z env H Q) : B S H0 rd (.cond x y z) env H Q := by
 intro ro n D0 a w ι h1 h2 h3 h4 h5 h6
 have := XB h5 x
 rw [ht] at this
 have e : a.eval x = .bool t := by simpa [Rel] using this
 refine wpIn_cond e ?_
 cases t with
 | true => exact ha rfl ro n D0 a w ι h1 h2 h3 h4 h5 h6
 | false => exact hb rfl ro n D0 a w ι h1 h2 h3 h4 h5 h6
theorem ZN {x : Operand} {y z : Code} {t : Bool} (ht : env.eval x = .bool t) (he : t = true) (h1 : B S H0 rd y env H Q) : B S H0 rd (.cond x y z) env H Q :=
 Zi t ht (fun _ => h1) (fun h => by rw [he] at h; cases h)
theorem Yc {x : Operand} {y z : Code} {t : Bool} (ht : env.eval x = .bool t) (he : t = false) (h1 : B S H0 rd z env H Q) : B S H0 rd (.cond x y z) env H Q :=
 Zi t ht (fun h => by rw [he] at h; cases h) (fun _ => h1)
theorem Zg {id : Nat} {x : Code} (h : B S H0 rd x env H (blkK id Q)) : B S H0 rd (.block id x) env H Q := by
 intro ro n D0 a w ι h1 h2 h3 h4 h5 h6
 refine wpIn_block (wpIn_mono (h ro n D0 a w ι h1 h2 h3 h4 h5 h6) ?_)
 rintro e a1 w1 ⟨ι1, env1, H1, b1, b2, b3, b4, b5, b6⟩
 cases e
 case exit j =>
  simp only [blkK] at b6
  simp only [Exit.inBlock]
  split
  ·rename_i hj; rw [if_pos hj] at b6; exact ⟨ι1, env1, H1, b1, b2, b3, b4, b5, b6⟩
  rename_i hj; rw [if_neg hj] at b6; exact ⟨ι1, env1, H1, b1, b2, b3, b4, b5, b6⟩
 all_goals exact ⟨ι1, env1, H1, b1, b2, b3, b4, b5, b6⟩
theorem Ym {c : Code} {env' : VEnv} {H' : Ze} (g : Gh S H0 env H env' H') (h : B S H0 rd c env' H' Q) : B S H0 rd c env H Q := by
 intro ro n D0 a w ι h1 h2 h3 h4 h5 h6
 obtain ⟨g1, g2⟩ := g h3
 obtain ⟨ι', i1, i2, i3⟩ := g2 w ι _ h2 h4 h5
 have hgo := i1.go (Nat.le_refl _)
 exact wpIn_mono (h ro n D0 a w ι' (h1.go hgo) (h2.go hgo) g1 i2 i3 (h6.df i1.2.2)) (fun e a w p => p.go hgo)
theorem Gh.refl (S : Sys) (H0 : Ze) (vs : List VVal) (H : Ze) : Gh S H0 vs H vs H := fun h => ⟨h, fun w ι xs b s r => ⟨ι, Inj.ex_refl _ _, s, r⟩⟩
theorem Gh.trans {vs vs1 vs2 : List VVal} {G G1 G2 : Ze} (a : Gh S H0 vs G vs1 G1) (b : Gh S H0 vs1 G1 vs2 G2) : Gh S H0 vs G vs2 G2 := by
 intro h
 obtain ⟨a1, a2⟩ := a h
 obtain ⟨b1, b2⟩ := b a1
 refine ⟨b1, fun w ι xs hb s r => ?_⟩
 obtain ⟨ι1, i1, i2, i3⟩ := a2 w ι xs hb s r
 obtain ⟨ι2, j1, j2, j3⟩ := b2 w ι1 xs (hb.go (i1.go (Nat.le_refl _))) i2 i3
 exact ⟨ι2, Inj.ex_trans i1 j1 (Nat.le_refl _), j2, j3⟩
def ZcH (S : Sys) (H0 : Ze) (next : VEnv → Ze → Prop) (Q : XV) : XV := fun e env H => match e with
 | .normal => ∃ env' H', Gh S H0 env H env' H' ∧ next env' H'
 | e => Q e env H
theorem B_loop {b : Code} {α : Type} (μ : α → Nat) (head : α → VEnv → Ze → Prop)
  (round : ∀ x env H, head x env H → B S H0 rd b env H (ZcH S H0 (fun env' H' => ∃ y, μ y < μ x ∧ head y env' H') Q)) (x : α) (h : head x env H) : B S H0 rd (.loop b) env H Q := by
 intro ro n D0 a w ι h1 h2 h3 h4 h5 h6
 have key : ∀ (k : Nat) (x : α), μ x < k → ∀ env H a w ι, head x env H → RdOk H0 ι rd ro → Base S H0 ι → H0.length ≤ H.length → Sim S.w0 ι H w → RelL ι env a.tmps.toList → DsOk ι D0 rd a.defers →
   Code.roundsIn (WF ro) n S.P b (BPost S H0 rd D0 ι Q) k a w := by
  intro k
  induction k with
  | zero => intro x hx; omega
  | succ k ih =>
   intro x hx env H a w ι hh h1 h2 h3 h4 h5 h6
   rw [roundsIn_succ]
   refine wpIn_mono (round x env H hh ro n D0 a w ι h1 h2 h3 h4 h5 h6) ?_
   rintro e a1 w1 ⟨ι1, env1, H1, b1, b2, b3, b4, b5, b6⟩
   cases e
   case normal =>
    obtain ⟨env2, H2, g, y, hy, hhy⟩ := b6
    obtain ⟨g1, g2⟩ := g b2
    obtain ⟨ι2, i1, i2, i3⟩ := g2 w1 ι1 _ (h2.go b1) b3 b4
    have b12 := Inj.go_trans b1 (i1.go (Nat.le_refl _))
    exact JK (fun e a w p => p.go b12) _ _ _ (ih y (by omega) env2 H2 a1 w1 ι2 hhy (h1.go b12) (h2.go b12) g1 i2 i3 (b5.df i1.2.2))
   all_goals exact ⟨ι1, env1, H1, b1, b2, b3, b4, b5, b6⟩
 exact wpIn_loop_rounds (μ x + 1) (key (μ x + 1) x (Nat.lt_succ_self _) env H a w ι h h1 h2 h3 h4 h5 h6)
end
open Go Go.RowKit
section
variable {S : Sys}
def VVal.isUndef : VVal → Bool
 | .undef => true
 | _ => false
theorem VVal.ne_undef {v : VVal} (h : v.isUndef = false) : v ≠ .undef := by rintro rfl; cases h
def Zae : YR := fun _ _ _ => none
theorem Jm {P : Program} {w0 : World} : CallSound P w0 Zae := ⟨fun _ _ _ _ _ h => (by cases h), fun _ _ => rfl, fun _ _ _ _ _ h => (by cases h)⟩
theorem op_call {ops : Array Oper} {o : Oper} {env : VEnv} {H : Ze} {f : VVal} {args : List VVal} {R : VVal → Ze → Prop} (hw : Z7 ops env o.guard = some true) (hcal : ZZ S.C.meth env.eval o.op = some (f, args)) (hne : f ≠ .undef)
  (hF : Fv S f args H R) {ro : Option Nat} {n : Nat} {w : World} {ι : Inj} {a : Act} {K : Act → World → Prop} {Q : Exit → Act → World → Prop}
  (s : Sim S.w0 ι H w) (hρ : Ops ι env.eval a.eval o.op) (hg : ∀ j want d, o.guard = some (j, want) → (ops[j]?).bind (·.dst) = some d → Rel ι (env.getD d .skip) (a.tmps.getD d undef))
  (hK : ∀ x w' ι' v G, Inj.ex H.length ι ι' → H.length ≤ G.length → Sim S.w0 ι' G w' → Rel ι' v x → R v G → K (a.put o.dst x) w') :
  if Region.wanted o (yielded ops a.tmps) = true then o.wpIn (WF ro) n S.P a w K Q else (∀ f, o.about S.P w a.eval = some f → (WF ro).fn f) ∧ K (a.put o.dst undef) w := by
 rw [QG hw hg, if_pos rfl]
 refine ⟨fun _ _ => trivial, ?_⟩
 have hop : ∃ c, o.op = .call c := by
  cases ho : o.op <;> rw [ho] at hcal <;> simp [ZZ] at hcal
  exact ⟨_, rfl⟩
 obtain ⟨c, hop⟩ := hop
 rw [Oper.semAt_eq _ _ _ (by rw [hop]; intro c'; simp)]
 have hargs : RelL ι (c.args.toList.map env.eval) (c.args.map a.eval).toList := XX c.args fun x hx => hρ x (by rw [hop]; simp [Op.operands, Call.operands, hx])
 rw [hop] at hcal
 obtain ⟨callee, cargs, ats⟩ := c
 cases callee with
 | builtin b => simp [ZZ] at hcal
 | value g =>
  simp only [ZZ, Option.some.injEq, Prod.mk.injEq] at hcal
  obtain ⟨rfl, rfl⟩ := hcal
  have := hF ro n w ι (a.eval g) (cargs.map a.eval) o a K Q s (hρ g (by rw [hop]; simp [Op.operands, Call.operands])) hargs hK
  simpa only [execOp, hop, resolve] using this
 | invoke x name =>
  simp only [ZZ] at hcal
  have rx := hρ x (by rw [hop]; simp [Op.operands, Call.operands])
  split at hcal
  ·rename_i t u hx
   rw [hx] at rx
   simp only [Rel] at rx
   obtain ⟨y, hy, ry⟩ := rx
   split at hcal
   ·rename_i f' hm
    simp only [Option.some.injEq, Prod.mk.injEq] at hcal
    obtain ⟨rfl, rfl⟩ := hcal
    have := hF ro n w ι (.func (.func f') #[] #[]) (#[y] ++ cargs.map a.eval) o a K Q s (by simp only [Rel]; exact ⟨#[], #[], rfl, .nil, .nil⟩) (by simpa using RelL.cons ry (by simpa using hargs)) hK
    have e : ((do let d ← Deferred.ofValue (.func (.func f') #[] #[]) (#[y] ++ cargs.map a.eval); invoke d.target d.args : Sem Next)).run S.P w = (execOp a.eval o).run S.P w := by
     have h0 : (#[Value.iface t y] ++ cargs.map a.eval)[0]? = some (.iface t y) := by simp [Array.getElem?_append]
     have h1 : (#[Value.iface t y] ++ cargs.map a.eval).extract 1 (#[Value.iface t y] ++ cargs.map a.eval).size = cargs.map a.eval := by simp
     simp only [execOp, hop, resolve, Deferred.ofValue, Sem.run_bind, Sem.run_pure, Result.andThen_ok, invoke, hy, h0, h1]
     rw [S.ok.meths t name f' hm y (cargs.map a.eval) w]
     simp
    rw [e] at this
    exact this
   simp only [Option.some.injEq, Prod.mk.injEq] at hcal
   exact absurd hcal.1.symm hne
  simp only [Option.some.injEq, Prod.mk.injEq] at hcal
  exact absurd hcal.1.symm hne
def WL (S : Sys) (H0 : Ze) (ops : Array Oper) (l : List Oper) (env : VEnv) (H : Ze) (Q : VEnv → Ze → Prop) : Prop :=
 ∀ (i : Nat), ops.toList.drop i = l → ∀ (ro : Option Nat) (n : Nat) (a : Act) (w : World) (ι : Inj) (QQ : Exit → Act → World → Prop), Base S H0 ι → H0.length ≤ H.length → Sim S.w0 ι H w → RelL ι env a.tmps.toList →
  (∀ a' w' ι' env' H', a'.defers = a.defers → Inj.ex H0.length ι ι' → H0.length ≤ H'.length → Sim S.w0 ι' H' w' → RelL ι' env' a'.tmps.toList → Q env' H' → QQ .normal a' w') →
  wpOpsIn (WF ro) n S.P ops QQ (List.range' i l.length) a w
variable {H0 : Ze} {rd : Option Nat} {env : VEnv} {H : Ze} {Q : XV}
theorem Za {id : Nat} {ops : Array Oper} (h : WL S H0 ops ops.toList env H fun env H => Q .normal env H) : B S H0 rd (.region id ops false) env H Q := by
 intro ro n D0 a w ι h1 h2 h3 h4 h5 h6
 refine wpIn_region ?_
 have := h 0 (by simp) ro n a w ι (BPost S H0 rd D0 ι Q) h2 h3 h4 h5 (fun a' w' ι' env' H' d1 d2 d3 d4 d5 d6 => ⟨ι', env', H', d2.go (Nat.le_refl _), d3, d4, d5, by rw [d1]; exact h6.df d2.2.2, d6⟩)
 rw [List.range_eq_range']
 simpa using this
variable {ops : Array Oper} {o : Oper} {l : List Oper} {K : VEnv → Ze → Prop}
theorem Zd (h : K env H) : WL S H0 ops [] env H K := fun i hi ro n a w ι QQ h2 h3 h4 h5 hQ => hQ a w ι env H rfl (Inj.ex_refl _ _) h3 h4 h5 h
theorem L_gh {env' : VEnv} {H' : Ze} (g : Gh S H0 env H env' H') (h : WL S H0 ops l env' H' K) : WL S H0 ops l env H K := by
 intro i hi ro n a w ι QQ h2 h3 h4 h5 hQ
 obtain ⟨g1, g2⟩ := g h3
 obtain ⟨ι', i1, i2, i3⟩ := g2 w ι _ h2 h4 h5
 exact h i hi ro n a w ι' QQ (h2.go (i1.go (Nat.le_refl _))) g1 i2 i3 fun a' w' ι2 env2 H2 d1 d2 d3 d4 d5 d6 => hQ a' w' ι2 env2 H2 d1 (Inj.ex_trans i1 d2 (Nat.le_refl _)) d3 d4 d5 d6
theorem Zcn {i : Nat} (hi : ops.toList.drop i = o :: l) : ops[i]? = some o ∧ ops.toList.drop (i + 1) = l := by
 refine ⟨?_, by rw [← List.drop_drop, hi]; rfl⟩
 have : ops.toList[i]? = some o := by rw [← List.head?_drop, hi]; rfl
 simpa using this
theorem L_op {env' : VEnv} {H' : Ze} {v : VVal} (hg : Z7 ops env o.guard = some true) (hc : ZZ S.C.meth env.eval o.op = none) (hv : vop S.C.T env.eval H o.op = some (v, H'))
  (he : env.put o.dst v = env') (h : WL S H0 ops l env' H' K) : WL S H0 ops (o :: l) env H K := by
 subst he
 intro i hi ro n a w ι QQ h2 h3 h4 h5 hQ
 obtain ⟨ho, hi'⟩ := Zcn hi
 rw [List.length_cons, List.range'_succ, wpOpsIn_cons]
 unfold wpOpIn
 rw [ho]
 have hrun : YL S.C.T S.C.meth Zae ops o env H = some (v, H', X0 S.C.T o.op env.eval v H H') := by unfold YL; simp only [hg, hc, hv]
 have hl := vop_len hv
 refine op_any S.ok Jm hrun h4 (fun x _ => XB h5 x) (fun _ _ d _ _ => Qu h5 d) (fun x w1 ι1 e1 s1 r1 => ?_)
 have e2 := Inj.ex_le e1 h3
 exact h (i + 1) hi' ro n _ w1 ι1 QQ (h2.go (e2.go (Nat.le_refl _))) (by omega) s1 (QK (RelL.mono (h4.le e1) _ _ h5) _ r1) fun a' w' ι2 env2 H2 d1 d2 d3 d4 d5 d6 => hQ a' w' ι2 env2 H2 (d1.trans (Xa _ _ _)) (Inj.ex_trans e2 d2 (Nat.le_refl _)) d3 d4 d5 d6
theorem L_off {env' : VEnv} (hg : Z7 ops env o.guard = some false) (he : env.put o.dst .skip = env') (h : WL S H0 ops l env' H K) : WL S H0 ops (o :: l) env H K := by
 subst he
 intro i hi ro n a w ι QQ h2 h3 h4 h5 hQ
 obtain ⟨ho, hi'⟩ := Zcn hi
 rw [List.length_cons, List.range'_succ, wpOpsIn_cons]
 unfold wpOpIn
 rw [ho]
 have hrun : YL S.C.T S.C.meth Zae ops o env H = some (.skip, H, .calm) := by unfold YL; simp only [hg]
 refine op_any S.ok Jm hrun h4 (fun x _ => XB h5 x) (fun _ _ d _ _ => Qu h5 d) (fun x w1 ι1 e1 s1 r1 => ?_)
 have e2 := Inj.ex_le e1 h3
 exact h (i + 1) hi' ro n _ w1 ι1 QQ (h2.go (e2.go (Nat.le_refl _))) h3 s1 (QK (RelL.mono (h4.le e1) _ _ h5) _ r1) fun a' w' ι2 env2 H2 d1 d2 d3 d4 d5 d6 => hQ a' w' ι2 env2 H2 (d1.trans (Xa _ _ _)) (Inj.ex_trans e2 d2 (Nat.le_refl _)) d3 d4 d5 d6
theorem L_callV {f : VVal} {args : List VVal} {R : VVal → Ze → Prop} (hg : Z7 ops env o.guard = some true) (hc : ZZ S.C.meth env.eval o.op = some (f, args)) (hu : f.isUndef = false)
  (hF : Fv S f args H R) (h : ∀ v G, R v G → WL S H0 ops l (env.put o.dst v) G K) : WL S H0 ops (o :: l) env H K := by
 intro i hi ro n a w ι QQ h2 h3 h4 h5 hQ
 obtain ⟨ho, hi'⟩ := Zcn hi
 rw [List.length_cons, List.range'_succ, wpOpsIn_cons]
 unfold wpOpIn
 rw [ho]
 refine op_call hg hc (VVal.ne_undef hu) hF h4 (fun x _ => XB h5 x) (fun _ _ d _ _ => Qu h5 d) (fun x w1 ι1 v G e1 hl s1 r1 hR => ?_)
 have e2 := Inj.ex_le e1 h3
 exact h v G hR (i + 1) hi' ro n _ w1 ι1 QQ (h2.go (e2.go (Nat.le_refl _))) (by omega) s1 (QK (RelL.mono (h4.le e1) _ _ h5) _ r1) fun a' w' ι2 env2 H2 d1 d2 d3 d4 d5 d6 => hQ a' w' ι2 env2 H2 (d1.trans (Xa _ _ _)) (Inj.ex_trans e2 d2 (Nat.le_refl _)) d3 d4 d5 d6
theorem Zs {f : FuncId} {first cap args : List VVal} {all : List VVal} {R : VVal → Ze → Prop} (hg : Z7 ops env o.guard = some true) (hc : ZZ S.C.meth env.eval o.op = some (.func f first cap, args)) (ha : first ++ args ++ cap = all)
  (hF : F S f all H R) (h : ∀ v G, R v G → WL S H0 ops l (env.put o.dst v) G K) : WL S H0 ops (o :: l) env H K :=
 L_callV hg hc rfl (Fv_fn (ha ▸ hF)) h
theorem L_env {env' : VEnv} (he : env = env') (h : WL S H0 ops l env' H K) : WL S H0 ops l env H K := he ▸ h
theorem ZcB {H' : Ze} (he : H = H') (h : WL S H0 ops l env H' K) : WL S H0 ops l env H K := he ▸ h
theorem set_bool {env : VEnv} {d : Nat} {t : Bool} (hs : env.getD d .skip = .bool t) : env.set d (.bool t) = env := by
 rw [List.getD_eq_getElem?_getD] at hs
 cases he : env[d]? with
 | none => rw [he] at hs; simp at hs
 | some u => rw [he] at hs; simp only [Option.getD_some] at hs; subst hs; exact XA he
theorem ZB {env1 env2 : VEnv} (d : Nat) {t : Bool} (hs : env.getD d .skip = .bool t) (e1 : env.set d (.bool true) = env1) (e2 : env.set d (.bool false) = env2)
  (h1 : t = true → WL S H0 ops l env1 H K) (h2 : t = false → WL S H0 ops l env2 H K) : WL S H0 ops l env H K := by
 have := set_bool hs
 cases t with
 | true => rw [this] at e1; subst e1; exact h1 rfl
 | false => rw [this] at e2; subst e2; exact h2 rfl
inductive Tr where
 | k (c : Cls)
 | it (x : Item')
def XZ : Item' → Cls
 | .calm => .calm
 | .look .. => .look
 | .grow _ => .grow
 | .turn .. => .turn
def Tr.kind : Tr → Cls
 | .k c => c
 | .it x => XZ x
def Tr.ok : Tr → Item' → Prop
 | .k c, x => XZ x = c
 | .it y, x => x = y
def need2 : Tr → Tr → Option (List Prop)
 | .it a, .it b => some [fine a b]
 | _, _ => none
def need1 (x y : Tr) : Option (List Prop) :=
 match x.kind, y.kind with
 | .calm, _ | _, .calm | .look, .look | .look, .grow | .grow, .look | .grow, .grow => some []
 | _, _ => need2 x y
def needs (bef : Array Nat) (i : Nat) (x : Tr) : List (Nat × Tr) → Option (List Prop)
 | [] => some []
 | (j, y) :: rest => if (bef.getD j 0).testBit i then needs bef i x rest else
  match need1 x y, needs bef i x rest with
  | some a, some b => some (a ++ b)
  | _, _ => none
def need (bef : Array Nat) : List (Nat × Tr) → Option (List Prop)
 | [] => some []
 | (i, x) :: rest => match needs bef i x rest, need bef rest with
  | some a, some b => some (a ++ b)
  | _, _ => none
def AllT : List Prop → Prop
 | [] => True
 | p :: ps => p ∧ AllT ps
theorem AllT.app {a b : List Prop} (h : AllT (a ++ b)) : AllT a ∧ AllT b := by
 induction a with
 | nil => exact ⟨trivial, h⟩
 | cons p a ih => exact ⟨⟨h.1, (ih h.2).1⟩, (ih h.2).2⟩
inductive Match2 : List (Nat × Tr) → List (Nat × Item') → Prop where
 | nil : Match2 [] []
 | cons {p : Nat × Tr} {q : Nat × Item'} {l : List (Nat × Tr)} {m : List (Nat × Item')} (h : p.1 = q.1 ∧ p.2.ok q.2) (t : Match2 l m) : Match2 (p :: l) (q :: m)
theorem Tr.kind_ok {x : Tr} {a : Item'} (h : x.ok a) : x.kind = XZ a := by
 cases x with
 | k c => exact h.symm
 | it y => have : a = y := h; subst this; rfl
theorem need1_fine {x y : Tr} {a b : Item'} (hx : x.ok a) (hy : y.ok b) {ps : List Prop} (h : need1 x y = some ps) (hp : AllT ps) : fine a b := by
 unfold need1 at h
 rw [Tr.kind_ok hx, Tr.kind_ok hy] at h
 have last : need2 x y = some ps → fine a b := by
  intro h
  cases x <;> cases y <;> simp only [need2, Option.some.injEq, reduceCtorEq] at h
  have h1 : a = _ := hx
  have h2 : b = _ := hy
  subst h1 h2 h
  exact hp.1
 cases a <;> cases b <;> simp only [XZ] at h <;> first | exact last h | simp [fine]
theorem JZ {bef : Array Nat} {i : Nat} {x : Tr} {a : Item'} (hx : x.ok a) : ∀ {l : List (Nat × Tr)} {m : List (Nat × Item')}, Match2 l m → ∀ {ps : List Prop}, needs bef i x l = some ps → AllT ps →
  ∀ y, y ∈ m → (bef.getD y.1 0).testBit i = false → fine a y.2
 | [], [], _, ps, _, _, y, hy, _ => by cases hy
 | (j, p) :: l, q :: m, h, ps, hn, hp, y, hy, hb => by
  obtain ⟨hpq, hrest⟩ : (j = q.1 ∧ p.ok q.2) ∧ Match2 l m := by cases h with | cons a b => exact ⟨a, b⟩
  unfold needs at hn
  split at hn
  ·rename_i hbit
   rcases List.mem_cons.1 hy with rfl | hy
   ·rw [hpq.1] at hbit; rw [hb] at hbit; cases hbit
   exact JZ hx hrest hn hp y hy hb
  split at hn
  ·rename_i u v hu hv
   cases hn
   obtain ⟨h1, h2⟩ := AllT.app hp
   rcases List.mem_cons.1 hy with rfl | hy
   ·exact need1_fine hx hpq.2 hu h1
   exact JZ hx hrest hv h2 y hy hb
  cases hn
theorem Zc6 {bef : Array Nat} : ∀ {l : List (Nat × Tr)} {m : List (Nat × Item')}, Match2 l m → ∀ {ps : List Prop}, need bef l = some ps → AllT ps → JF bef m
 | [], [], _, ps, _, _ => trivial
 | (i, p) :: l, q :: m, h, ps, hn, hp => by
  obtain ⟨hpq, hrest⟩ : (i = q.1 ∧ p.ok q.2) ∧ Match2 l m := by cases h with | cons a b => exact ⟨a, b⟩
  unfold need at hn
  split at hn
  ·rename_i u v hu hv
   cases hn
   obtain ⟨h1, h2⟩ := AllT.app hp
   exact ⟨fun y hy hb => JZ hpq.2 hrest hu h1 y hy (by rw [hpq.1]; exact hb), Zc6 hrest hv h2⟩
  cases hn
theorem ZbW {l : List (Nat × Tr)} {m : List (Nat × Item')} (h : Match2 l m) {x : Nat × Tr} {y : Nat × Item'} (hxy : x.1 = y.1 ∧ x.2.ok y.2) : Match2 (l ++ [x]) (m ++ [y]) := by
 induction h with
 | nil => exact .cons hxy .nil
 | cons a b ih => exact .cons a ih
def WO (S : Sys) (ops : Array Oper) (bef : Array Nat) (l : List Nat) (env : VEnv) (H : Ze) (tk : List (Nat × Tr)) (Q : VEnv → Ze → Prop) : Prop :=
 ∃ call : Nat → YR, (∀ i, CallSound S.P S.w0 (call i)) ∧ ∀ tr, Match2 tk tr → ∃ env' H' tr', Xe S.C.T S.C.meth call ops l env H tr = some (env', H', tr') ∧ JF bef tr' ∧ Q env' H'
theorem ZK {id : Nat} (order : List Nat) (bef : Array Nat) (hd : drawOk S.C.T ops = true) (ho : canon S.C.T ops = order) (hb : Region.before ops = bef)
  (h : WO S ops bef order env H [] fun env H => Q .normal env H) : B S H0 rd (.region id ops true) env H Q := by
 subst ho hb
 obtain ⟨call, hcall, h⟩ := h
 obtain ⟨env', H', tr', h1, h2, h3⟩ := h [] .nil
 intro ro n D0 a w ι g1 g2 g3 g4 g5 g6
 have hl := JU (T := S.C.T) (meth := S.C.meth) (fun i => (hcall i).len) ops _ _ _ _ _ _ _ h1
 refine region_draw S.ok hcall h1 hd h2 g4 g5 (fun a' w' ι' d1 d2 d3 d4 => ?_)
 exact ⟨ι', env', H', d2.go g3, by omega, d3, d4, by rw [d1]; exact g6.df d2.2.2, h3⟩
variable {bef : Array Nat} {tk tk' : List (Nat × Tr)} {i : Nat} {li : List Nat}
theorem ZW (ps : List Prop) (hn : need bef tk = some ps) (hp : AllT ps) (h : K env H) : WO S ops bef [] env H tk K :=
 ⟨fun _ => Zae, fun _ => Jm, fun tr htr => ⟨env, H, tr, rfl, Zc6 htr hn hp, h⟩⟩
theorem Zba {T : TypeId → Option VTy} {meth : TypeId → String → Option FuncId} {call call' : Nat → YR} {ops : Array Oper} : ∀ {l : List Nat} {env : VEnv} {H : Ze} {tr : List (Nat × Item')}, (∀ i, i ∈ l → call i = call' i) → Xe T meth call ops l env H tr = Xe T meth call' ops l env H tr
 | [], _, _, _, _ => rfl
 | i :: l, env, H, tr, h => by
  simp only [Xe]
  rw [h i (List.mem_cons_self ..)]
  cases ops[i]? with
  | none => rfl
  | some o =>
   simp only
   cases YL T meth (call' i) ops o env H with
   | none => rfl
   | some r =>
    obtain ⟨v, H', it⟩ := r
    simp only
    exact Zba fun j hj => h j (List.mem_cons_of_mem _ hj)
theorem O_step (t : Tr) {v : VVal} {H' : Ze} {it : Item'} (ho : ops[i]? = some o) (hrun : YL S.C.T S.C.meth Zae ops o env H = some (v, H', it)) (hcal : ∀ c, YL S.C.T S.C.meth c ops o env H = YL S.C.T S.C.meth Zae ops o env H) (ht : t.ok it)
  (h : WO S ops bef li (env.put o.dst v) H' (tk ++ [(i, t)]) K) : WO S ops bef (i :: li) env H tk K := by
 obtain ⟨call, hc, h⟩ := h
 refine ⟨call, hc, fun tr htr => ?_⟩
 obtain ⟨env', H2, tr', h3, h4⟩ := h (tr ++ [(i, it)]) (ZbW htr ⟨rfl, ht⟩)
 refine ⟨env', H2, tr', ?_, h4⟩
 simp only [Xe, ho, hcal, hrun]
 exact h3
theorem kind_item {T : TypeId → Option VTy} {op : Op} {ρ : Operand → VVal} {v : VVal} {H H' : Ze} : XZ (X0 T op ρ v H H') = Yh T op := by
 unfold X0; cases Yh T op <;> rfl
theorem O_op {env' : VEnv} {H' : Ze} {c : Cls} {v : VVal} (ho : ops[i]? = some o) (hg : Z7 ops env o.guard = some true) (hc : ZZ S.C.meth env.eval o.op = none)
  (hv : vop S.C.T env.eval H o.op = some (v, H')) (hk : Yh S.C.T o.op = c) (he : env.put o.dst v = env') (ht : tk ++ [(i, .k c)] = tk') (h : WO S ops bef li env' H' tk' K) : WO S ops bef (i :: li) env H tk K :=
 O_step (.k c) (v := v) (H' := H') (it := X0 S.C.T o.op env.eval v H H') ho (by unfold YL; simp only [hg, hc, hv]) (fun c => by unfold YL; simp only [hg, hc, hv]) (by show XZ _ = c; rw [kind_item, hk]) (by subst he ht; exact h)
theorem Yb {env' : VEnv} {H' : Ze} {v : VVal} {x : Item'} (ho : ops[i]? = some o) (hg : Z7 ops env o.guard = some true) (hc : ZZ S.C.meth env.eval o.op = none)
  (hv : vop S.C.T env.eval H o.op = some (v, H')) (hx : X0 S.C.T o.op env.eval v H H' = x) (he : env.put o.dst v = env') (ht : tk ++ [(i, .it x)] = tk') (h : WO S ops bef li env' H' tk' K) : WO S ops bef (i :: li) env H tk K :=
 O_step (.it x) (v := v) (H' := H') (it := X0 S.C.T o.op env.eval v H H') ho (by unfold YL; simp only [hg, hc, hv]) (fun c => by unfold YL; simp only [hg, hc, hv]) (by show _ = x; exact hx) (by subst he ht; exact h)
theorem O_off {env' : VEnv} (ho : ops[i]? = some o) (hg : Z7 ops env o.guard = some false) (he : env.put o.dst .skip = env') (ht : tk ++ [(i, .k .calm)] = tk')
  (h : WO S ops bef li env' H tk' K) : WO S ops bef (i :: li) env H tk K :=
 O_step (.k .calm) (v := .skip) (H' := H) (it := .calm) ho (by unfold YL; simp only [hg]) (fun c => by unfold YL; simp only [hg]) rfl (by subst he ht; exact h)
open Classical in
noncomputable def oneCall (f0 : VVal) (args0 : List VVal) (H0 : Ze) (v : VVal) (G : Ze) : YR := fun f args H => if f = f0 ∧ args = args0 ∧ H = H0 then some (v, G) else none
theorem oneCall_ok {f0 : VVal} {args0 : List VVal} {H0 : Ze} {v : VVal} {G : Ze} (hl : H0.length ≤ G.length) (hne : f0 ≠ .undef) (h : Fv S f0 args0 H0 fun v' G' => v' = v ∧ G' = G) : CallSound S.P S.w0 (oneCall f0 args0 H0 v G) := by
 refine ⟨?_, ?_, ?_⟩
 ·intro f args H v' H' hc
  unfold oneCall at hc
  split at hc
  ·rename_i e; obtain ⟨_, _, rfl⟩ := e; cases hc; exact hl
  cases hc
 ·intro args H
  unfold oneCall
  rw [if_neg]
  rintro ⟨e, _⟩; exact hne e.symm
 intro fv args H v' H' hc ro n w ι fv' args' o a K Q s rf ra hK
 unfold oneCall at hc
 split at hc
 ·rename_i e
  obtain ⟨rfl, rfl, rfl⟩ := e
  cases hc
  exact h ro n w ι fv' args' o a K Q s rf ra (fun x w' ι' v G e1 _ e3 e4 e5 => by obtain ⟨rfl, rfl⟩ := e5; exact hK x w' ι' e1 e3 e4)
 cases hc
theorem Yd {f : FuncId} {first cap args all : List VVal} {v : VVal} {G : Ze} {env' : VEnv} (ho : ops[i]? = some o) (hg : Z7 ops env o.guard = some true) (hc : ZZ S.C.meth env.eval o.op = some (.func f first cap, args)) (ha : first ++ args ++ cap = all)
  (hi : li.contains i = false) (hF : F S f all H fun v' G' => v' = v ∧ G' = G) (hl : H.length ≤ G.length) (he : env.put o.dst v = env') (ht : tk ++ [(i, .it (.turn H G))] = tk') (h : WO S ops bef li env' G tk' K) : WO S ops bef (i :: li) env H tk K := by
 subst ha he ht
 obtain ⟨call, hcs, h⟩ := h
 refine ⟨fun j => if j = i then oneCall (.func f first cap) args H v G else call j, fun j => ?_, fun tr htr => ?_⟩
 ·by_cases hj : j = i
  ·simp only [hj, if_true]
   exact oneCall_ok hl (by simp) (Fv_fn hF)
  simp only [hj, if_false]; exact hcs j
 obtain ⟨env', H2, tr', h3, h4⟩ := h (tr ++ [(i, .turn H G)]) (ZbW (x := (i, Tr.it (.turn H G))) (y := (i, Item'.turn H G)) htr ⟨rfl, rfl⟩)
 refine ⟨env', H2, tr', ?_, h4⟩
 have hrun : YL S.C.T S.C.meth (oneCall (.func f first cap) args H v G) ops o env H = some (v, G, .turn H G) := by
  unfold YL; simp only [hg, hc]
  unfold oneCall
  simp
 simp only [Xe, ho, if_true, hrun]
 rw [← h3]
 refine Zba fun j hj => ?_
 have hji : j ≠ i := by
  rintro rfl
  have : li.contains j = true := by simpa using hj
  rw [hi] at this; cases this
 simp only [hji, if_false]
theorem Xi {env1 env2 : VEnv} (d : Nat) {t : Bool} (hs : env.getD d .skip = .bool t) (e1 : env.set d (.bool true) = env1) (e2 : env.set d (.bool false) = env2)
  (h1 : t = true → WO S ops bef li env1 H tk K) (h2 : t = false → WO S ops bef li env2 H tk K) : WO S ops bef li env H tk K := by
 have := set_bool hs
 cases t with
 | true => rw [this] at e1; subst e1; exact h1 rfl
 | false => rw [this] at e2; subst e2; exact h2 rfl
def roundK (l : Nat) (R : VVal → Ze → Prop) : XV := fun ex _ H2 => ∃ j, Zaf ex = some j ∧ ∃ st p fn tmps ps as body, H2[l]? = some (.loop st p fn tmps ps as body) ∧
 R (.bool j.isNone) (H2.set l (.loop (if j.isNone then .ready else .done) j fn tmps ps as body))
def asgK (S : Sys) (H : Ze) (l : Nat) (body : Code) (Q : XV) : XV := fun ex env H1 => ex = .normal ∧ ∃ p fn' tmps ps as body', H1[l]? = some (.loop .ready p fn' tmps ps as body') ∧
 B S H (some l) body env (H1.set l (.loop .busy p fn' tmps ps as body')) Q
theorem Zcr {lp : Nat} {args : List VVal} {R : VVal → Ze → Prop} {p : Option Code} {fn : FuncId} {tmps : List VVal} {ps : List Nat} {as body : Code} (hH : H[lp]? = some (.loop .ready p fn tmps ps as body)) (hl : args.length = ps.length)
  (env : VEnv) (he : YI tmps ps args = env) (h : B S H (some lp) as env H (asgK S H lp body (roundK lp R))) : Fv S (.yield lp) args H R := by
 subst he
 intro ro n w ι fv' args' o a K Q s rf ra hK
 simp only [Rel] at rf
 obtain ⟨e, he, rfl⟩ := rf
 obtain ⟨L, hL, hst, hpe, htm, hps, has, hbody, _⟩ := s.loop he hH
 have hlt : lp < H.length := s.dom lp e he
 have hsz : args'.size = L.params.size := by
  have h1 := ra.length
  have h2 : L.params.toList.length = ps.length := by rw [hps]
  simp at h1 h2; omega
 have e2 : ((do let d ← Deferred.ofValue (.func (.yield e.r) #[] #[]) args'; invoke d.target d.args : Sem Next)).run S.P w = .ok (.round e.r L.fn ((L.params.zip args').foldl (fun tmps (t, a) => tmps.setIfInBounds t a) L.tmps) L.assign L.body) w := by
  simp only [Deferred.ofValue, Sem.run_bind, Sem.run_pure, Result.andThen_ok, invoke]
  rw [Array.empty_append]
  exact run_yield hL hsz
 rw [e2, Oper.uponIn_round]
 refine ⟨fun h => by simp [Fence.wide] at h, ?_⟩
 have hrp : RelL ι (YI tmps ps args) ((L.params.zip args').foldl (fun tmps (t, a) => tmps.setIfInBounds t a) L.tmps).toList := by
  rw [fold_params, hps]; exact JJ htm ra
 have hb0 := Base.self s
 have hw1 := h (some e.r) (n - 1) ι.df ⟨(L.params.zip args').foldl (fun tmps (t, a) => tmps.setIfInBounds t a) L.tmps, []⟩ w ι ⟨hlt, e, he, rfl⟩ hb0 (Nat.le_refl _) s hrp ⟨rfl, rfl⟩
 rw [← has] at hw1
 refine roundIn_of_wpIn (F := WF ro) (n := n - 1) trivial (wpIn_mono (F := WF (some e.r)) hw1 ?_)
 rintro ex a1 w1 ⟨ι1, env1, H1, hgo1, hl1, s1, r1, ⟨hd1, hdf1⟩, rfl, p', fn', tmps', ps', as', body', hH1, hB⟩
 simp only [Exit.then]
 have he1 : ι1 lp = some e := (hgo1.1 lp hlt).trans he
 obtain ⟨L1, hL1, hst1, hpe1, htm1, hps1, has1, hbody1, hput1⟩ := s1.loop he1 hH1
 refine ⟨_, run_beginRound hL1 hst1, ?_⟩
 have s1' := hput1 .busy p'
 have heq : ({ L1 with state := .busy, pending := p' } : Loop) = { L1 with state := .busy } := by rw [← hpe1]
 rw [heq] at s1'
 have hw2 := hB (some e.r) (n - 1) ι.df a1 (w1.putObj e.r (.loop { L1 with state := .busy })) ι1 ⟨hlt, e, he1, rfl⟩ (hb0.go hgo1) (by rw [List.length_set]; exact hl1) s1' r1 ⟨hd1, hdf1⟩
 rw [← hbody] at hw2
 refine wpIn_mono hw2 ?_
 rintro ex2 a2 w2 ⟨ι2, env2, H2, hgo2, hl2, s2, r2, ⟨hd2, hdf2⟩, j, hj, st2, p2, fn2, tmps2, ps2, as2, body2, hH2, hR⟩
 have fin : ∃ v w3, (Instr.endRound e.r j).run S.P w2 = .ok v w3 ∧ K (a.put o.dst v) w3 := by
  have he2 : ι2 lp = some e := (hgo2.1 lp hlt).trans he1
  obtain ⟨L2, hL2, hst2, hpe2, htm2, hps2, has2, hbody2, hput2⟩ := s2.loop he2 hH2
  refine ⟨_, _, run_endRound j hL2, ?_⟩
  have s3 := hput2 (if j.isNone then .ready else .done) j
  have hgo12 := Inj.go_trans hgo1 hgo2
  exact hK _ _ ι2 _ _ ⟨hgo12.1, hgo12.2, hdf2⟩ (by rw [List.length_set]; exact hl2) s3 (by simp [Rel]) hR
 obtain ⟨v3, w4, h1, h2⟩ := fin
 rcases jump_inv hj with ⟨rfl, rfl⟩ | ⟨rfl, rfl⟩ | ⟨id, rfl, rfl⟩
 ·exact ⟨v3, w4, h1, h2⟩
 ·exact ⟨v3, w4, h1, h2⟩
 exact ⟨v3, w4, h1, h2⟩
theorem Fv.gh {f : VVal} {args : List VVal} {R R' : VVal → Ze → Prop} (h : Fv S f args H R) (hr : ∀ v G, R v G → ∃ v' G', Gh S H [v] G [v'] G' ∧ R' v' G') : Fv S f args H R' := by
 intro ro n w ι fv' args' o a K Q s rf ra hK
 refine h ro n w ι fv' args' o a K Q s rf ra (fun x w' ι' v G h1 h2 h3 h4 h5 => ?_)
 obtain ⟨v', G', g, hR⟩ := hr v G h5
 obtain ⟨g1, g2⟩ := g h2
 obtain ⟨ι2, i1, i2, i3⟩ := g2 w' ι' [x] ((Base.self s).go (h1.go (Nat.le_refl _))) h3 (.one h4)
 simp only [RelL] at i3
 obtain ⟨y, ys, e1, e2, _⟩ := i3
 cases e1
 exact hK x w' ι2 v' G' (Inj.ex_trans h1 i1 (Nat.le_refl _)) g1 i2 e2 hR
def QP (p : Option Code) (env : VEnv) (H : Ze) (Q : XV) : Prop := match p with
 | none => Q .normal env H
 | some .ret => Q .ret env H
 | some (.exit id) => Q (.exit id) env H
 | some _ => False
theorem YU (w : World) (o : Obj) {i : Nat} (hi : i < w.heap.size) : (w.alloc o).heap[i]? = w.heap[i]? := by
 show (w.heap.push o)[i]? = _
 rw [Array.getElem?_push, if_neg (by omega)]
theorem Sim.defer {w0 w : World} {ι : Inj} (s : Sim w0 ι H w) : Sim w0 ⟨ι.m, ι.z, w.heap.size :: ι.df⟩ H (w.alloc (.deferred (some []))) := by
 refine ⟨s.below.alloc s.below.size _, ⟨fun r arr h => ?_, ?_, fun r h => ?_⟩, s.fo, s.dom, fun b e k h g => ?_, s.inj⟩
 ·obtain ⟨t, fr, hr, hk⟩ := s.frz.fz r arr h
  exact ⟨t, fr, by rw [YU w _ (s.frz.lt (.inl ⟨arr, h⟩))]; exact hr, hk⟩
 ·rw [List.nodup_cons]
  exact ⟨fun h => by have := s.frz.lt (.inr h); omega, s.frz.dn⟩
 ·rcases List.mem_cons.1 h with rfl | h
  ·exact ⟨World.alloc_heap_new w _, s.below.size⟩
  obtain ⟨a, b⟩ := s.frz.dd r h
  exact ⟨by rw [YU w _ (s.frz.lt (.inr h))]; exact a, b⟩
 have rb := s.blk b e k h g
 have key : BRel w0 ι (w.alloc (.deferred (some []))) e k := by
  by_cases hd : k = .dead
  ·subst hd; trivial
  exact BRel.frame (YU w _ (rb.lt hd)) rb
 exact key.mono (ι.le_df _)
theorem Za7 {g : Operand} {ps : Array Tmp} {as body : Code} {ro : Option Nat} {n : Nat} {a : Act} {w : World} {ι : Inj} {D0 : List Nat} {f0 : FuncId} {first cap : List VVal} {R : VVal → Ze → Prop}
  (hl0 : H0.length ≤ H.length) (hs : Sim S.w0 ι H w) (hr : RelL ι env a.tmps.toList) (fn : FuncId)
  {mark : List Deferred} {w1 : World} {ι1 : Inj} {e : Ent}
  (henter : (Instr.enterLoop fn a.tmps ps as body ro).run S.P w = .ok (e.r, mark) w1) (hgo : Inj.go H.length ι ι1) (s1 : Sim S.w0 ι1 (H ++ [.loop .ready none 0 env ps.toList as body]) w1) (hel : ι1 H.length = some e) (hds : DsOk ι1 D0 rd (mark ++ a.defers))
  (hg : env.eval g = .func f0 first cap) (hF : F S f0 (first ++ [.yield H.length] ++ cap) (H ++ [.loop .ready none 0 env ps.toList as body]) R)
  (h : ∀ v H2, R v H2 → ∃ st p fn tmps ps' as' body', H2[H.length]? = some (.loop st p fn tmps ps' as' body') ∧ st ≠ .busy ∧ QP p env (H2.set H.length (.loop .exhausted p fn tmps ps' as' body')) Q) :
  ∃ (l' : Nat) (mark : List Deferred) (w₁ : World) (d : Deferred) (w₁' : World) (f : FuncId) (args : Array Value) (w₂ : World),
   (Instr.enterLoop fn a.tmps ps as body ro).run S.P w = .ok (l', mark) w₁ ∧
   (resolve a.eval (rangeCall g l') 0).run S.P w₁ = .ok d w₁' ∧
   (∀ f', Target.leads S.P w₁' d.target d.args = some f' → (WF ro).fn f') ∧
   (invoke d.target d.args).run S.P w₁' = .ok (.enter f args) w₂ ∧
   ((WF ro).depth.isSome = true → 1 ≤ n) ∧
   CallsIn (WF ro) (n - 1) S.P f args w₂ (rangePost (WF ro) n S.P l' (BPost S H0 rd D0 ι Q) { a with defers := mark ++ a.defers }) := by
 have rg := XB hr g
 rw [hg] at rg
 simp only [Rel] at rg
 obtain ⟨a1, c1, hgv, ra, rc⟩ := rg
 have hle : ι.le ι1 := ⟨fun b e hb => (hgo.1 b (hs.dom b e hb)).trans hb, hgo.2⟩
 have rall : RelL ι1 (first ++ [.yield H.length] ++ cap) (a1 ++ #[Value.func (.yield e.r) #[] #[]] ++ c1).toList := by
  rw [Array.toList_append, Array.toList_append]
  exact ((RelL.mono hle _ _ ra).append (.one (by simp only [Rel]; exact ⟨e, hel, rfl⟩))).append (RelL.mono hle _ _ rc)
 obtain ⟨e1, hc⟩ := hF (n - 1) w1 ι1 _ s1 rall
 refine ⟨e.r, mark, w1, { target := .fn (.func f0) c1, args := a1 ++ #[Value.func (.yield e.r) #[] #[]] }, w1, f0, a1 ++ #[Value.func (.yield e.r) #[] #[]] ++ c1, w1, henter, ?_, fun _ _ => trivial, ?_, fun h => by simp [Fence.wide] at h, ?_⟩
 ·simp only [resolve, hgv]
  simp [Deferred.ofValue, Act.eval]
 ·simp only [invoke]; exact e1
 refine CallsIn.mono (F := WF ro) hc ?_
 rintro e2 w2 ⟨x, v, H2, ι2, rfl, hex2, hl2, s2, _, hR⟩
 obtain ⟨st, p, fn2, tmps2, ps2, as2, body2, hH2, hst, hj⟩ := h v H2 hR
 have hlen : (H ++ [VBlk.loop .ready none 0 env ps.toList as body]).length = H.length + 1 := by simp
 rw [hlen] at hex2 hl2
 have he2 : ι2 H.length = some e := by rw [hex2.1 H.length (by omega)]; exact hel
 obtain ⟨L, hL, hLst, hLp, _, _, _, _, hput⟩ := s2.loop he2 hH2
 have hend := run_endLoop (P := S.P) hL (by rw [hLst]; exact hst)
 have s3 := hput .exhausted L.pending
 rw [hLp] at s3
 have hle2 : ι1.le ι2 := ⟨fun b e hb => by
  have := s1.dom b e hb
  rw [hlen] at this
  exact (hex2.1 b this).trans hb, hex2.2.1⟩
 have r3 : RelL ι2 env a.tmps.toList := RelL.mono hle2 _ _ (RelL.mono hle _ _ hr)
 have hgo3 : Inj.go H0.length ι ι2 := ⟨fun b hb => (hex2.1 b (by omega)).trans (hgo.1 b (by omega)), fun r a hh => hex2.2.1 _ _ (hgo.2 _ _ hh)⟩
 have heq : ({ L with state := .exhausted } : Loop) = { L with state := .exhausted, pending := p } := by rw [← hLp]
 rw [heq] at hend
 have hl3 : H0.length ≤ (H2.set H.length (.loop .exhausted p fn2 tmps2 ps2 as2 body2)).length := by rw [List.length_set]; omega
 unfold QP at hj
 split at hj
 ·rw [hLp] at hend
  exact ⟨none, _, hend, ι2, _, _, hgo3, hl3, s3, r3, hds.df hex2.2.2, hj⟩
 ·rw [hLp] at hend
  exact ⟨some .ret, _, hend, wpIn_ret ⟨ι2, _, _, hgo3, hl3, s3, r3, hds.df hex2.2.2, hj⟩⟩
 ·rename_i id
  rw [hLp] at hend
  exact ⟨some (.exit id), _, hend, wpIn_exit ⟨ι2, _, _, hgo3, hl3, s3, r3, hds.df hex2.2.2, hj⟩⟩
 exact hj.elim
theorem B_range {g : Operand} {ps : Array Nat} {as body : Code} {f0 : FuncId} {first cap : List VVal} {R : VVal → Ze → Prop} (hrd : ∀ l0, rd = some l0 → ∃ st p fn tmps ps as body, H[l0]? = some (.loop st p fn tmps ps as body)) (hg : env.eval g = .func f0 first cap)
  (hF : F S f0 (first ++ [.yield H.length] ++ cap) (H ++ [.loop .ready none 0 env ps.toList as body]) R)
  (h : ∀ v H2, R v H2 → ∃ st p fn tmps ps' as' body', H2[H.length]? = some (.loop st p fn tmps ps' as' body') ∧ st ≠ .busy ∧ QP p env (H2.set H.length (.loop .exhausted p fn tmps ps' as' body')) Q) :
  B S H0 rd (.rangeFunc g ps as body) env H Q := by
 intro ro n D0 a w ι h1 h2 h3 hs hr hd
 refine wpIn_rangeFunc fun fn _ => ?_
 cases rd with
 | none =>
  cases ro with
  | some r => exact h1.elim
  | none =>
   have sd := hs.defer
   obtain ⟨L, hL⟩ : ∃ L : Loop, L = { state := .ready, pending := none, fn, tmps := a.tmps, params := ps, assign := as, body, defers := w.heap.size } := ⟨_, rfl⟩
   have hsz : (w.alloc (.deferred (some []))).heap.size = w.heap.size + 1 := World.size_alloc w _
   have hle0 : ι.le ⟨ι.m, ι.z, w.heap.size :: ι.df⟩ := ι.le_df _
   have hle1 : ι.le ((Inj.mk ι.m ι.z (w.heap.size :: ι.df)).ext H.length ⟨w.heap.size + 1, 0, none⟩) := ⟨fun b e hb => (by have := hs.dom b e hb; rw [Inj.ext_m, if_neg (by omega)]; exact hb), fun _ _ h => h⟩
   obtain ⟨s2, hle2⟩ := sd.new ⟨w.heap.size + 1, 0, none⟩ (.loop .ready none 0 env ps.toList as body) (w' := (w.alloc (.deferred (some []))).alloc (.loop L))
    (sd.below.alloc sd.below.size _) (fun i hi => YU _ _ hi) hsz.symm
    ⟨L, by rw [← hsz]; exact World.alloc_heap_new _ _, by have := hs.below.size; show S.w0.heap.size ≤ w.heap.size + 1; omega, by rw [hL], by rw [hL],
     by rw [hL]; exact RelL.mono hle1 _ _ hr, by rw [hL], by rw [hL], by rw [hL]⟩
   refine Za7 (ι1 := (Inj.mk ι.m ι.z (w.heap.size :: ι.df)).ext H.length ⟨w.heap.size + 1, 0, none⟩) (e := ⟨w.heap.size + 1, 0, none⟩) h3 hs hr fn (by rw [run_enterLoop_outer, ← hL]) ⟨fun b hb => (by rw [Inj.ext_m, if_neg (by omega)]), fun _ _ h => h⟩ s2 (by rw [Inj.ext_m, if_pos rfl]) ?_ hg hF h
   obtain ⟨rs, d1, d2⟩ := hd
   exact ⟨w.heap.size :: rs, by show w.heap.size :: ι.df = _; rw [d1]; rfl, by rw [d2]; rfl⟩
 | some l0 =>
  cases ro with
  | none => exact h1.elim
  | some r =>
   obtain ⟨hl0, e0, he0, rfl⟩ := h1
   obtain ⟨st0, p0, fn0, tmps0, ps0, as0, body0, hH0⟩ := hrd l0 rfl
   obtain ⟨L0, hL0, _⟩ := hs.loop he0 hH0
   obtain ⟨L, hL⟩ : ∃ L : Loop, L = { state := .ready, pending := none, fn, tmps := a.tmps, params := ps, assign := as, body, defers := L0.defers } := ⟨_, rfl⟩
   obtain ⟨s2, hle2⟩ := hs.new ⟨w.heap.size, 0, none⟩ (.loop .ready none 0 env ps.toList as body) (w' := w.alloc (.loop L))
    (hs.below.alloc hs.below.size _) (fun i hi => YU _ _ hi) rfl
    ⟨L, World.alloc_heap_new _ _, hs.below.size, by rw [hL], by rw [hL],
     by rw [hL]; exact RelL.mono (hs.le (Zag _ _ _)) _ _ hr, by rw [hL], by rw [hL], by rw [hL]⟩
   refine Za7 (ι1 := ι.ext H.length ⟨w.heap.size, 0, none⟩) (e := ⟨w.heap.size, 0, none⟩) (mark := []) h3 hs hr fn (by rw [run_enterLoop_inner hL0, ← hL]) ((Zag _ _ _).go (Nat.le_refl _)) s2 (by rw [Inj.ext_m, if_pos rfl]) hd hg hF h
end
open Go Go.RowKit
mutual
theorem VVal.under_mono {n m : Nat} (h : n ≤ m) : ∀ v : VVal, v.under n = true → v.under m = true
 | .ptr (some (_, _)), u => by simp only [VVal.under, decide_eq_true_eq] at u ⊢; omega
 | .slice (some (_, _)) _ _ _ _, u => by simp only [VVal.under, decide_eq_true_eq] at u ⊢; omega
 | .map (some _), u => by simp only [VVal.under, decide_eq_true_eq] at u ⊢; omega
 | .yield _, u => by simp only [VVal.under, decide_eq_true_eq] at u ⊢; omega
 | .func _ a c, u => by
  simp only [VVal.under, Bool.and_eq_true] at u ⊢
  exact ⟨VVal.underL_mono h a u.1, VVal.underL_mono h c u.2⟩
 | .iface _ v, u => by simp only [VVal.under] at u ⊢; exact VVal.under_mono h v u
 | .agg cs, u => by simp only [VVal.under] at u ⊢; exact VVal.underL_mono h cs u
 | .tuple cs, u => by simp only [VVal.under] at u ⊢; exact VVal.underL_mono h cs u
 | .fsl cs _ _ _, u => by simp only [VVal.under] at u ⊢; exact VVal.underL_mono h cs u
 | .fptr cs _, u => by simp only [VVal.under] at u ⊢; exact VVal.underL_mono h cs u
 | .undef, _ => rfl
 | .bool _, _ => rfl
 | .int _ _, _ => rfl
 | .str _, _ => rfl
 | .ptr none, _ => rfl
 | .slice none _ _ _ _, _ => rfl
 | .map none, _ => rfl
 | .nilFunc, _ => rfl
 | .nilIface, _ => rfl
theorem VVal.underL_mono {n m : Nat} (h : n ≤ m) : ∀ vs : List VVal, VVal.underL n vs = true → VVal.underL m vs = true
 | [], _ => rfl
 | v :: vs, u => by
  simp only [VVal.underL, Bool.and_eq_true] at u ⊢
  exact ⟨VVal.under_mono h v u.1, VVal.underL_mono h vs u.2⟩
end
theorem VVal.underL_all {n : Nat} : ∀ {vs : List VVal}, (∀ v, v ∈ vs → v.under n = true) → VVal.underL n vs = true
 | [], _ => rfl
 | v :: vs, h => by
  simp only [VVal.underL, Bool.and_eq_true]
  exact ⟨h v (List.mem_cons_self ..), underL_all fun u hu => h u (List.mem_cons_of_mem _ hu)⟩
theorem VVal.underL_mem {n : Nat} : ∀ {vs : List VVal}, VVal.underL n vs = true → ∀ v, v ∈ vs → v.under n = true
 | [], _, _, h => by cases h
 | u :: vs, h, v, hv => by
  simp only [VVal.underL, Bool.and_eq_true] at h
  rcases List.mem_cons.1 hv with rfl | hv
  ·exact h.1
  exact underL_mem h.2 v hv
theorem VVal.underL_map {α : Type} {n : Nat} {f : α → VVal} {l : List α} (h : ∀ a, (f a).under n = true) : VVal.underL n (l.map f) = true :=
 VVal.underL_all fun v hv => by obtain ⟨a, _, rfl⟩ := List.mem_map.1 hv; exact h a
theorem VVal.underL_app {n : Nat} {a b : List VVal} (ha : VVal.underL n a = true) (hb : VVal.underL n b = true) : VVal.underL n (a ++ b) = true :=
 VVal.underL_all fun v hv => by
  rcases List.mem_append.1 hv with h | h
  ·exact VVal.underL_mem ha v h
  exact VVal.underL_mem hb v h
theorem VBlk.under_mono {n m : Nat} (h : n ≤ m) (k : VBlk) (u : k.under n = true) : k.under m = true := by
 cases k with
 | dead => rfl
 | cells cs rw => exact VVal.underL_mono h cs u
 | map es =>
  simp only [VBlk.under, List.all_eq_true, Bool.and_eq_true] at u ⊢
  exact fun e he => ⟨VVal.under_mono h _ (u e he).1, VVal.under_mono h _ (u e he).2⟩
 | loop st p fn tmps ps as body => exact VVal.underL_mono h tmps u
section
variable {S : Sys} {H0 H : Ze}
def LowOk (H0 H : Ze) (m : Nat) : Prop := ∀ i, i < m → (i < H0.length ∧ H[i]? = H0[i]?) ∨ ∀ k, H[i]? = some k → k.under m = true
theorem LowOk.under {ι : Inj} {w : World} {m : Nat} (h : LowOk H0 H m) (hm : H0.length ≤ m) (hb : Base S H0 ι) (s : Sim S.w0 ι H w) : ∀ i k e, i < m → ι i = some e → H[i]? = some k → k.under m = true := by
 intro i k e hi he hk
 rcases h i hi with ⟨h1, h2⟩ | h1
 ·obtain ⟨ι0, we, s0, e0⟩ := hb
  rw [h2] at hk
  rw [e0 i h1] at he
  exact VBlk.under_mono hm _ (s0.under he hk)
 exact h1 k hk
theorem Gh.drop {vs : List VVal} (m : Nat) (hm : H0.length ≤ m) (hmH : m ≤ H.length) (hv : VVal.underL m vs = true) (hb : LowOk H0 H m) : Gh S H0 vs H vs (H.take m) := by
 refine fun _ => ⟨by simp; omega, fun w ι xs hB s r => ⟨ι.cut m, ⟨fun b hb => by rw [Inj.cut_m, if_pos (by omega)], fun _ _ h => h, rfl⟩, s.cut hmH (hb.under hm hB s), RelL.cut m _ _ hv r⟩⟩
def weakL : List VVal → List VVal → Prop
 | [], [] => True
 | v :: vs, u :: us => (u = v ∨ u = .undef) ∧ weakL vs us
 | _, _ => False
theorem Zc3 {ι : Inj} : ∀ {vs us : List VVal} {xs : List Value}, weakL vs us → RelL ι vs xs → RelL ι us xs
 | [], [], _, _, r => r
 | v :: vs, u :: us, xs, h, r => by
  simp only [RelL] at r
  obtain ⟨y, ys, rfl, a, b⟩ := r
  refine .cons ?_ (Zc3 h.2 b)
  rcases h.1 with rfl | rfl
  ·exact a
  exact Rel.undef ι y
 | [], _ :: _, _, h, _ => h.elim
 | _ :: _, [], _, h, _ => h.elim
theorem Gh.weak {vs us : List VVal} (h : weakL vs us) : Gh S H0 vs H us H :=
 fun hl => ⟨hl, fun w ι xs hB s r => ⟨ι, Inj.ex_refl _ _, s, Zc3 h r⟩⟩
def QN : List Bool → VEnv → VEnv
 | true :: ms, _ :: vs => .undef :: QN ms vs
 | false :: ms, v :: vs => v :: QN ms vs
 | _, vs => vs
theorem ZcT : ∀ vs : List VVal, weakL vs vs
 | [] => trivial
 | v :: vs => ⟨.inl rfl, ZcT vs⟩
theorem Q1 : ∀ (ms : List Bool) (vs : List VVal), weakL vs (QN ms vs)
 | true :: ms, _ :: vs => ⟨.inr rfl, Q1 ms vs⟩
 | false :: ms, v :: vs => ⟨.inl rfl, Q1 ms vs⟩
 | [], vs => by cases vs <;> exact ZcT _
 | true :: ms, [] => trivial
 | false :: ms, [] => trivial
theorem Gh.clear {env env' : VEnv} (mask : List Bool) (he : QN mask env = env') : Gh S H0 env H env' H := he ▸ Gh.weak (Q1 mask env)
theorem Sim.bury {w0 w : World} {ι : Inj} (s : Sim w0 ι H w) (b : Nat) : Sim w0 ι (H.set b .dead) w := by
 have old : ∀ {d : Nat} {kd : VBlk}, (H.set b .dead)[d]? = some kd → kd ≠ .dead → H[d]? = some kd := by
  intro d kd hd hk
  rw [List.getElem?_set] at hd
  split at hd
  ·split at hd
   ·cases hd; exact absurd rfl hk
   cases hd
  exact hd
 have nd : ∀ {k : VBlk}, k.owns = true → k ≠ .dead := by rintro k hk rfl; simp [VBlk.owns] at hk
 refine ⟨s.below, s.frz, fun r arr c e k hz h g ho => s.fo r arr c e k hz h (old g (nd ho)) ho, fun c e h => by simpa using s.dom c e h, fun c e k h g => ?_, fun c c' e e' k k' h h' g g' o o' hr => s.inj c c' e e' k k' h h' (old g (nd o)) (old g' (nd o')) o o' hr⟩
 by_cases hd : k = .dead
 ·subst hd; trivial
 exact s.blk c e k h (old g hd)
theorem Gh.bury {vs : List VVal} (b : Nat) : Gh S H0 vs H vs (H.set b .dead) :=
 fun hl => ⟨by rw [List.length_set]; exact hl, fun w ι xs hB s r => ⟨ι, Inj.ex_refl _ _, s.bury b, r⟩⟩
theorem Gh.extend {vs : List VVal} (X : Ze) : Gh S H0 vs H vs (H ++ X) :=
 fun hl => ⟨by simp; omega, fun w ι xs hB s r => ⟨ι, Inj.ex_refl _ _, s.extend X, r⟩⟩
theorem Sim.freeze {w0 w : World} {ι : Inj} (s : Sim w0 ι H w) {b : Nat} {e : Ent} {cs : List VVal} (h : ι b = some e) (g : H[b]? = some (.cells cs true)) :
  ∃ ι' arr xs, Inj.ex H.length ι ι' ∧ Sim w0 ι' (H.set b .dead) w ∧ ι'.z e.r = some arr ∧ RelL ι' cs xs ∧ ∀ (i : Nat) x, xs[i]? = some x → arr[e.sh + i]? = some x := by
 obtain ⟨arr, t, fr, cs', ha, hr, hc, hw⟩ := s.blk b e _ h g
 have hz : ∀ r a, ι.z r = some a → r ≠ e.r := fun r a hz hh => s.fo r a b e _ hz h g rfl hh.symm
 have hle : ι.le ⟨ι.m, fun r => if r = e.r then some arr else ι.z r, ι.df⟩ := ⟨fun _ _ h => h, fun r a h => by
  show (if r = e.r then some arr else ι.z r) = some a
  rw [if_neg (hz r a h)]; exact h⟩
 have s1 := s.bury b
 refine ⟨⟨ι.m, fun r => if r = e.r then some arr else ι.z r, ι.df⟩, arr, cs', ⟨fun _ _ => rfl, hle.2, rfl⟩, ?_, if_pos rfl, RelL.mono hle _ _ hr, hc⟩
 refine ⟨s.below, ⟨fun r a hz' => ?_, s.frz.dn, s.frz.dd⟩, fun r a c ec k hz' hc' hg ho => ?_, s1.dom, fun c ec k hc' hg => (s1.blk c ec k hc' hg).mono hle, s1.inj⟩
 ·have hz' : (if r = e.r then some arr else ι.z r) = some a := hz'
  by_cases hr' : r = e.r
  ·rw [if_pos hr'] at hz'; cases hz'; rw [hr']; exact ⟨t, fr, ha, fun _ => by rw [if_pos rfl] at hw; exact hw.2.2.2⟩
  rw [if_neg hr'] at hz'; exact s.frz.fz r a hz'
 have hz' : (if r = e.r then some arr else ι.z r) = some a := hz'
 by_cases hr' : r = e.r
 ·subst hr'
  intro he
  have hcb : c ≠ b := by
   rintro rfl
   rw [List.getElem?_set_self (s.dom c e h)] at hg; cases hg; simp [VBlk.owns] at ho
  rw [List.getElem?_set_ne (Ne.symm hcb)] at hg
  exact hcb (s.inj c b ec e k _ hc' h hg g ho rfl he)
 rw [if_neg hr'] at hz'
 exact s1.fo r a c ec k hz' hc' hg ho
theorem Gh.freeze {vs vs' : List VVal} (i : Nat) {b off len cap es : Nat} {ex : Bool} {cs l : List VVal} (hv : vs[i]? = some (.slice (some (b, off)) len cap ex es)) (hg : H[b]? = some (.cells cs true)) (hl : Zo cs off (len * es) = some l) (hc : len ≤ cap)
  (he : vs.set i (.fsl l len es false) = vs') : Gh S H0 vs H vs' (H.set b .dead) := by
 subst he
 refine fun hl0 => ⟨by rw [List.length_set]; exact hl0, fun w ι xs hB s r => ?_⟩
 obtain ⟨x, hx, rx⟩ := r.get i _ hv
 simp only [Rel] at rx
 obtain ⟨e, c, h1, h2, h3, h4, rfl⟩ := rx
 obtain ⟨ι', arr, ys, e1, s1, z1, r1, c1⟩ := s.freeze h1 hg
 refine ⟨ι', Inj.ex_le e1 hl0, s1, ?_⟩
 have r2 := RelL.mono (s.le e1) _ _ r
 obtain ⟨k1, k2, k3⟩ := Yi r1 hl
 have : xs = xs.set i (.slice (some ⟨e.r, e.sh + off, none⟩) len c) := (XA hx).symm
 rw [this]
 refine r2.set i ?_
 simp only [Rel]
 refine ⟨_, c, _, rfl, by omega, (fun hq => by cases hq), (fun hq => by cases hq), k1, .inr ⟨e.r, e.sh + off, arr, rfl, z1, fun j y hy => ?_⟩⟩
 rw [List.getElem?_take] at hy
 split at hy
 ·rw [List.getElem?_drop] at hy
  rw [Nat.add_assoc]
  exact c1 _ _ hy
 cases hy
theorem Gh.freezePtr {vs vs' : List VVal} (i : Nat) {b off : Nat} {cs : List VVal} (hv : vs[i]? = some (.ptr (some (b, off)))) (hg : H[b]? = some (.cells cs true)) (he : vs.set i (.fptr cs off) = vs') : Gh S H0 vs H vs' (H.set b .dead) := by
 subst he
 refine fun hl0 => ⟨by rw [List.length_set]; exact hl0, fun w ι xs hB s r => ?_⟩
 obtain ⟨x, hx, rx⟩ := r.get i _ hv
 simp only [Rel] at rx
 obtain ⟨e, h1, rfl⟩ := rx
 obtain ⟨ι', arr, ys, e1, s1, z1, r1, c1⟩ := s.freeze h1 hg
 refine ⟨ι', Inj.ex_le e1 hl0, s1, ?_⟩
 have r2 := RelL.mono (s.le e1) _ _ r
 have : xs = xs.set i (.pointer (some ⟨e.r, e.sh + off, none⟩)) := (XA hx).symm
 rw [this]
 refine r2.set i ?_
 simp only [Rel]
 exact ⟨e.r, e.sh, arr, ys, rfl, z1, r1, c1⟩
theorem Rel.nilFsl {ι : Inj} {x : Value} {es es' : Nat} {ex : Bool} (h : Rel ι (.slice none 0 0 ex es) x) : Rel ι (.fsl [] 0 es' false) x := by
 simp only [Rel] at h ⊢
 obtain ⟨_, _, h⟩ := h
 cases ex with
 | true => simp at h; subst h; exact ⟨none, 0, [], rfl, Nat.le_refl _, (fun h => by cases h), fun _ => rfl, .nil, .inl trivial⟩
 | false => simp at h; obtain ⟨a, c, rfl⟩ := h; exact ⟨some a, c, [], rfl, Nat.zero_le _, by simp, by simp, .nil, .inl trivial⟩
theorem Gh.freezeNil {vs vs' : List VVal} (i : Nat) {es es' : Nat} {ex : Bool} (hv : vs[i]? = some (.slice none 0 0 ex es)) (he : vs.set i (.fsl [] 0 es' false) = vs') : Gh S H0 vs H vs' H := by
 subst he
 refine fun hl0 => ⟨hl0, fun w ι xs hB s r => ⟨ι, Inj.ex_refl _ _, s, ?_⟩⟩
 obtain ⟨x, hx, rx⟩ := r.get i _ hv
 have : xs = xs.set i x := (XA hx).symm
 rw [this]
 exact r.set i (Rel.nilFsl rx)
theorem Gh.cell {vs : List VVal} (c j : Nat) {cs l cs2 : List VVal} {b off len cap es : Nat} {ex : Bool} (hc : H[c]? = some (.cells cs2 true)) (hj : cs2[j]? = some (.slice (some (b, off)) len cap ex es)) (hne : c ≠ b) (hg : H[b]? = some (.cells cs true)) (hl : Zo cs off (len * es) = some l) (hcap : len ≤ cap) :
  Gh S H0 vs H vs ((H.set b .dead).set c (.cells (cs2.set j (.fsl l len es false)) true)) := by
 refine fun hl0 => ⟨by simp; exact hl0, fun w ι xs hB s r => ?_⟩
 cases hm : ι c with
 | none =>
  refine ⟨ι, Inj.ex_refl _ _, ?_, r⟩
  have s1 := s.bury b
  have g1 : ∀ (d : Nat) e, ι d = some e → ∀ k, ((H.set b .dead).set c (.cells (cs2.set j (.fsl l len es false)) true))[d]? = some k → (H.set b .dead)[d]? = some k := by
   intro d e hd k hk
   have : d ≠ c := by rintro rfl; rw [hm] at hd; cases hd
   rwa [List.getElem?_set_ne (Ne.symm this)] at hk
  exact ⟨s1.below, s1.frz, fun r arr d e k hz h g ho => s1.fo r arr d e k hz h (g1 d e h k g) ho, fun d e h => by have := s1.dom d e h; simpa using this, fun d e k h g => s1.blk d e k h (g1 d e h k g), fun d d' e e' k k' h h' g g' o o' hr => s1.inj d d' e e' k k' h h' (g1 _ _ h _ g) (g1 _ _ h' _ g') o o' hr⟩
 | some ec =>
  obtain ⟨arr, t, fr, ys, a1, a2, a3, a4⟩ := s.blk c ec _ hm hc
  obtain ⟨y, hy, ry⟩ := a2.get j _ hj
  simp only [Rel] at ry
  obtain ⟨e, cc, h1, h2, h3, h4, rfl⟩ := ry
  obtain ⟨ι', farr, zs, e1, s1, z1, r1, c1⟩ := s.freeze h1 hg
  have hm' : ι' c = some ec := (e1.1 c (s.dom c ec hm)).trans hm
  have hc' : (H.set b .dead)[c]? = some (.cells cs2 true) := by rw [List.getElem?_set_ne (Ne.symm hne)]; exact hc
  refine ⟨ι', Inj.ex_le e1 hl0, ?_, RelL.mono (s.le e1) _ _ r⟩
  obtain ⟨k1, k2, k3⟩ := Yi r1 hl
  refine s1.turn hm' hc' rfl _ s1.below (fun _ _ _ => rfl) ⟨arr, t, fr, ys, a1, ?_, a3, a4⟩ (.inl rfl)
  have r2 := RelL.mono (s.le e1) _ _ a2
  have : ys = ys.set j (.slice (some ⟨e.r, e.sh + off, none⟩) len cc) := (XA hy).symm
  rw [this]
  refine r2.set j ?_
  simp only [Rel]
  refine ⟨_, cc, _, rfl, by omega, (fun hq => by cases hq), (fun hq => by cases hq), k1, .inr ⟨e.r, e.sh + off, farr, rfl, z1, fun j y hy => ?_⟩⟩
  rw [List.getElem?_take] at hy
  split at hy
  ·rw [List.getElem?_drop] at hy
   rw [Nat.add_assoc]
   exact c1 _ _ hy
  cases hy
theorem Gh.cellNil {vs : List VVal} (c j : Nat) {cs2 : List VVal} {es es' : Nat} {ex : Bool} (hc : H[c]? = some (.cells cs2 true)) (hj : cs2[j]? = some (.slice none 0 0 ex es)) :
  Gh S H0 vs H vs (H.set c (.cells (cs2.set j (.fsl [] 0 es' false)) true)) := by
 refine fun hl0 => ⟨by simp; exact hl0, fun w ι xs hB s r => ?_⟩
 cases hm : ι c with
 | none =>
  refine ⟨ι, Inj.ex_refl _ _, ?_, r⟩
  have g1 : ∀ (d : Nat) e, ι d = some e → ∀ k, (H.set c (.cells (cs2.set j (.fsl [] 0 es' false)) true))[d]? = some k → H[d]? = some k := by
   intro d e hd k hk
   have : d ≠ c := by rintro rfl; rw [hm] at hd; cases hd
   rwa [List.getElem?_set_ne (Ne.symm this)] at hk
  exact ⟨s.below, s.frz, fun r arr d e k hz h g ho => s.fo r arr d e k hz h (g1 d e h k g) ho, fun d e h => by have := s.dom d e h; simpa using this, fun d e k h g => s.blk d e k h (g1 d e h k g), fun d d' e e' k k' h h' g g' o o' hr => s.inj d d' e e' k k' h h' (g1 _ _ h _ g) (g1 _ _ h' _ g') o o' hr⟩
 | some ec =>
  obtain ⟨arr, t, fr, ys, a1, a2, a3, a4⟩ := s.blk c ec _ hm hc
  obtain ⟨y, hy, ry⟩ := a2.get j _ hj
  refine ⟨ι, Inj.ex_refl _ _, s.turn hm hc rfl _ s.below (fun _ _ _ => rfl) ⟨arr, t, fr, ys, a1, ?_, a3, a4⟩ (.inl rfl), r⟩
  have : ys = ys.set j y := (XA hy).symm
  rw [this]
  exact a2.set j (Rel.nilFsl ry)
def BaseOk (H B : Ze) : Prop := B.length = H.length ∧ ∀ i, i < H.length → B[i]? = H[i]? ∨ ∀ k, B[i]? = some k → k.under H.length = true
theorem BaseOk.refl (H : Ze) : BaseOk H H := ⟨rfl, fun _ _ => .inl rfl⟩
theorem BaseOk.set {H B : Ze} (h : BaseOk H B) (b : Nat) {k : VBlk} (hk : k.under H.length = true) : BaseOk H (B.set b k) := by
 refine ⟨by rw [List.length_set]; exact h.1, fun i hi => ?_⟩
 rw [List.getElem?_set]
 split
 ·right
  intro k' hk'
  split at hk'
  ·cases hk'; exact hk
  cases hk'
 exact h.2 i hi
theorem BaseOk.low {H B : Ze} (h : BaseOk H B) (L : Ze) : LowOk H (B ++ L) H.length := by
 intro i hi
 rw [List.getElem?_append_left (by rw [h.1]; exact hi)]
 rcases h.2 i hi with h1 | h1
 ·exact .inl ⟨hi, h1⟩
 exact .inr h1
theorem Gh.back {vs : List VVal} {B L : Ze} (h : BaseOk H B) (hv : VVal.underL H.length vs = true) : Gh S H vs (B ++ L) vs B := by
 have := Gh.drop (S := S) (H0 := H) (H := B ++ L) (vs := vs) H.length (Nat.le_refl _) (by simp; have := h.1; omega) hv (h.low L)
 have e : (B ++ L).take H.length = B := by rw [← h.1]; exact List.take_left' rfl
 rw [e] at this; exact this
theorem Xk {fn : Func} {ex : Exit} {env : VEnv} {B L : Ze} {v : VVal} {R : VVal → Ze → Prop} (hx : ex = .normal ∨ ex = .ret) (hv : ZX S.C.T env (B ++ L) fn.results = some v) (hB : BaseOk H B) (hu : v.under H.length = true) (h : R v B) : fnK S fn H R ex env (B ++ L) :=
 ⟨hx, v, hv, v, B, Gh.back hB (by simp [VVal.underL, hu]), h⟩
theorem YQ {fn : Func} {ex : Exit} {env : VEnv} {G : Ze} {v : VVal} {R : VVal → Ze → Prop} (hx : ex = .normal ∨ ex = .ret) (hv : ZX S.C.T env G fn.results = some v) (h : R v G) : fnK S fn H R ex env G :=
 ⟨hx, v, hv, v, G, Gh.refl _ _ _ _, h⟩
theorem Zbm {fn : Func} {ex : Exit} {env : VEnv} {G G' : Ze} {v v' : VVal} {R : VVal → Ze → Prop} (hx : ex = .normal ∨ ex = .ret) (hv : ZX S.C.T env G fn.results = some v) (g : Gh S H [v] G [v'] G') (h : R v' G') : fnK S fn H R ex env G :=
 ⟨hx, v, hv, v', G', g, h⟩
theorem Gh.fsl {B L : Ze} {j off len cap es : Nat} {ex : Bool} {cs l : List VVal} (hB : BaseOk H B) (hg : L[j]? = some (.cells cs true)) (hl : Zo cs off (len * es) = some l) (hc : len ≤ cap) (hu : VVal.underL H.length l = true) :
  Gh S H [.slice (some (B.length + j, off)) len cap ex es] (B ++ L) [.fsl l len es false] B := by
 have hg' : (B ++ L)[B.length + j]? = some (.cells cs true) := by rw [List.getElem?_append_right (by omega)]; simpa using hg
 refine Gh.trans (Gh.freeze 0 rfl hg' hl hc rfl) ?_
 have e : (B ++ L).set (B.length + j) .dead = B ++ L.set j .dead := by rw [List.set_append_right _ _ (by omega)]; simp
 rw [e]
 exact Gh.back hB (by simp [VVal.underL, VVal.under, hu])
theorem Sim.pack {w0 w : World} {ι : Inj} {G : Ze} (s : Sim w0 ι G w) {n b : Nat} {e : Ent} {k : VBlk} (h : ι b = some e) (g : G[b]? = some k) (hn : n ≤ b) (hu : ∀ i k e, i < n → ι i = some e → G[i]? = some k → k.under n = true) (hk : k.under n = true) :
  Sim w0 ((ι.cut n).ext n e) (G.take n ++ [k]) w ∧ Inj.ex n ι ((ι.cut n).ext n e) := by
 have hbl := s.dom b e h
 have hlen : (G.take n).length = n := by simp; omega
 have sc := s.cut (m := n) (by omega) hu
 have hex : Inj.ex n ι ((ι.cut n).ext n e) := ⟨fun c hc => by rw [Inj.ext_m, if_neg (by omega), Inj.cut_m, if_pos hc], fun _ _ h => h, rfl⟩
 have get : ∀ {c ec}, ((ι.cut n).ext n e) c = some ec → (c = n ∧ ec = e) ∨ (c < n ∧ (ι.cut n) c = some ec ∧ ι c = some ec) := by
  intro c ec hc
  rw [Inj.ext_m] at hc
  split at hc
  ·cases hc; exact .inl ⟨‹_›, rfl⟩
  have h1 := hc
  rw [Inj.cut_m] at hc
  split at hc
  ·exact .inr ⟨‹_›, h1, hc⟩
  cases hc
 have gl : ∀ {c : Nat} {kc : VBlk}, c < n → (G.take n ++ [k])[c]? = some kc → (G.take n)[c]? = some kc ∧ G[c]? = some kc := by
  intro c kc hc hg
  rw [List.getElem?_append_left (by omega)] at hg
  refine ⟨hg, ?_⟩
  rw [List.getElem?_take, if_pos hc] at hg; exact hg
 have gn : ∀ {kc : VBlk}, (G.take n ++ [k])[n]? = some kc → kc = k := by
  intro kc hg
  rw [List.getElem?_append_right (by omega), hlen] at hg
  simp at hg; exact hg.symm
 refine ⟨⟨s.below, ⟨s.frz.fz, s.frz.dn, s.frz.dd⟩, ?_, ?_, ?_, ?_⟩, hex⟩
 ·intro r arr c ec kc hz hc hg ho
  rcases get hc with ⟨rfl, rfl⟩ | ⟨h1, h2, h3⟩
  ·have := gn hg; subst this
   exact s.fo r arr b ec _ hz h g ho
  exact s.fo r arr c ec kc hz h3 (gl h1 hg).2 ho
 ·intro c ec hc
  rcases get hc with ⟨rfl, rfl⟩ | ⟨h1, h2, h3⟩
  ·simp; omega
  simp; omega
 ·intro c ec kc hc hg
  have hle : (ι.cut n).le ((ι.cut n).ext n e) := by
   refine ⟨fun b' e' h' => ?_, fun _ _ h => h⟩
   have h1 := h'
   rw [Inj.cut_m] at h'
   split at h'
   ·rw [Inj.ext_m, if_neg (by omega)]; exact h1
   cases h'
  rcases get hc with ⟨rfl, rfl⟩ | ⟨h1, h2, h3⟩
  ·have := gn hg; subst this
   exact (BRel.cut hk (s.blk b ec _ h g)).mono hle
  exact (sc.blk c ec kc h2 (gl h1 hg).1).mono hle
 intro c c' e1 e2 k1 k2 h1 h2 g1 g2 o1 o2 hr
 rcases get h1 with ⟨rfl, rfl⟩ | ⟨a1, a2, a3⟩ <;> rcases get h2 with ⟨rfl, rfl⟩ | ⟨b1, b2, b3⟩
 ·rfl
 ·have := gn g1; subst this
  have := s.inj b c' e1 e2 k1 k2 h b3 g (gl b1 g2).2 o1 o2 hr
  omega
 ·have := gn g2; subst this
  have := s.inj c b e1 e2 k1 k2 a3 h (gl a1 g1).2 g o1 o2 hr
  omega
 exact s.inj c c' e1 e2 k1 k2 a3 b3 (gl a1 g1).2 (gl b1 g2).2 o1 o2 hr
theorem Gh.pack {B L : Ze} {j off len cap es : Nat} {ex : Bool} {k : VBlk} (hB : BaseOk H B) (hg : L[j]? = some k) (hu : k.under H.length = true) :
  Gh S H [.slice (some (B.length + j, off)) len cap ex es] (B ++ L) [.slice (some (B.length, off)) len cap ex es] (B ++ [k]) := by
 have hg' : (B ++ L)[B.length + j]? = some k := by rw [List.getElem?_append_right (by omega)]; simpa using hg
 have hBl := hB.1
 refine fun hl0 => ⟨by simp; omega, fun w ι xs hb s r => ?_⟩
 simp only [RelL] at r
 obtain ⟨x, xs', rfl, rx, rfl⟩ := r
 simp only [Rel] at rx
 obtain ⟨e, c, h1, h2, h3, h4, rfl⟩ := rx
 obtain ⟨s1, e1⟩ := s.pack (n := H.length) h1 hg' (by omega) ((hB.low L).under (Nat.le_refl _) hb s) hu
 have e2 : (B ++ L).take H.length = B := by rw [← hBl]; exact List.take_left' rfl
 rw [e2] at s1
 refine ⟨_, e1, s1, .one ?_⟩
 simp only [Rel]
 exact ⟨e, c, by rw [Inj.ext_m, if_pos hBl], h2, h3, h4, rfl⟩
end
open Go Go.RowKit
theorem Yo {ρ : VEnv} {T : TypeId → Option VTy} {H : Ze} {i : Nat} {v : VVal} {op : Op} (ho : op = .move (.tmp i) ∨ op = .assign (.tmp i)) (hv : ρ[i]? = some v) : vop T ρ.eval H op = some (v, H) := by
 have hx : VEnv.eval ρ (.tmp i) = v := by simp [VEnv.eval, List.getD_eq_getElem?_getD, hv]
 rcases ho with rfl | rfl <;> simp only [vop, hx]
theorem Z4 {ρ : VEnv} {T : TypeId → Option VTy} {H : Ze} {c : Value} (v : VVal) {op : Op} (ho : op = .move (.const c) ∨ op = .assign (.const c)) (hv : VVal.ofConst c = v) : vop T ρ.eval H op = some (v, H) := by
 rcases ho with rfl | rfl <;> simp only [vop, VEnv.eval, hv]
theorem v_load {ρ : Operand → VVal} {T : TypeId → Option VTy} {H : Ze} {t : TypeId} {a : Operand} {y : VTy} {b off : Nat} {cs : List VVal} {rw : Bool} {v : VVal} {op : Op} (ho : op = .load t a) (ha : ρ a = .ptr (some (b, off))) (hy : T t = some y) (hd : Zk y.desc = false)
  (hb : H[b]? = some (.cells cs rw)) (hv : cs[off]? = some v) : vop T ρ H op = some (v, H) := by
 rw [ho]; simp only [vop, ha, Y4, hy, QS, hb, hd, Bool.false_eq_true, if_false, hv, Option.map_some]
theorem v_loadA {ρ : Operand → VVal} {T : TypeId → Option VTy} {H : Ze} {t : TypeId} {a : Operand} {y : VTy} {b off : Nat} {cs vs : List VVal} {rw : Bool} {op : Op} (ho : op = .load t a) (ha : ρ a = .ptr (some (b, off))) (hy : T t = some y) (hd : Zk y.desc = true)
  (hb : H[b]? = some (.cells cs rw)) (hv : Zo cs off y.size = some vs) : vop T ρ H op = some (.agg vs, H) := by
 rw [ho]; simp only [vop, ha, Y4, hy, QS, hb, hd, if_true, hv, Option.map_some]
theorem v_store {ρ : Operand → VVal} {T : TypeId → Option VTy} {H H' : Ze} {t : TypeId} {a x : Operand} {y : VTy} {b off : Nat} {cs new : List VVal} {op : Op} (ho : op = .store t a x) (ha : ρ a = .ptr (some (b, off))) (hy : T t = some y) (hx : (ρ x).cells = some new) (hn : new.length = y.size) (h1 : new.all VVal.one = true)
  (hb : H[b]? = some (.cells cs true)) (hl : off + new.length ≤ cs.length) (hH : H.set b (.cells (Zx cs off new) true) = H') : vop T ρ H op = some (.skip, H') := by
 rw [ho]; simp only [vop, Zbj, ha, hy, hx, hn, h1, and_self, if_true, QM, hb]; rw [if_pos (by rw [← hn]; exact hl), hH]; rfl
theorem v_idx {ρ : Operand → VVal} {T : TypeId → Option VTy} {H : Ze} {t e : TypeId} {x i : Operand} {y z : VTy} {b off len cap es : Nat} {ex : Bool} {k : IntKind} {n : Int} {op : Op} (ho : op = .indexAddr t x i) (hx : ρ x = .slice (some (b, off)) len cap ex es) (hi : ρ i = .int k n)
  (hy : T t = some y) (hd : y.desc = .slice e) (hz : T e = some z) (hs : z.size = es) (hn : 0 ≤ n ∧ n < len) : vop T ρ H op = some (.ptr (some (b, off + n.toNat * es)), H) := by
 rw [ho]; simp only [vop, Y9, hx, hi, hy, hd, hz, hs, hn, and_self, if_true, Option.map_some]
theorem ZM {ρ : VEnv} {T : TypeId → Option VTy} {H : Ze} {c b : Operand} {i : Nat} {v : VVal} {op : Op} (ho : op = .pick c (.tmp i) b) (hc : ρ.eval c = .bool true) (hv : ρ[i]? = some v) : vop T ρ.eval H op = some (v, H) := by
 have hx : VEnv.eval ρ (.tmp i) = v := by simp [VEnv.eval, List.getD_eq_getElem?_getD, hv]
 rw [ho]; simp only [vop, hc, if_true, hx]
theorem ZY {ρ : VEnv} {T : TypeId → Option VTy} {H : Ze} {c a : Operand} {i : Nat} {v : VVal} {op : Op} (ho : op = .pick c a (.tmp i)) (hc : ρ.eval c = .bool false) (hv : ρ[i]? = some v) : vop T ρ.eval H op = some (v, H) := by
 have hx : VEnv.eval ρ (.tmp i) = v := by simp [VEnv.eval, List.getD_eq_getElem?_getD, hv]
 rw [ho]; simp only [vop, hc, Bool.false_eq_true, if_false, hx]
theorem ZF {ρ : VEnv} {T : TypeId → Option VTy} {H : Ze} {c b : Operand} {k : Value} (v : VVal) {op : Op} (ho : op = .pick c (.const k) b) (hc : ρ.eval c = .bool true) (hv : VVal.ofConst k = v) : vop T ρ.eval H op = some (v, H) := by
 rw [ho]; simp only [vop, hc, if_true, show ρ.eval (.const k) = v from hv]
theorem ZC {ρ : VEnv} {T : TypeId → Option VTy} {H : Ze} {c a : Operand} {k : Value} (v : VVal) {op : Op} (ho : op = .pick c a (.const k)) (hc : ρ.eval c = .bool false) (hv : VVal.ofConst k = v) : vop T ρ.eval H op = some (v, H) := by
 rw [ho]; simp only [vop, hc, Bool.false_eq_true, if_false, show ρ.eval (.const k) = v from hv]
theorem ZI {H L : Ze} {n j : Nat} {x : VBlk} (hn : H.length = n) (h : L[j]? = some x) : (H ++ L)[n + j]? = some x := by
 subst hn; rw [List.getElem?_append_right (by omega)]; simpa using h
theorem JE {H L : Ze} {b : Nat} {x : VBlk} (h : H[b]? = some x) : (H ++ L)[b]? = some x := Zn h
theorem ZO {H L : Ze} {n j : Nat} {x : VBlk} (hn : H.length = n) : (H ++ L).set (n + j) x = H ++ L.set j x := by
 subst hn; rw [List.set_append_right _ _ (by omega)]; simp
theorem Yl {H L : Ze} {b : Nat} {x : VBlk} (hb : b < H.length) : (H ++ L).set b x = H.set b x ++ L := by
 rw [List.set_append_left _ _ hb]
theorem ZG {H : Ze} {b : Nat} {x : VBlk} (h : H[b]? = some x) : b < H.length := (List.getElem?_eq_some_iff.1 h).1
section
variable {T : TypeId → Option VTy} {ρ : Operand → VVal} {H L : Ze} {op : Op}
theorem ZP {t : TypeId} {y : VTy} (ho : op = .alloc t) (hy : T t = some y) : vop T ρ (H ++ L) op = some (.ptr (some (H.length + L.length, 0)), H ++ (L ++ [.cells y.zero true])) := by
 rw [ho]; simp [vop, hy, vnew]
theorem v_box {t : TypeId} {x : Operand} {cs : List VVal} (ho : op = .box t x) (hx : (ρ x).cells = some cs) : vop T ρ (H ++ L) op = some (.ptr (some (H.length + L.length, 0)), H ++ (L ++ [.cells cs true])) := by
 rw [ho]; simp [vop, hx, vnew]
theorem ZJ {ρ : VEnv} {t : TypeId} {i : Nat} {v : VVal} {cs : List VVal} (ho : op = .box t (.tmp i)) (hv : ρ[i]? = some v) (hx : v.cells = some cs) : vop T ρ.eval (H ++ L) op = some (.ptr (some (H.length + L.length, 0)), H ++ (L ++ [.cells cs true])) :=
 v_box ho (by simp only [VEnv.eval, List.getD_eq_getElem?_getD, hv, Option.getD_some, hx])
theorem Z3 {ρ : VEnv} {H H' : Ze} {t : TypeId} {a : Operand} {i : Nat} {v : VVal} {y : VTy} {b off : Nat} {cs new : List VVal} (ho : op = .store t a (.tmp i)) (hv : ρ[i]? = some v) (ha : ρ.eval a = .ptr (some (b, off))) (hy : T t = some y) (hx : v.cells = some new) (hn : new.length = y.size) (h1 : new.all VVal.one = true)
  (hb : H[b]? = some (.cells cs true)) (hl : off + new.length ≤ cs.length) (hH : H.set b (.cells (Zx cs off new) true) = H') : vop T ρ.eval H op = some (.skip, H') :=
 v_store ho ha hy (by simp only [VEnv.eval, List.getD_eq_getElem?_getD, hv, Option.getD_some, hx]) hn h1 hb hl hH
theorem Ya {ρ : VEnv} {H H' : Ze} {t : TypeId} {a : Operand} {c : Value} (v : VVal) {y : VTy} {b off : Nat} {cs new : List VVal} (ho : op = .store t a (.const c)) (hv : VVal.ofConst c = v) (ha : ρ.eval a = .ptr (some (b, off))) (hy : T t = some y) (hx : v.cells = some new) (hn : new.length = y.size) (h1 : new.all VVal.one = true)
  (hb : H[b]? = some (.cells cs true)) (hl : off + new.length ≤ cs.length) (hH : H.set b (.cells (Zx cs off new) true) = H') : vop T ρ.eval H op = some (.skip, H') :=
 v_store ho ha hy (by rw [show ρ.eval (.const c) = v from hv]; exact hx) hn h1 hb hl hH
theorem v_map {t : TypeId} (ho : op = .makeMap t none) : vop T ρ (H ++ L) op = some (.map (some (H.length + L.length)), H ++ (L ++ [.map []])) := by
 rw [ho]; simp [vop]
theorem Yz {t e : TypeId} {l c : Operand} {z : VTy} {n m : Int} (ho : op = .makeSlice t l c) (hz : Y6 T t = some (e, z)) (hl : ρ l = .int .i64 n) (hc : ρ c = .int .i64 m) (hs : z.size = z.zero.length) (hp : 0 < z.size)
  (h : 0 ≤ n ∧ n ≤ m ∧ m * z.bytes ≤ 281474976710656 ∧ m ≤ 9223372036854775807) : vop T ρ (H ++ L) op = some (.slice (some (H.length + L.length, 0)) n.toNat m.toNat true z.size, H ++ (L ++ [.cells (ZH z.zero m.toNat) true])) := by
 rw [ho]; simp only [vop, XS, hz, hl, hc]; rw [if_pos ⟨h.1, h.2.1, h.2.2.1, h.2.2.2, hs, hp⟩]; simp
theorem Zv {t e : TypeId} {n : Nat} {ps : Array (Nat × Operand)} {z : VTy} {cs : List VVal} (ho : op = .buildSlice t n ps) (hz : Y6 T t = some (e, z)) (h : n * z.size ≤ 16777216 ∧ z.size = z.zero.length ∧ 0 < z.size)
  (hf : QT (fun i => some (i * z.size, z.size)) (ZH z.zero n) (ps.toList.map fun p => (p.1, ρ p.2)) = some cs) : vop T ρ (H ++ L) op = some (.slice (some (H.length + L.length, 0)) n n true z.size, H ++ (L ++ [.cells cs true])) := by
 rw [ho]; simp only [vop, Xo, hz]; rw [if_pos h, hf]; simp
end
theorem XC (w : BitVec 64) : BitVec.ofInt 64 (w.toNat : Int) = w := by
 apply BitVec.eq_of_toInt_eq
 rw [BitVec.toInt_ofInt, BitVec.toInt_eq_toNat_bmod]
theorem Zbv (w : BitVec 64) : IntKind.u64.wrap (w.toNat : Int) = w.toNat := by
 have := w.isLt
 simp [IntKind.wrap, IntKind.signed, IntKind.bits]; omega
theorem vb_and (a b : BitVec 64) : QU .and .u64 a.toNat b.toNat = ((a &&& b).toNat : Int) := by
 show IntKind.u64.wrap ((BitVec.ofInt 64 (a.toNat : Int) &&& BitVec.ofInt 64 (b.toNat : Int)).toNat : Int) = _
 rw [XC, XC, Zbv]
theorem vb_or (a b : BitVec 64) : QU .or .u64 a.toNat b.toNat = ((a ||| b).toNat : Int) := by
 show IntKind.u64.wrap ((BitVec.ofInt 64 (a.toNat : Int) ||| BitVec.ofInt 64 (b.toNat : Int)).toNat : Int) = _
 rw [XC, XC, Zbv]
theorem vb_xor (a b : BitVec 64) : QU .xor .u64 a.toNat b.toNat = ((a ^^^ b).toNat : Int) := by
 show IntKind.u64.wrap ((BitVec.ofInt 64 (a.toNat : Int) ^^^ BitVec.ofInt 64 (b.toNat : Int)).toNat : Int) = _
 rw [XC, XC, Zbv]
theorem vb_andNot (a b : BitVec 64) : QU .andNot .u64 a.toNat b.toNat = ((a &&& ~~~b).toNat : Int) := by
 show IntKind.u64.wrap ((BitVec.ofInt 64 (a.toNat : Int) &&& ~~~BitVec.ofInt 64 (b.toNat : Int)).toNat : Int) = _
 rw [XC, XC, Zbv]
theorem wd_shl1 (n : Int) (h : 0 ≤ n) : IntKind.u64.wrap (1 * 2 ^ (min n.toNat 64)) = ((1#64 <<< n.toNat).toNat : Int) := by
 rw [BitVec.toNat_shiftLeft]
 simp only [IntKind.wrap, IntKind.signed, IntKind.bits]
 by_cases hn : n.toNat < 64
 ·rw [Nat.min_eq_left (by omega), Nat.shiftLeft_eq]
  simp
 rw [Nat.min_eq_right (by omega), Nat.shiftLeft_eq]
 have : (2 : Nat) ^ n.toNat % 2 ^ 64 = 0 := by
  obtain ⟨k, hk⟩ : ∃ k, n.toNat = 64 + k := ⟨n.toNat - 64, by omega⟩
  rw [hk, Nat.pow_add]; exact Nat.mul_mod_right _ _
 simp [this]
theorem wd_shr (w : BitVec 64) (n : Int) (h : 0 ≤ n) : Int.fdiv (w.toNat : Int) (2 ^ (min n.toNat 64)) = ((w >>> n.toNat).toNat : Int) := by
 rw [BitVec.toNat_ushiftRight, Nat.shiftRight_eq_div_pow]
 have h1 : Int.fdiv (w.toNat : Int) (2 ^ (min n.toNat 64)) = ((w.toNat / 2 ^ (min n.toNat 64) : Nat) : Int) := by
  rw [Int.fdiv_eq_ediv_of_nonneg _ (Int.le_of_lt (Int.pow_pos (by omega)))]
  rw [Int.natCast_ediv, Int.natCast_pow]; rfl
 rw [h1]
 by_cases hn : n.toNat < 64
 ·rw [Nat.min_eq_left (by omega)]
 rw [Nat.min_eq_right (by omega), Nat.div_eq_of_lt (by have := w.isLt; simpa using this), Nat.div_eq_of_lt]
 have h2 := w.isLt
 have : (2:Nat)^64 ≤ 2 ^ n.toNat := Nat.pow_le_pow_right (by omega) (by omega)
 omega
theorem wd_inj {a b : BitVec 64} : (a.toNat : Int) = b.toNat ↔ a = b := by
 constructor
 ·intro h; apply BitVec.eq_of_toNat_eq; omega
 intro h; rw [h]
theorem wd_zero {a : BitVec 64} : (a.toNat : Int) = 0 ↔ a = 0#64 := by
 have := @wd_inj a 0#64; simpa using this
theorem wd_one {a : BitVec 64} : (a.toNat : Int) = 1 ↔ a = 1#64 := by
 have := @wd_inj a 1#64; simpa using this
theorem wd_wrap_add (a b : BitVec 64) : IntKind.u64.wrap ((a.toNat : Int) + b.toNat) = ((a + b).toNat : Int) := by
 rw [BitVec.toNat_add]; simp [IntKind.wrap, IntKind.signed, IntKind.bits]
theorem wd_wrap_sub (a b : BitVec 64) : IntKind.u64.wrap ((a.toNat : Int) - b.toNat) = ((a - b).toNat : Int) := by
 rw [BitVec.toNat_sub]
 have h1 := a.isLt; have h2 := b.isLt
 simp [IntKind.wrap, IntKind.signed, IntKind.bits]
 omega
theorem wd_not (a : BitVec 64) : QU .xor .u64 18446744073709551615 a.toNat = ((~~~a).toNat : Int) := by
 have := vb_xor (BitVec.allOnes 64) a
 rw [BitVec.allOnes_xor] at this
 exact this
theorem beq_wd1 (a : BitVec 64) : ((a.toNat : Int) == 1) = (a == 1#64) := by rw [Bool.eq_iff_iff]; simp [wd_one]
theorem bit1 (w : BitVec 64) (n : Nat) : (w >>> n &&& 1#64 == 1#64) = w.getLsbD n := by
 rw [BitVec.and_one_eq_setWidth_ofBool_getLsbD, BitVec.getLsbD_ushiftRight, Nat.add_zero]
 cases w.getLsbD n <;> rfl
section
variable {T : TypeId → Option VTy} {ρ : Operand → VVal} {H : Ze} {op : Op} {t ty : TypeId} {x y : Operand} {a b : BitVec 64} {k : IntKind} {m : Int}
theorem Xs (ho : op = .binOp .and t x y ty) (hx : ρ x = .int .u64 a.toNat) (hy : ρ y = .int .u64 b.toNat) : vop T ρ H op = some (.int .u64 (a &&& b).toNat, H) := by
 rw [ho]; simp only [vop, hx, hy, Zar, vint, if_true, vb_and, Option.map_some]
theorem ZcG (ho : op = .binOp .or t x y ty) (hx : ρ x = .int .u64 a.toNat) (hy : ρ y = .int .u64 b.toNat) : vop T ρ H op = some (.int .u64 (a ||| b).toNat, H) := by
 rw [ho]; simp only [vop, hx, hy, Zar, vint, if_true, vb_or, Option.map_some]
theorem Qj (ho : op = .binOp .andNot t x y ty) (hx : ρ x = .int .u64 a.toNat) (hy : ρ y = .int .u64 b.toNat) : vop T ρ H op = some (.int .u64 (a &&& ~~~b).toNat, H) := by
 rw [ho]; simp only [vop, hx, hy, Zar, vint, if_true, vb_andNot, Option.map_some]
theorem XY (ho : op = .binOp .add t x y ty) (hx : ρ x = .int .u64 a.toNat) (hy : ρ y = .int .u64 b.toNat) : vop T ρ H op = some (.int .u64 (a + b).toNat, H) := by
 rw [ho]; simp only [vop, hx, hy, Zar, vint, if_true, wd_wrap_add, Option.map_some]
theorem v_subW (ho : op = .binOp .sub t x y ty) (hx : ρ x = .int .u64 a.toNat) (hy : ρ y = .int .u64 b.toNat) : vop T ρ H op = some (.int .u64 (a - b).toNat, H) := by
 rw [ho]; simp only [vop, hx, hy, Zar, vint, if_true, wd_wrap_sub, Option.map_some]
theorem v_xorU (ho : op = .unOp .xor t x) (hx : ρ x = .int .u64 a.toNat) : vop T ρ H op = some (.int .u64 (~~~a).toNat, H) := by
 rw [ho]; simp only [vop, hx, vun, IntKind.signed, Bool.false_eq_true, if_false]
 rw [show IntKind.u64.max = 18446744073709551615 from rfl, wd_not]; rfl
theorem Qh (ho : op = .binOp .shl t (.const (.int .u64 1)) y ty) (hy : ρ y = .int k m) (hr : ρ (.const (.int .u64 1)) = .int .u64 1) (hm : 0 ≤ m) : vop T ρ H op = some (.int .u64 (1#64 <<< m.toNat).toNat, H) := by
 rw [ho]; simp only [vop, hr, hy, Zar, J8]
 rw [if_neg (by omega), show IntKind.u64.bits = 64 from rfl, wd_shl1 m hm]; rfl
theorem Xd (ho : op = .binOp .shr t x y ty) (hx : ρ x = .int .u64 a.toNat) (hy : ρ y = .int k m) (hm : 0 ≤ m) : vop T ρ H op = some (.int .u64 (a >>> m.toNat).toNat, H) := by
 rw [ho]; simp only [vop, hx, hy, Zar, J8]
 rw [if_neg (by omega), show IntKind.u64.bits = 64 from rfl, wd_shr a m hm]; rfl
end
theorem Zbi (n : Int) (h : -9223372036854775808 ≤ n ∧ n < 9223372036854775808) : IntKind.i64.wrap n = n := by
 simp only [IntKind.wrap, IntKind.signed, IntKind.bits]
 simp
 omega
section
variable {T : TypeId → Option VTy} {ρ : Operand → VVal} {H : Ze} {op : Op} {t ty : TypeId} {x y : Operand} {n m : Int}
theorem Zab (ho : op = .binOp .add t x y ty) (hx : ρ x = .int .i64 n) (hy : ρ y = .int .i64 m) (h : -9223372036854775808 ≤ n + m ∧ n + m < 9223372036854775808) : vop T ρ H op = some (.int .i64 (n + m), H) := by
 rw [ho]; simp only [vop, hx, hy, Zar, vint, if_true, Zbi _ h, Option.map_some]
theorem v_subI (ho : op = .binOp .sub t x y ty) (hx : ρ x = .int .i64 n) (hy : ρ y = .int .i64 m) (h : -9223372036854775808 ≤ n - m ∧ n - m < 9223372036854775808) : vop T ρ H op = some (.int .i64 (n - m), H) := by
 rw [ho]; simp only [vop, hx, hy, Zar, vint, if_true, Zbi _ h, Option.map_some]
end
def slotOf (ρ : VEnv) : Operand → Option VVal
 | .tmp i => ρ[i]?
 | _ => none
theorem v_func {T : TypeId → Option VTy} {ρ : VEnv} {H : Ze} {op : Op} {f : FuncId} {cap : Array Operand} (caps : List VVal) (ho : op = .makeFunc (.func f) #[] cap) (hc : cap.toList.map (slotOf ρ) = caps.map some) : vop T ρ.eval H op = some (.func f [] caps, H) := by
 have key : ∀ (l : List Operand) (cs : List VVal), l.map (slotOf ρ) = cs.map some → l.map ρ.eval = cs := by
  intro l
  induction l with
  | nil => intro cs h; cases cs with | nil => rfl | cons c cs => simp at h
  | cons x l ih =>
   intro cs h
   cases cs with
   | nil => simp at h
   | cons c cs =>
    simp only [List.map_cons, List.cons.injEq] at h ⊢
    refine ⟨?_, ih cs h.2⟩
    have h1 := h.1
    cases x <;> simp only [slotOf, reduceCtorEq] at h1
    simp [VEnv.eval, List.getD_eq_getElem?_getD, h1]
 rw [ho]
 simp only [vop, key _ _ hc]
 rfl
section
variable {T : TypeId → Option VTy} {ρ : Operand → VVal} {H : Ze} {op : Op}
theorem v_idxF {t e : TypeId} {x i : Operand} {y z : VTy} {cs : List VVal} {len es : Nat} {ex : Bool} {k : IntKind} {n : Int} (ho : op = .indexAddr t x i) (hx : ρ x = .fsl cs len es ex) (hi : ρ i = .int k n)
  (hy : T t = some y) (hd : y.desc = .slice e) (hz : T e = some z) (hs : z.size = es) (hn : 0 ≤ n ∧ n < len) : vop T ρ H op = some (.fptr cs (n.toNat * es), H) := by
 rw [ho]; simp only [vop, Y9, hx, hi, hy, hd, hz, hs, hn, and_self, if_true, Option.map_some]
theorem v_idxFA {t e : TypeId} {x i : Operand} {y z : VTy} {cs : List VVal} {len off : Nat} {k : IntKind} {n : Int} (ho : op = .indexAddr t x i) (hx : ρ x = .fptr cs off) (hi : ρ i = .int k n)
  (hy : T t = some y) (hd : y.desc = .array len e) (hz : T e = some z) (hn : 0 ≤ n ∧ n < len) : vop T ρ H op = some (.fptr cs (off + n.toNat * z.size), H) := by
 rw [ho]; simp only [vop, Y9, hx, hi, hy, hd, hz, hn, and_self, if_true, Option.map_some]
theorem v_idxA {t e : TypeId} {x i : Operand} {y z : VTy} {b len off : Nat} {k : IntKind} {n : Int} (ho : op = .indexAddr t x i) (hx : ρ x = .ptr (some (b, off))) (hi : ρ i = .int k n)
  (hy : T t = some y) (hd : y.desc = .array len e) (hz : T e = some z) (hn : 0 ≤ n ∧ n < len) : vop T ρ H op = some (.ptr (some (b, off + n.toNat * z.size)), H) := by
 rw [ho]; simp only [vop, Y9, hx, hi, hy, hd, hz, hn, and_self, if_true, Option.map_some]
theorem v_loadF {t : TypeId} {a : Operand} {y : VTy} {off : Nat} {cs : List VVal} {v : VVal} (ho : op = .load t a) (ha : ρ a = .fptr cs off) (hy : T t = some y) (hd : Zk y.desc = false)
  (hv : cs[off]? = some v) : vop T ρ H op = some (v, H) := by
 rw [ho]; simp only [vop, ha, Y4, hy, hd, Bool.false_eq_true, if_false, hv, Option.map_some]
theorem v_loadFA {t : TypeId} {a : Operand} {y : VTy} {off : Nat} {cs vs : List VVal} (ho : op = .load t a) (ha : ρ a = .fptr cs off) (hy : T t = some y) (hd : Zk y.desc = true)
  (hv : Zo cs off y.size = some vs) : vop T ρ H op = some (.agg vs, H) := by
 rw [ho]; simp only [vop, ha, Y4, hy, hd, if_true, hv, Option.map_some]
end
theorem Jj {α : Type} {f : α → VVal} {l : List α} {n : Int} (d : α) (h : 0 ≤ n ∧ n < l.length) : (l.map f)[n.toNat * 1]? = some (f (l.getD n.toNat d)) := by
 have : n.toNat < l.length := by omega
 simp [List.getElem?_eq_getElem this]
theorem XE {α : Type} {f : α → VVal} {l : List α} {n : Int} (d : α) (h : 0 ≤ n ∧ n < l.length) : (l.map f)[0 + n.toNat * 1]? = some (f (l.getD n.toNat d)) := by rw [Nat.zero_add]; exact Jj d h
abbrev iI (n : Int) : VVal := .int .i64 n
abbrev iW (w : BitVec 64) : VVal := .int .u64 (w.toNat : Int)
def fzI (l : List Int) : VVal := .fsl (l.map iI) l.length 1 false
def fzW (l : List (BitVec 64)) : VVal := .fsl (l.map iW) l.length 1 false
def upd (env : VEnv) : List (Nat × VVal) → VEnv
 | [] => env
 | (i, v) :: l => upd (env.set i v) l
section
variable {S : Sys} {H0 H : Ze} {rd : Option Nat} {env : VEnv} {Q : XV}
theorem ZL {c : Code} {env' : VEnv} (he : env = env') (h : B S H0 rd c env' H Q) : B S H0 rd c env H Q := he ▸ h
theorem YS {c : Code} {H' : Ze} (he : H = H') (h : B S H0 rd c env H' Q) : B S H0 rd c env H Q := he ▸ h
theorem Zr {c : Code} {env' : VEnv} (mask : List Bool) (he : QN mask env = env') (h : B S H0 rd c env' H Q) : B S H0 rd c env H Q := Ym (Gh.clear mask he) h
theorem Zw {b : Code} {α : Type} (μ : α → Nat) (W : α → List (Nat × VVal)) (inv : α → Ze → Prop) (x0 : α) (h0 : env = upd env (W x0)) (hi : inv x0 H)
  (round : ∀ x G, inv x G → B S H0 rd b (upd env (W x)) G (ZcH S H0 (fun env' G' => ∃ y, μ y < μ x ∧ env' = upd env (W y) ∧ inv y G') Q)) : B S H0 rd (.loop b) env H Q := by
 refine B_loop μ (fun x e G => e = upd env (W x) ∧ inv x G) (fun x e G h => ?_) x0 ⟨h0, hi⟩
 obtain ⟨rfl, hi⟩ := h
 refine (round x G hi).mono ?_
 intro e v G2 hq
 cases e <;> exact hq
theorem Zt {next : VEnv → Ze → Prop} {env' : VEnv} (mask : List Bool) (he : QN mask env = env') (h : next env' H) : ZcH S H0 next Q .normal env H := ⟨env', H, Gh.clear mask he, h⟩
theorem JG {next : VEnv → Ze → Prop} {env' : VEnv} {H' : Ze} (mask : List Bool) (he : QN mask env = env') (g : Gh S H0 env' H env' H') (h : next env' H') : ZcH S H0 next Q .normal env H := ⟨env', H', Gh.trans (Gh.clear mask he) g, h⟩
theorem Ye {next : VEnv → Ze → Prop} (h : Q .ret env H) : ZcH S H0 next Q .ret env H := h
theorem Zu {next : VEnv → Ze → Prop} {id : Nat} (h : Q (.exit id) env H) : ZcH S H0 next Q (.exit id) env H := h
theorem Zb {b : Code} (h : B S H0 rd b env H Q) : seqK S H0 rd b Q .normal env H := h
theorem Zl {b : Code} (h : Q .ret env H) : seqK S H0 rd b Q .ret env H := h
theorem ZA {b : Code} {id : Nat} (h : Q (.exit id) env H) : seqK S H0 rd b Q (.exit id) env H := h
theorem Zq {id : Nat} (h : Q .normal env H) : blkK id Q .normal env H := h
theorem ZE {id : Nat} (h : Q .ret env H) : blkK id Q .ret env H := h
theorem Zy {id : Nat} (h : Q .normal env H) : blkK id Q (.exit id) env H := by simp only [blkK, if_true]; exact h
theorem K_blkO {id j : Nat} (hj : (j == id) = false) (h : Q (.exit j) env H) : blkK id Q (.exit j) env H := by
 have hne : ¬ j = id := by simpa using hj
 simp only [blkK, if_neg hne]; exact h
theorem J_ret (h : Q .ret env H) : QP (some .ret) env H Q := h
theorem J_exit {id : Nat} (h : Q (.exit id) env H) : QP (some (.exit id)) env H Q := h
theorem Zp {f : FuncId} {fn : Func} {c : Code} {args : List VVal} {R : VVal → Ze → Prop} (hf : S.C.fn f = some fn) (hb : fn.body = some c) (env : VEnv) (he : args ++ List.replicate (fn.ntmps - args.length) .skip = env)
 (h : B S H none c env (H ++ []) (fnK S fn H R)) : F S f args H R := F_fn hf hb env he (by rw [List.append_nil] at h; exact h)
theorem Gh.dropTo {vs : List VVal} {B L X : Ze} (n : Nat) (hn : L.length = n) (hB : BaseOk H B) (hv : VVal.underL (H.length + n) vs = true) (hL : (L.all fun k => k.under (H.length + n)) = true) : Gh S H vs (B ++ (L ++ X)) vs (B ++ L) := by
 subst hn
 have hL := List.all_eq_true.1 hL
 have hBl := hB.1
 have := Gh.drop (S := S) (H0 := H) (H := B ++ (L ++ X)) (vs := vs) (H.length + L.length) (by omega) (by simp; omega) hv (fun i hi => by
  by_cases h : i < H.length
  ·rw [List.getElem?_append_left (by omega)]
   rcases hB.2 i h with h1 | h1
   ·exact .inl ⟨h, h1⟩
   exact .inr fun k hk => VBlk.under_mono (by omega) k (h1 k hk)
  right
  intro k hk
  rw [List.getElem?_append_right (by omega), List.getElem?_append_left (by omega)] at hk
  exact hL k (List.mem_of_getElem? hk))
 have e : (B ++ (L ++ X)).take (H.length + L.length) = B ++ L := by
  rw [← List.append_assoc]; exact List.take_left' (by simp; omega)
 rw [e] at this; exact this
theorem Gh.freezeL {H0 : Ze} {vs vs' : List VVal} {L : Ze} (i b : Nat) {off len cap es : Nat} {ex : Bool} {cs l : List VVal} (hv : vs[i]? = some (.slice (some (H.length + b, off)) len cap ex es)) (hg : L[b]? = some (.cells cs true)) (hl : Zo cs off (len * es) = some l) (hc : len ≤ cap)
  (he : vs.set i (.fsl l len es false) = vs') : Gh S H0 vs (H ++ L) vs' (H ++ L.set b .dead) := by
 have := Gh.freeze (S := S) (H0 := H0) i hv (ZI rfl hg) hl hc he
 rwa [ZO rfl] at this
theorem Gh.freezePtrL {H0 : Ze} {vs vs' : List VVal} {L : Ze} (i b : Nat) {off : Nat} {cs : List VVal} (hv : vs[i]? = some (.ptr (some (H.length + b, off)))) (hg : L[b]? = some (.cells cs true)) (he : vs.set i (.fptr cs off) = vs') : Gh S H0 vs (H ++ L) vs' (H ++ L.set b .dead) := by
 have := Gh.freezePtr (S := S) (H0 := H0) i hv (ZI rfl hg) he
 rwa [ZO rfl] at this
theorem Gh.cellL {H0 : Ze} {vs : List VVal} {L : Ze} (c j b : Nat) {cs l cs2 : List VVal} {off len cap es : Nat} {ex : Bool} (hc : L[c]? = some (.cells cs2 true)) (hj : cs2[j]? = some (.slice (some (H.length + b, off)) len cap ex es)) (hne : c ≠ b) (hg : L[b]? = some (.cells cs true)) (hl : Zo cs off (len * es) = some l) (hcap : len ≤ cap) :
  Gh S H0 vs (H ++ L) vs (H ++ (L.set b .dead).set c (.cells (cs2.set j (.fsl l len es false)) true)) := by
 have := Gh.cell (S := S) (H0 := H0) (vs := vs) (H.length + c) j (ZI rfl hc) hj (by omega) (ZI rfl hg) hl hcap
 rwa [ZO rfl, ZO rfl] at this
theorem Gh.cellNilL {H0 : Ze} {vs : List VVal} {L : Ze} (c j : Nat) {cs2 : List VVal} {es es' : Nat} {ex : Bool} (hc : L[c]? = some (.cells cs2 true)) (hj : cs2[j]? = some (.slice none 0 0 ex es)) :
  Gh S H0 vs (H ++ L) vs (H ++ L.set c (.cells (cs2.set j (.fsl [] 0 es' false)) true)) := by
 have := Gh.cellNil (S := S) (H0 := H0) (vs := vs) (es' := es') (H.length + c) j (ZI rfl hc) hj
 rwa [ZO rfl] at this
theorem Gh.cap1 {B L : Ze} {j : Nat} {f : FuncId} {cs : List VVal} (hB : BaseOk H B) (hg : L[j]? = some (.cells cs true)) (hu : VVal.underL H.length cs = true) :
  Gh S H [.func f [] [.ptr (some (B.length + j, 0))]] (B ++ L) [.func f [] [.fptr cs 0]] B := by
 have hg' : (B ++ L)[B.length + j]? = some (.cells cs true) := by rw [List.getElem?_append_right (by omega)]; simpa using hg
 have step : Gh S H [.func f [] [.ptr (some (B.length + j, 0))]] (B ++ L) [.func f [] [.fptr cs 0]] ((B ++ L).set (B.length + j) .dead) := by
  refine fun hl0 => ⟨by rw [List.length_set]; exact hl0, fun w ι xs hb s r => ?_⟩
  simp only [RelL] at r
  obtain ⟨x, xs', rfl, rx, rfl⟩ := r
  simp only [Rel] at rx
  obtain ⟨a', c', rfl, r1, r2⟩ := rx
  obtain ⟨y, r2⟩ := Jc r2
  have r3 := r2.2
  simp only [Rel] at r3
  obtain ⟨e, h1, hy⟩ := r3
  obtain ⟨ι', arr, zs, e1, s1, z1, k1, c1⟩ := s.freeze h1 hg'
  refine ⟨ι', Inj.ex_le e1 hl0, s1, .one ?_⟩
  simp only [Rel]
  refine ⟨a', c', rfl, RelL.mono (s.le e1) _ _ r1, ?_⟩
  rw [r2.1, hy]
  refine .one ?_
  simp only [Rel]
  exact ⟨e.r, e.sh, arr, zs, rfl, z1, k1, c1⟩
 refine Gh.trans step ?_
 have e : (B ++ L).set (B.length + j) .dead = B ++ L.set j .dead := by rw [List.set_append_right _ _ (by omega)]; simp
 rw [e]
 exact Gh.back hB (by simp [VVal.underL, VVal.under, hu])
end
section
variable {T : TypeId → Option VTy}
theorem Zf {rs : Array ResultVar} {env : VEnv} {H : Ze} {t : Nat} {v : VVal} (hr : rs = #[.tmp t]) (hv : env[t]? = some v) : ZX T env H rs = some v := by
 subst hr
 show some (env.getD t .skip) = some v
 rw [List.getD_eq_getElem?_getD, hv]; rfl
theorem Yy {rs : Array ResultVar} {env : VEnv} {H : Ze} {t1 t2 : Nat} {v1 v2 : VVal} (hr : rs = #[.tmp t1, .tmp t2]) (h1 : env[t1]? = some v1) (h2 : env[t2]? = some v2) : ZX T env H rs = some (.tuple [v1, v2]) := by
 subst hr
 show some (VVal.tuple [env.getD t1 .skip, env.getD t2 .skip]) = _
 rw [List.getD_eq_getElem?_getD, List.getD_eq_getElem?_getD, h1, h2]; rfl
theorem XO {rs : Array ResultVar} {env : VEnv} {H : Ze} (hr : rs = #[]) : ZX T env H rs = some (.tuple []) := by
 subst hr; rfl
theorem Jk {rs : Array ResultVar} {env : VEnv} {H : Ze} {a : Nat} {t : TypeId} {y : VTy} {b off : Nat} {cs : List VVal} {rw : Bool} {v : VVal} (hr : rs = #[.cell a t]) (ha : env.getD a .skip = .ptr (some (b, off))) (hy : T t = some y) (hd : Zk y.desc = false)
  (hb : H[b]? = some (.cells cs rw)) (hv : cs[off]? = some v) : ZX T env H rs = some v := by
 subst hr
 show Y4 T H t (env.getD a .skip) = some v
 rw [ha]
 simp only [Y4, hy, QS, hb, hd, Bool.false_eq_true, if_false, hv]
theorem YV {rs : Array ResultVar} {env : VEnv} {H : Ze} {a : Nat} {t : TypeId} {y : VTy} {b off : Nat} {cs vs : List VVal} {rw : Bool} (hr : rs = #[.cell a t]) (ha : env.getD a .skip = .ptr (some (b, off))) (hy : T t = some y) (hd : Zk y.desc = true)
  (hb : H[b]? = some (.cells cs rw)) (hv : Zo cs off y.size = some vs) : ZX T env H rs = some (.agg vs) := by
 subst hr
 show Y4 T H t (env.getD a .skip) = some (.agg vs)
 rw [ha]
 simp only [Y4, hy, QS, hb, hd, if_true, hv, Option.map_some]
end
set_option autoImplicit true
open Go
def uqA : List Int → List Int → Nat
 | _, [] => 0
 | s, x :: l => (if x ∈ s then 0 else 1) + uqA (s ++ [x]) l
def uq (l : List Int) : Nat := uqA [] l
theorem uqA_app : ∀ (l s : List Int) (x : Int), uqA s (l ++ [x]) = uqA s l + if x ∈ s ++ l then 0 else 1
 | [], s, x => by simp [uqA]
 | y :: l, s, x => by
  rw [List.cons_append, uqA, uqA, uqA_app l (s ++ [y]) x, List.append_assoc]
  simp only [List.singleton_append]; omega
theorem Zac {l : List Int} {x : Int} : uq (l ++ [x]) = uq l + if x ∈ l then 0 else 1 := by
 unfold uq; rw [uqA_app, List.nil_append]
theorem Xh {α : Type} {P : List α → Prop} (h0 : P []) (h1 : ∀ l x, P l → P (l ++ [x])) (l : List α) : P l := by
 have : ∀ k : List α, P k.reverse := by
  intro k
  induction k with
  | nil => exact h0
  | cons x k ih => rw [List.reverse_cons]; exact h1 _ _ ih
 have := this l.reverse
 rwa [List.reverse_reverse] at this
theorem uq_le (l : List Int) : uq l ≤ l.length := by
 refine Xh (P := fun l => uq l ≤ l.length) (Nat.zero_le _) (fun l x ih => ?_) l
 rw [Zac, List.length_append]
 show _ ≤ l.length + 1
 split <;> omega
def mxL : List Nat → Nat
 | [] => 0
 | x :: l => max x (mxL l)
theorem mxL_le {l : List Nat} {k : Nat} : mxL l ≤ k ↔ ∀ x, x ∈ l → x ≤ k := by
 induction l with
 | nil => simp [mxL]
 | cons a l ih => simp only [mxL, List.mem_cons, forall_eq_or_imp, Nat.max_le, ih]
theorem mxL_app (l : List Nat) (x : Nat) : mxL (l ++ [x]) = max (mxL l) x := by
 induction l with
 | nil => simp [mxL]
 | cons a l ih => rw [List.cons_append, mxL, mxL, ih]; omega
def oft (l : List Int) : Nat := mxL (l.map fun y => l.count y)
theorem oft_le {l : List Int} {k : Nat} : oft l ≤ k ↔ ∀ y, y ∈ l → l.count y ≤ k := by
 unfold oft; rw [mxL_le]
 constructor
 ·intro h y hy; exact h _ (List.mem_map.2 ⟨y, hy, rfl⟩)
 intro h x hx
 obtain ⟨y, hy, rfl⟩ := List.mem_map.1 hx
 exact h y hy
theorem le_ext {a b : Nat} (h : ∀ k, a ≤ k ↔ b ≤ k) : a = b := Nat.le_antisymm ((h b).2 (Nat.le_refl _)) ((h a).1 (Nat.le_refl _))
theorem ZaH {l : List Int} {x : Int} : oft (l ++ [x]) = max (oft l) (l.count x + 1) := by
 apply le_ext
 intro k
 rw [oft_le, Nat.max_le, oft_le]
 have hc : ∀ y, (l ++ [x]).count y = l.count y + if x = y then 1 else 0 := fun y => by
  rw [List.count_append, List.count_singleton]
  by_cases e : x = y <;> simp [e]
 constructor
 ·intro h
  refine ⟨fun y hy => ?_, ?_⟩
  ·have := h y (List.mem_append_left _ hy); rw [hc] at this; omega
  have := h x (by simp); rw [hc, if_pos rfl] at this; exact this
 rintro ⟨h1, h2⟩ y hy
 rw [hc]
 by_cases e : x = y
 ·subst e; rw [if_pos rfl]; exact h2
 rw [if_neg e]
 rcases List.mem_append.1 hy with hy | hy
 ·exact h1 y hy
 rw [List.mem_singleton] at hy; exact absurd hy.symm e
theorem uq_all (l : List Int) : uq l = l.length ↔ oft l ≤ 1 := by
 refine Xh (P := fun l => uq l = l.length ↔ oft l ≤ 1) (by simp [uq, uqA, oft, mxL]) (fun l x ih => ?_) l
 rw [Zac, ZaH, List.length_append]
 have h1 := uq_le l
 show _ = l.length + 1 ↔ _
 by_cases hx : x ∈ l
 ·rw [if_pos hx]
  have := List.count_pos_iff.2 hx
  omega
 rw [if_neg hx]
 have := List.count_eq_zero.2 hx
 omega
abbrev Rul := Int × Int × List Int × Unit
abbrev Pb := Int × List (BitVec 64) × List Int × List Rul × Unit
instance decRul : DecidableEq Rul := inferInstanceAs (DecidableEq (Int × Int × List Int × Unit))
instance decPb : DecidableEq Pb := inferInstanceAs (DecidableEq (Int × List (BitVec 64) × List Int × List Rul × Unit))
abbrev Rul.kind (r : Rul) : Int := r.1
abbrev Rul.k (r : Rul) : Int := r.2.1
abbrev Rul.steps (r : Rul) : List Int := r.2.2.1
abbrev Pb.users (p : Pb) : Int := p.1
abbrev Pb.who (p : Pb) : List (BitVec 64) := p.2.1
abbrev Pb.fixed (p : Pb) : List Int := p.2.2.1
abbrev Pb.rules (p : Pb) : List Rul := p.2.2.2.1
def YX (n : Int) : Int → List Int → Bool
 | _, [] => true
 | a, s :: l => decide (a < s ∧ s < n) && YX n s l
def J6 (a : Int) : List Int → Int
 | [] => a
 | s :: l => J6 s l
theorem lst1_app : ∀ (l : List Int) (a s : Int), J6 a (l ++ [s]) = s
 | [], _, _ => rfl
 | _ :: l, _, s => lst1_app l _ s
theorem ZaV {n : Int} : ∀ (l : List Int) (a s : Int), YX n a (l ++ [s]) = (YX n a l && decide (J6 a l < s ∧ s < n))
 | [], a, s => by rw [List.nil_append, YX, YX, YX, Bool.and_true, Bool.true_and]; rfl
 | x :: l, a, s => by rw [List.cons_append, YX, YX, J6, ZaV l x s, Bool.and_assoc]
theorem Zbb {n : Int} : ∀ (l l2 : List Int) (a : Int), YX n a (l ++ l2) = (YX n a l && YX n (J6 a l) l2)
 | [], l2, a => by simp [YX, J6]
 | x :: l, l2, a => by rw [List.cons_append, YX, YX, J6, Zbb l l2 x, Bool.and_assoc]
theorem Zc1 {n : Int} : ∀ (l : List Int) (a : Int), YX n a l = true → l = [] ∨ a + l.length < n
 | [], _, _ => .inl rfl
 | s :: l, a, h => by
  rw [YX, Bool.and_eq_true, decide_eq_true_eq] at h
  right
  rw [List.length_cons]
  rcases Zc1 l s h.2 with rfl | e
  ·simp; omega
  push_cast; omega
theorem Xn {n : Int} : ∀ (l : List Int) (a : Int), YX n a l = true → ∀ s, s ∈ l → a < s ∧ s < n
 | [], _, _, s, h => by cases h
 | x :: l, a, h, s, hs => by
  rw [YX, Bool.and_eq_true, decide_eq_true_eq] at h
  rcases List.mem_cons.1 hs with rfl | hs
  ·exact h.1
  have := Xn l x h.2 s hs; omega
theorem lst1_ge {n : Int} : ∀ (l : List Int) (a : Int), YX n a l = true → a ≤ J6 a l
 | [], _, _ => Int.le_refl _
 | x :: l, a, h => by
  rw [YX, Bool.and_eq_true, decide_eq_true_eq] at h
  have := lst1_ge l x h.2; rw [J6]; omega
abbrev ZaN (n : Int) (l : List Int) : Bool := YX n (-1) l
def knd (r : Rul) : Bool :=
 if r.kind = 1 ∨ r.kind = 2 then decide (r.k = 0 ∧ 2 ≤ r.steps.length)
 else if r.kind = 3 ∨ r.kind = 4 then decide ((1 ≤ r.k ∧ r.k ≤ 999999999) ∧ 1 ≤ r.steps.length)
 else if r.kind = 5 then decide (1 ≤ r.k ∧ r.k ≤ r.steps.length) else false
def rck (n : Int) (r : Rul) : Bool := decide (0 ≤ n ∧ n ≤ 12) && (ZaN n r.steps && knd r)
def YK (s l : List Int) : List Int := (s.filter fun i : Int => decide (i < l.length)).map fun i : Int => l.getD i.toNat 0
def lft (s l : List Int) : Nat := (s.filter fun i : Int => !decide (i < l.length)).length
theorem lbls_lt {s l : List Int} {i : Int} (h : i < l.length) : YK (s ++ [i]) l = YK s l ++ [l.getD i.toNat 0] ∧ lft (s ++ [i]) l = lft s l := by
 simp [YK, lft, List.filter_append, h]
theorem lbls_ge {s l : List Int} {i : Int} (h : ¬ i < l.length) : YK (s ++ [i]) l = YK s l ∧ lft (s ++ [i]) l = lft s l + 1 := by
 have : (l.length : Int) ≤ i := by omega
 simp [YK, lft, List.filter_append, h, this]
theorem Zch (s l : List Int) : (YK s l).length + lft s l = s.length := by
 refine Xh (P := fun s => (YK s l).length + lft s l = s.length) rfl (fun s i ih => ?_) s
 by_cases h : i < l.length
 ·rw [(lbls_lt h).1, (lbls_lt h).2, List.length_append, List.length_append]; simp; omega
 rw [(lbls_ge h).1, (lbls_ge h).2, List.length_append]; simp; omega
def kp (r : Rul) (L : List Int) (left : Nat) : Bool :=
 if r.kind = 1 then decide (oft L ≤ 1) else if r.kind = 2 then decide (uq L ≤ 1) else if r.kind = 3 then decide ((oft L : Int) ≤ r.k) else if r.kind = 4 then decide ((uq L : Int) ≤ r.k) else decide (r.k ≤ uq L + left)
def kpL (r : Rul) (l : List Int) : Bool := kp r (YK r.steps l) (lft r.steps l)
def hld (r : Rul) (l : List Int) : Bool := rck l.length r && kpL r l
def erl (r : Rul) (n : Int) (l : List Int) : Bool := rck n r && (decide ((l.length : Int) ≤ n) && kpL r l)
def brk (rs : List Rul) (l : List Int) : List Int := (rs.zipIdx.filter fun x => !hld x.1 l).map fun x => (x.2 : Int)
theorem brk_app {rs : List Rul} {r : Rul} {l : List Int} : brk (rs ++ [r]) l = brk rs l ++ if hld r l = true then [] else [(rs.length : Int)] := by
 unfold brk
 rw [List.zipIdx_append, List.filter_append, List.map_append]
 congr 1
 by_cases h : hld r l = true <;> simp [h]
def okW (u f : Int) (w : BitVec 64) : Bool := decide (-1 ≤ f ∧ f < u) && decide (w >>> u.toNat = 0#64)
def pck (p : Pb) : Int :=
 if 12 < p.who.length ∨ 64 < p.users ∨ 32 < p.rules.length then 2
 else if p.users < 0 ∨ p.fixed.length ≠ p.who.length then 1
 else if ((List.range p.who.length).all fun i => okW p.users (p.fixed.getD i 0) (p.who.getD i 0)) && p.rules.all (rck p.who.length) then 0 else 1
structure Good (p : Pb) : Prop where
 n12 : p.who.length ≤ 12
 u64 : p.users ≤ 64
 r32 : p.rules.length ≤ 32
 u0 : 0 ≤ p.users
 fx : p.fixed.length = p.who.length
 ok : ∀ i, i < p.who.length → okW p.users (p.fixed.getD i 0) (p.who.getD i 0) = true
 ru : ∀ r, r ∈ p.rules → rck p.who.length r = true
theorem pck_good {p : Pb} : pck p = 0 ↔ Good p := by
 unfold pck
 constructor
 ·intro h
  split at h
  ·omega
  split at h
  ·omega
  split at h
  ·rename_i h1 h2 h3
   rw [Bool.and_eq_true, List.all_eq_true, List.all_eq_true] at h3
   exact ⟨by omega, by omega, by omega, by omega, by omega, fun i hi => h3.1 i (List.mem_range.2 hi), h3.2⟩
  omega
 intro g
 have h1 := g.n12; have h2 := g.u64; have h3 := g.r32; have h4 := g.u0; have h5 := g.fx
 rw [if_neg (by omega), if_neg (by omega), if_pos]
 rw [Bool.and_eq_true, List.all_eq_true, List.all_eq_true]
 exact ⟨fun i hi => g.ok i (List.mem_range.1 hi), g.ru⟩
def flk (u f : Int) (w : BitVec 64) (x : Int) : Int := if x < 0 ∨ u ≤ x then 2 else if 0 ≤ f ∧ f ≠ x then 3 else if f < 0 ∧ w.getLsbD x.toNat = false then 4 else 0
def flU (p : Pb) (l : List Int) (n : Nat) : List (Int × Int × Int) := (List.range n).flatMap fun i => let k := flk p.users (p.fixed.getD i 0) (p.who.getD i 0) (l.getD i 0); if k = 0 then [] else [(k, (i : Int), 0)]
theorem flU_succ (p : Pb) (l : List Int) (n : Nat) : flU p l (n + 1) = flU p l n ++ (if flk p.users (p.fixed.getD n 0) (p.who.getD n 0) (l.getD n 0) = 0 then [] else [(flk p.users (p.fixed.getD n 0) (p.who.getD n 0) (l.getD n 0), (n : Int), 0)]) := by
 unfold flU; rw [List.range_succ, List.flatMap_append]; simp
def flR (b : List Int) : List (Int × Int × Int) := b.map fun i => (5, 0, i)
def flw (p : Pb) (l : List Int) : List (Int × Int × Int) := if l.length ≠ p.who.length then [(1, 0, 0)] else flU p l l.length ++ flR (brk p.rules l)
end Go.V
