/- THE LOGIC: regions, calls, ranges over functions. -/
import Derived.Test.YtbngdhlmggdaaaaV14
set_option autoImplicit false
set_option linter.unusedVariables false
set_option linter.unusedSimpArgs false
namespace Go.V
open Go Go.RowKit

section
variable {S : Sys}

def VVal.isUndef : VVal → Bool
  | .undef => true
  | _ => false
theorem VVal.ne_undef {v : VVal} (h : v.isUndef = false) : v ≠ .undef := by rintro rfl; cases h

def noCall : Caller := fun _ _ _ => none
theorem noCall_ok {P : Program} {w0 : World} : CallSound P w0 noCall := ⟨fun _ _ _ _ _ h => (by cases h), fun _ _ => rfl, fun _ _ _ _ _ h => (by cases h)⟩

/-- A CALL, made by an operation. -/
theorem op_call {ops : Array Oper} {o : Oper} {env : VEnv} {H : VHeap} {f : VVal} {args : List VVal} {R : VVal → VHeap → Prop} (hw : vwanted ops env o.guard = some true) (hcal : calleeOf S.C.meth env.eval o.op = some (f, args)) (hne : f ≠ .undef)
    (hF : Fv S f args H R) {ro : Option Nat} {n : Nat} {w : World} {ι : Inj} {a : Act} {K : Act → World → Prop} {Q : Exit → Act → World → Prop}
    (s : Sim S.w0 ι H w) (hρ : Ops ι env.eval a.eval o.op) (hg : ∀ j want d, o.guard = some (j, want) → (ops[j]?).bind (·.dst) = some d → Rel ι (env.getD d .skip) (a.tmps.getD d undef))
    (hK : ∀ x w' ι' v G, Inj.ex H.length ι ι' → H.length ≤ G.length → Sim S.w0 ι' G w' → Rel ι' v x → R v G → K (a.put o.dst x) w') :
    if Region.wanted o (yielded ops a.tmps) = true then o.wpIn (WF ro) n S.P a w K Q else (∀ f, o.about S.P w a.eval = some f → (WF ro).fn f) ∧ K (a.put o.dst undef) w := by
  rw [wanted_rel hw hg, if_pos rfl]
  refine ⟨fun _ _ => trivial, ?_⟩
  have hop : ∃ c, o.op = .call c := by
    cases ho : o.op <;> rw [ho] at hcal <;> simp [calleeOf] at hcal
    exact ⟨_, rfl⟩
  obtain ⟨c, hop⟩ := hop
  rw [Oper.semAt_eq _ _ _ (by rw [hop]; intro c'; simp)]
  have hargs : RelL ι (c.args.toList.map env.eval) (c.args.map a.eval).toList := args_rel c.args fun x hx => hρ x (by rw [hop]; simp [Op.operands, Call.operands, hx])
  rw [hop] at hcal
  obtain ⟨callee, cargs, ats⟩ := c
  cases callee with
  | builtin b => simp [calleeOf] at hcal
  | value g =>
    simp only [calleeOf, Option.some.injEq, Prod.mk.injEq] at hcal
    obtain ⟨rfl, rfl⟩ := hcal
    have := hF ro n w ι (a.eval g) (cargs.map a.eval) o a K Q s (hρ g (by rw [hop]; simp [Op.operands, Call.operands])) hargs hK
    simpa only [execOp, hop, resolve] using this
  | invoke x name =>
    simp only [calleeOf] at hcal
    have rx := hρ x (by rw [hop]; simp [Op.operands, Call.operands])
    split at hcal
    · rename_i t u hx
      rw [hx] at rx
      simp only [Rel] at rx
      obtain ⟨y, hy, ry⟩ := rx
      split at hcal
      · rename_i f' hm
        simp only [Option.some.injEq, Prod.mk.injEq] at hcal
        obtain ⟨rfl, rfl⟩ := hcal
        have := hF ro n w ι (.func (.func f') #[] #[]) (#[y] ++ cargs.map a.eval) o a K Q s (by simp only [Rel]; exact ⟨#[], #[], rfl, .nil, .nil⟩) (by simpa using RelL.cons ry (by simpa using hargs)) hK
        have e : ((do let d ← Deferred.ofValue (.func (.func f') #[] #[]) (#[y] ++ cargs.map a.eval); invoke d.target d.args : Sem Next)).run S.P w = (execOp a.eval o).run S.P w := by
          have h0 : (#[Value.iface t y] ++ cargs.map a.eval)[0]? = some (.iface t y) := by simp [Array.getElem?_append]
          have h1 : (#[Value.iface t y] ++ cargs.map a.eval).extract 1 (#[Value.iface t y] ++ cargs.map a.eval).size = cargs.map a.eval := by simp
          simp only [execOp, hop, resolve, Deferred.ofValue, Sem.run_bind, Sem.run_pure, Result.andThen_ok, invoke, hy, h0, h1]
          rw [S.ok.meths t name f' hm y (cargs.map a.eval) w]
          simp
        rw [e] at this
        exact this
      · simp only [Option.some.injEq, Prod.mk.injEq] at hcal
        exact absurd hcal.1.symm hne
    · simp only [Option.some.injEq, Prod.mk.injEq] at hcal
      exact absurd hcal.1.symm hne

/-! ### Regions in the written order -/
def WL (S : Sys) (H0 : VHeap) (ops : Array Oper) (l : List Oper) (env : VEnv) (H : VHeap) (Q : VEnv → VHeap → Prop) : Prop :=
  ∀ (i : Nat), ops.toList.drop i = l → ∀ (ro : Option Nat) (n : Nat) (a : Act) (w : World) (ι : Inj) (QQ : Exit → Act → World → Prop), Base S H0 ι → H0.length ≤ H.length → Sim S.w0 ι H w → RelL ι env a.tmps.toList →
    (∀ a' w' ι' env' H', a'.defers = a.defers → Inj.ex H0.length ι ι' → H0.length ≤ H'.length → Sim S.w0 ι' H' w' → RelL ι' env' a'.tmps.toList → Q env' H' → QQ .normal a' w') →
    wpOpsIn (WF ro) n S.P ops QQ (List.range' i l.length) a w

variable {H0 : VHeap} {rd : Option Nat} {env : VEnv} {H : VHeap} {Q : Post}

theorem B_region {id : Nat} {ops : Array Oper} (h : WL S H0 ops ops.toList env H fun env H => Q .normal env H) : B S H0 rd (.region id ops false) env H Q := by
  intro ro n D0 a w ι h1 h2 h3 h4 h5 h6
  refine wpIn_region ?_
  have := h 0 (by simp) ro n a w ι (BPost S H0 rd D0 ι Q) h2 h3 h4 h5 (fun a' w' ι' env' H' d1 d2 d3 d4 d5 d6 => ⟨ι', env', H', d2.go (Nat.le_refl _), d3, d4, d5, by rw [d1]; exact h6.df d2.2.2, d6⟩)
  rw [List.range_eq_range']
  simpa using this

variable {ops : Array Oper} {o : Oper} {l : List Oper} {K : VEnv → VHeap → Prop}

theorem L_nil (h : K env H) : WL S H0 ops [] env H K := fun i hi ro n a w ι QQ h2 h3 h4 h5 hQ => hQ a w ι env H rfl (Inj.ex_refl _ _) h3 h4 h5 h

theorem L_gh {env' : VEnv} {H' : VHeap} (g : Gh S H0 env H env' H') (h : WL S H0 ops l env' H' K) : WL S H0 ops l env H K := by
  intro i hi ro n a w ι QQ h2 h3 h4 h5 hQ
  obtain ⟨g1, g2⟩ := g h3
  obtain ⟨ι', i1, i2, i3⟩ := g2 w ι _ h2 h4 h5
  exact h i hi ro n a w ι' QQ (h2.go (i1.go (Nat.le_refl _))) g1 i2 i3 fun a' w' ι2 env2 H2 d1 d2 d3 d4 d5 d6 => hQ a' w' ι2 env2 H2 d1 (Inj.ex_trans i1 d2 (Nat.le_refl _)) d3 d4 d5 d6

theorem drop_get {i : Nat} (hi : ops.toList.drop i = o :: l) : ops[i]? = some o ∧ ops.toList.drop (i + 1) = l := by
  refine ⟨?_, by rw [← List.drop_drop, hi]; rfl⟩
  have : ops.toList[i]? = some o := by rw [← List.head?_drop, hi]; rfl
  simpa using this

/-- an operation that is no call -/
theorem L_op {env' : VEnv} {H' : VHeap} {v : VVal} (hg : vwanted ops env o.guard = some true) (hc : calleeOf S.C.meth env.eval o.op = none) (hv : vop S.C.T env.eval H o.op = some (v, H'))
    (he : env.put o.dst v = env') (h : WL S H0 ops l env' H' K) : WL S H0 ops (o :: l) env H K := by
  subst he
  intro i hi ro n a w ι QQ h2 h3 h4 h5 hQ
  obtain ⟨ho, hi'⟩ := drop_get hi
  rw [List.length_cons, List.range'_succ, wpOpsIn_cons]
  unfold wpOpIn
  rw [ho]
  have hrun : runOp S.C.T S.C.meth noCall ops o env H = some (v, H', itemOf S.C.T o.op env.eval v H H') := by unfold runOp; simp only [hg, hc, hv]
  have hl := vop_len hv
  refine op_any S.ok noCall_ok hrun h4 (fun x _ => rel_eval h5 x) (fun _ _ d _ _ => rel_slot h5 d) (fun x w1 ι1 e1 s1 r1 => ?_)
  have e2 := Inj.ex_le e1 h3
  exact h (i + 1) hi' ro n _ w1 ι1 QQ (h2.go (e2.go (Nat.le_refl _))) (by omega) s1 (rel_put (RelL.mono (h4.le e1) _ _ h5) _ r1) fun a' w' ι2 env2 H2 d1 d2 d3 d4 d5 d6 => hQ a' w' ι2 env2 H2 (d1.trans (put_defers _ _ _)) (Inj.ex_trans e2 d2 (Nat.le_refl _)) d3 d4 d5 d6

/-- one that is passed over -/
theorem L_off {env' : VEnv} (hg : vwanted ops env o.guard = some false) (he : env.put o.dst .skip = env') (h : WL S H0 ops l env' H K) : WL S H0 ops (o :: l) env H K := by
  subst he
  intro i hi ro n a w ι QQ h2 h3 h4 h5 hQ
  obtain ⟨ho, hi'⟩ := drop_get hi
  rw [List.length_cons, List.range'_succ, wpOpsIn_cons]
  unfold wpOpIn
  rw [ho]
  have hrun : runOp S.C.T S.C.meth noCall ops o env H = some (.skip, H, .calm) := by unfold runOp; simp only [hg]
  refine op_any S.ok noCall_ok hrun h4 (fun x _ => rel_eval h5 x) (fun _ _ d _ _ => rel_slot h5 d) (fun x w1 ι1 e1 s1 r1 => ?_)
  have e2 := Inj.ex_le e1 h3
  exact h (i + 1) hi' ro n _ w1 ι1 QQ (h2.go (e2.go (Nat.le_refl _))) h3 s1 (rel_put (RelL.mono (h4.le e1) _ _ h5) _ r1) fun a' w' ι2 env2 H2 d1 d2 d3 d4 d5 d6 => hQ a' w' ι2 env2 H2 (d1.trans (put_defers _ _ _)) (Inj.ex_trans e2 d2 (Nat.le_refl _)) d3 d4 d5 d6

/-- a call of a function value -/
theorem L_callV {f : VVal} {args : List VVal} {R : VVal → VHeap → Prop} (hg : vwanted ops env o.guard = some true) (hc : calleeOf S.C.meth env.eval o.op = some (f, args)) (hu : f.isUndef = false)
    (hF : Fv S f args H R) (h : ∀ v G, R v G → WL S H0 ops l (env.put o.dst v) G K) : WL S H0 ops (o :: l) env H K := by
  intro i hi ro n a w ι QQ h2 h3 h4 h5 hQ
  obtain ⟨ho, hi'⟩ := drop_get hi
  rw [List.length_cons, List.range'_succ, wpOpsIn_cons]
  unfold wpOpIn
  rw [ho]
  refine op_call hg hc (VVal.ne_undef hu) hF h4 (fun x _ => rel_eval h5 x) (fun _ _ d _ _ => rel_slot h5 d) (fun x w1 ι1 v G e1 hl s1 r1 hR => ?_)
  have e2 := Inj.ex_le e1 h3
  exact h v G hR (i + 1) hi' ro n _ w1 ι1 QQ (h2.go (e2.go (Nat.le_refl _))) (by omega) s1 (rel_put (RelL.mono (h4.le e1) _ _ h5) _ r1) fun a' w' ι2 env2 H2 d1 d2 d3 d4 d5 d6 => hQ a' w' ι2 env2 H2 (d1.trans (put_defers _ _ _)) (Inj.ex_trans e2 d2 (Nat.le_refl _)) d3 d4 d5 d6

theorem L_call {f : FuncId} {first cap args : List VVal} {all : List VVal} {R : VVal → VHeap → Prop} (hg : vwanted ops env o.guard = some true) (hc : calleeOf S.C.meth env.eval o.op = some (.func f first cap, args)) (ha : first ++ args ++ cap = all)
    (hF : F S f all H R) (h : ∀ v G, R v G → WL S H0 ops l (env.put o.dst v) G K) : WL S H0 ops (o :: l) env H K :=
  L_callV hg hc rfl (Fv_fn (ha ▸ hF)) h

theorem L_env {env' : VEnv} (he : env = env') (h : WL S H0 ops l env' H K) : WL S H0 ops l env H K := he ▸ h
theorem L_heap {H' : VHeap} (he : H = H') (h : WL S H0 ops l env H' K) : WL S H0 ops l env H K := he ▸ h

theorem set_bool {env : VEnv} {d : Nat} {t : Bool} (hs : env.getD d .skip = .bool t) : env.set d (.bool t) = env := by
  rw [List.getD_eq_getElem?_getD] at hs
  cases he : env[d]? with
  | none => rw [he] at hs; simp at hs
  | some u => rw [he] at hs; simp only [Option.getD_some] at hs; subst hs; exact set_same he

/-- a truth value is parted -/
theorem L_split {env1 env2 : VEnv} (d : Nat) {t : Bool} (hs : env.getD d .skip = .bool t) (e1 : env.set d (.bool true) = env1) (e2 : env.set d (.bool false) = env2)
    (h1 : t = true → WL S H0 ops l env1 H K) (h2 : t = false → WL S H0 ops l env2 H K) : WL S H0 ops l env H K := by
  have := set_bool hs
  cases t with
  | true => rw [this] at e1; subst e1; exact h1 rfl
  | false => rw [this] at e2; subst e2; exact h2 rfl

/-! ### Regions that draw their order -/
/-- what is kept of a step: its kind, or all of it -/
inductive Tr where
  | k (c : Cls)
  | it (x : Item')

def kindOf : Item' → Cls
  | .calm => .calm
  | .look .. => .look
  | .grow _ => .grow
  | .turn .. => .turn

def Tr.kind : Tr → Cls
  | .k c => c
  | .it x => kindOf x

def Tr.ok : Tr → Item' → Prop
  | .k c, x => kindOf x = c
  | .it y, x => x = y

def need2 : Tr → Tr → Option (List Prop)
  | .it a, .it b => some [fine a b]
  | _, _ => none

/-- of two steps that Go may take either way round: what must hold; none: that is not to be had -/
def need1 (x y : Tr) : Option (List Prop) :=
  match x.kind, y.kind with
  | .calm, _ | _, .calm | .look, .look | .look, .grow | .grow, .look | .grow, .grow => some []
  | _, _ => need2 x y

def needs (bef : Array Nat) (i : Nat) (x : Tr) : List (Nat × Tr) → Option (List Prop)
  | [] => some []
  | (j, y) :: rest => if (bef.getD j 0).testBit i then needs bef i x rest else
    match need1 x y, needs bef i x rest with
    | some a, some b => some (a ++ b)
    | _, _ => none

def need (bef : Array Nat) : List (Nat × Tr) → Option (List Prop)
  | [] => some []
  | (i, x) :: rest => match needs bef i x rest, need bef rest with
    | some a, some b => some (a ++ b)
    | _, _ => none

def AllT : List Prop → Prop
  | [] => True
  | p :: ps => p ∧ AllT ps

theorem AllT.app {a b : List Prop} (h : AllT (a ++ b)) : AllT a ∧ AllT b := by
  induction a with
  | nil => exact ⟨trivial, h⟩
  | cons p a ih => exact ⟨⟨h.1, (ih h.2).1⟩, (ih h.2).2⟩

inductive Match2 : List (Nat × Tr) → List (Nat × Item') → Prop where
  | nil : Match2 [] []
  | cons {p : Nat × Tr} {q : Nat × Item'} {l : List (Nat × Tr)} {m : List (Nat × Item')} (h : p.1 = q.1 ∧ p.2.ok q.2) (t : Match2 l m) : Match2 (p :: l) (q :: m)

theorem Tr.kind_ok {x : Tr} {a : Item'} (h : x.ok a) : x.kind = kindOf a := by
  cases x with
  | k c => exact h.symm
  | it y => have : a = y := h; subst this; rfl

theorem need1_fine {x y : Tr} {a b : Item'} (hx : x.ok a) (hy : y.ok b) {ps : List Prop} (h : need1 x y = some ps) (hp : AllT ps) : fine a b := by
  unfold need1 at h
  rw [Tr.kind_ok hx, Tr.kind_ok hy] at h
  have last : need2 x y = some ps → fine a b := by
    intro h
    cases x <;> cases y <;> simp only [need2, Option.some.injEq, reduceCtorEq] at h
    have h1 : a = _ := hx
    have h2 : b = _ := hy
    subst h1 h2 h
    exact hp.1
  cases a <;> cases b <;> simp only [kindOf] at h <;> first | exact last h | simp [fine]

theorem needs_fine {bef : Array Nat} {i : Nat} {x : Tr} {a : Item'} (hx : x.ok a) : ∀ {l : List (Nat × Tr)} {m : List (Nat × Item')}, Match2 l m → ∀ {ps : List Prop}, needs bef i x l = some ps → AllT ps →
    ∀ y, y ∈ m → (bef.getD y.1 0).testBit i = false → fine a y.2
  | [], [], _, ps, _, _, y, hy, _ => by cases hy
  | (j, p) :: l, q :: m, h, ps, hn, hp, y, hy, hb => by
    obtain ⟨hpq, hrest⟩ : (j = q.1 ∧ p.ok q.2) ∧ Match2 l m := by cases h with | cons a b => exact ⟨a, b⟩
    unfold needs at hn
    split at hn
    · rename_i hbit
      rcases List.mem_cons.1 hy with rfl | hy
      · rw [hpq.1] at hbit; rw [hb] at hbit; cases hbit
      · exact needs_fine hx hrest hn hp y hy hb
    · split at hn
      · rename_i u v hu hv
        cases hn
        obtain ⟨h1, h2⟩ := AllT.app hp
        rcases List.mem_cons.1 hy with rfl | hy
        · exact need1_fine hx hpq.2 hu h1
        · exact needs_fine hx hrest hv h2 y hy hb
      · cases hn

theorem need_fine {bef : Array Nat} : ∀ {l : List (Nat × Tr)} {m : List (Nat × Item')}, Match2 l m → ∀ {ps : List Prop}, need bef l = some ps → AllT ps → fineAll bef m
  | [], [], _, ps, _, _ => trivial
  | (i, p) :: l, q :: m, h, ps, hn, hp => by
    obtain ⟨hpq, hrest⟩ : (i = q.1 ∧ p.ok q.2) ∧ Match2 l m := by cases h with | cons a b => exact ⟨a, b⟩
    unfold need at hn
    split at hn
    · rename_i u v hu hv
      cases hn
      obtain ⟨h1, h2⟩ := AllT.app hp
      exact ⟨fun y hy hb => needs_fine hpq.2 hrest hu h1 y hy (by rw [hpq.1]; exact hb), need_fine hrest hv h2⟩
    · cases hn

theorem match2_app {l : List (Nat × Tr)} {m : List (Nat × Item')} (h : Match2 l m) {x : Nat × Tr} {y : Nat × Item'} (hxy : x.1 = y.1 ∧ x.2.ok y.2) : Match2 (l ++ [x]) (m ++ [y]) := by
  induction h with
  | nil => exact .cons hxy .nil
  | cons a b ih => exact .cons a ih

def WO (S : Sys) (ops : Array Oper) (bef : Array Nat) (l : List Nat) (env : VEnv) (H : VHeap) (tk : List (Nat × Tr)) (Q : VEnv → VHeap → Prop) : Prop :=
  ∃ call : Nat → Caller, (∀ i, CallSound S.P S.w0 (call i)) ∧ ∀ tr, Match2 tk tr → ∃ env' H' tr', runOps S.C.T S.C.meth call ops l env H tr = some (env', H', tr') ∧ fineAll bef tr' ∧ Q env' H'

theorem B_draw {id : Nat} (order : List Nat) (bef : Array Nat) (hd : drawOk S.C.T ops = true) (ho : canon S.C.T ops = order) (hb : Region.before ops = bef)
    (h : WO S ops bef order env H [] fun env H => Q .normal env H) : B S H0 rd (.region id ops true) env H Q := by
  subst ho hb
  obtain ⟨call, hcall, h⟩ := h
  obtain ⟨env', H', tr', h1, h2, h3⟩ := h [] .nil
  intro ro n D0 a w ι g1 g2 g3 g4 g5 g6
  have hl := runOps_len (T := S.C.T) (meth := S.C.meth) (fun i => (hcall i).len) ops _ _ _ _ _ _ _ h1
  refine region_draw S.ok hcall h1 hd h2 g4 g5 (fun a' w' ι' d1 d2 d3 d4 => ?_)
  exact ⟨ι', env', H', d2.go g3, by omega, d3, d4, by rw [d1]; exact g6.df d2.2.2, h3⟩

variable {bef : Array Nat} {tk tk' : List (Nat × Tr)} {i : Nat} {li : List Nat}

theorem O_nil (ps : List Prop) (hn : need bef tk = some ps) (hp : AllT ps) (h : K env H) : WO S ops bef [] env H tk K :=
  ⟨fun _ => noCall, fun _ => noCall_ok, fun tr htr => ⟨env, H, tr, rfl, need_fine htr hn hp, h⟩⟩

theorem runOps_call {T : TypeId → Option VTy} {meth : TypeId → String → Option FuncId} {call call' : Nat → Caller} {ops : Array Oper} : ∀ {l : List Nat} {env : VEnv} {H : VHeap} {tr : List (Nat × Item')}, (∀ i, i ∈ l → call i = call' i) → runOps T meth call ops l env H tr = runOps T meth call' ops l env H tr
  | [], _, _, _, _ => rfl
  | i :: l, env, H, tr, h => by
    simp only [runOps]
    rw [h i (List.mem_cons_self ..)]
    cases ops[i]? with
    | none => rfl
    | some o =>
      simp only
      cases runOp T meth (call' i) ops o env H with
      | none => rfl
      | some r =>
        obtain ⟨v, H', it⟩ := r
        simp only
        exact runOps_call fun j hj => h j (List.mem_cons_of_mem _ hj)

theorem O_step (t : Tr) {v : VVal} {H' : VHeap} {it : Item'} (ho : ops[i]? = some o) (hrun : runOp S.C.T S.C.meth noCall ops o env H = some (v, H', it)) (hcal : ∀ c, runOp S.C.T S.C.meth c ops o env H = runOp S.C.T S.C.meth noCall ops o env H) (ht : t.ok it)
    (h : WO S ops bef li (env.put o.dst v) H' (tk ++ [(i, t)]) K) : WO S ops bef (i :: li) env H tk K := by
  obtain ⟨call, hc, h⟩ := h
  refine ⟨call, hc, fun tr htr => ?_⟩
  obtain ⟨env', H2, tr', h3, h4⟩ := h (tr ++ [(i, it)]) (match2_app htr ⟨rfl, ht⟩)
  refine ⟨env', H2, tr', ?_, h4⟩
  simp only [runOps, ho, hcal, hrun]
  exact h3

theorem kind_item {T : TypeId → Option VTy} {op : Op} {ρ : Operand → VVal} {v : VVal} {H H' : VHeap} : kindOf (itemOf T op ρ v H H') = clsOf T op := by
  unfold itemOf; cases clsOf T op <;> rfl

/-- an operation, its kind kept -/
theorem O_op {env' : VEnv} {H' : VHeap} {c : Cls} {v : VVal} (ho : ops[i]? = some o) (hg : vwanted ops env o.guard = some true) (hc : calleeOf S.C.meth env.eval o.op = none)
    (hv : vop S.C.T env.eval H o.op = some (v, H')) (hk : clsOf S.C.T o.op = c) (he : env.put o.dst v = env') (ht : tk ++ [(i, .k c)] = tk') (h : WO S ops bef li env' H' tk' K) : WO S ops bef (i :: li) env H tk K :=
  O_step (.k c) (v := v) (H' := H') (it := itemOf S.C.T o.op env.eval v H H') ho (by unfold runOp; simp only [hg, hc, hv]) (fun c => by unfold runOp; simp only [hg, hc, hv]) (by show kindOf _ = c; rw [kind_item, hk]) (by subst he ht; exact h)

/-- an operation, all of it kept -/
theorem O_opI {env' : VEnv} {H' : VHeap} {v : VVal} {x : Item'} (ho : ops[i]? = some o) (hg : vwanted ops env o.guard = some true) (hc : calleeOf S.C.meth env.eval o.op = none)
    (hv : vop S.C.T env.eval H o.op = some (v, H')) (hx : itemOf S.C.T o.op env.eval v H H' = x) (he : env.put o.dst v = env') (ht : tk ++ [(i, .it x)] = tk') (h : WO S ops bef li env' H' tk' K) : WO S ops bef (i :: li) env H tk K :=
  O_step (.it x) (v := v) (H' := H') (it := itemOf S.C.T o.op env.eval v H H') ho (by unfold runOp; simp only [hg, hc, hv]) (fun c => by unfold runOp; simp only [hg, hc, hv]) (by show _ = x; exact hx) (by subst he ht; exact h)

theorem O_off {env' : VEnv} (ho : ops[i]? = some o) (hg : vwanted ops env o.guard = some false) (he : env.put o.dst .skip = env') (ht : tk ++ [(i, .k .calm)] = tk')
    (h : WO S ops bef li env' H tk' K) : WO S ops bef (i :: li) env H tk K :=
  O_step (.k .calm) (v := .skip) (H' := H) (it := .calm) ho (by unfold runOp; simp only [hg]) (fun c => by unfold runOp; simp only [hg]) rfl (by subst he ht; exact h)

open Classical in
noncomputable def oneCall (f0 : VVal) (args0 : List VVal) (H0 : VHeap) (v : VVal) (G : VHeap) : Caller := fun f args H => if f = f0 ∧ args = args0 ∧ H = H0 then some (v, G) else none

theorem oneCall_ok {f0 : VVal} {args0 : List VVal} {H0 : VHeap} {v : VVal} {G : VHeap} (hl : H0.length ≤ G.length) (hne : f0 ≠ .undef) (h : Fv S f0 args0 H0 fun v' G' => v' = v ∧ G' = G) : CallSound S.P S.w0 (oneCall f0 args0 H0 v G) := by
  refine ⟨?_, ?_, ?_⟩
  · intro f args H v' H' hc
    unfold oneCall at hc
    split at hc
    · rename_i e; obtain ⟨_, _, rfl⟩ := e; cases hc; exact hl
    · cases hc
  · intro args H
    unfold oneCall
    rw [if_neg]
    rintro ⟨e, _⟩; exact hne e.symm
  · intro fv args H v' H' hc ro n w ι fv' args' o a K Q s rf ra hK
    unfold oneCall at hc
    split at hc
    · rename_i e
      obtain ⟨rfl, rfl, rfl⟩ := e
      cases hc
      exact h ro n w ι fv' args' o a K Q s rf ra (fun x w' ι' v G e1 _ e3 e4 e5 => by obtain ⟨rfl, rfl⟩ := e5; exact hK x w' ι' e1 e3 e4)
    · cases hc

/-- a call (what it comes to is known outright) -/
theorem O_call {f : FuncId} {first cap args all : List VVal} {v : VVal} {G : VHeap} {env' : VEnv} (ho : ops[i]? = some o) (hg : vwanted ops env o.guard = some true) (hc : calleeOf S.C.meth env.eval o.op = some (.func f first cap, args)) (ha : first ++ args ++ cap = all)
    (hi : li.contains i = false) (hF : F S f all H fun v' G' => v' = v ∧ G' = G) (hl : H.length ≤ G.length) (he : env.put o.dst v = env') (ht : tk ++ [(i, .it (.turn H G))] = tk') (h : WO S ops bef li env' G tk' K) : WO S ops bef (i :: li) env H tk K := by
  subst ha he ht
  obtain ⟨call, hcs, h⟩ := h
  refine ⟨fun j => if j = i then oneCall (.func f first cap) args H v G else call j, fun j => ?_, fun tr htr => ?_⟩
  · by_cases hj : j = i
    · simp only [hj, if_true]
      exact oneCall_ok hl (by simp) (Fv_fn hF)
    · simp only [hj, if_false]; exact hcs j
  · obtain ⟨env', H2, tr', h3, h4⟩ := h (tr ++ [(i, .turn H G)]) (match2_app (x := (i, Tr.it (.turn H G))) (y := (i, Item'.turn H G)) htr ⟨rfl, rfl⟩)
    refine ⟨env', H2, tr', ?_, h4⟩
    have hrun : runOp S.C.T S.C.meth (oneCall (.func f first cap) args H v G) ops o env H = some (v, G, .turn H G) := by
      unfold runOp; simp only [hg, hc]
      unfold oneCall
      simp
    simp only [runOps, ho, if_true, hrun]
    rw [← h3]
    refine runOps_call fun j hj => ?_
    have hji : j ≠ i := by
      rintro rfl
      have : li.contains j = true := by simpa using hj
      rw [hi] at this; cases this
    simp only [hji, if_false]

theorem O_split {env1 env2 : VEnv} (d : Nat) {t : Bool} (hs : env.getD d .skip = .bool t) (e1 : env.set d (.bool true) = env1) (e2 : env.set d (.bool false) = env2)
    (h1 : t = true → WO S ops bef li env1 H tk K) (h2 : t = false → WO S ops bef li env2 H tk K) : WO S ops bef li env H tk K := by
  have := set_bool hs
  cases t with
  | true => rw [this] at e1; subst e1; exact h1 rfl
  | false => rw [this] at e2; subst e2; exact h2 rfl

/-! ### Rounds of ranges over functions -/
/-- how a round ends -/
def roundK (l : Nat) (R : VVal → VHeap → Prop) : Post := fun ex _ H2 => ∃ j, jumpOf ex = some j ∧ ∃ st p fn tmps ps as body, H2[l]? = some (.loop st p fn tmps ps as body) ∧
  R (.bool j.isNone) (H2.set l (.loop (if j.isNone then .ready else .done) j fn tmps ps as body))

/-- behind the assignments to the loop's variables -/
def asgK (S : Sys) (H : VHeap) (l : Nat) (body : Code) (Q : Post) : Post := fun ex env H1 => ex = .normal ∧ ∃ p fn' tmps ps as body', H1[l]? = some (.loop .ready p fn' tmps ps as body') ∧
  B S H (some l) body env (H1.set l (.loop .busy p fn' tmps ps as body')) Q

theorem Fv_yield {lp : Nat} {args : List VVal} {R : VVal → VHeap → Prop} {p : Option Code} {fn : FuncId} {tmps : List VVal} {ps : List Nat} {as body : Code} (hH : H[lp]? = some (.loop .ready p fn tmps ps as body)) (hl : args.length = ps.length)
    (env : VEnv) (he : setParams tmps ps args = env) (h : B S H (some lp) as env H (asgK S H lp body (roundK lp R))) : Fv S (.yield lp) args H R := by
  subst he
  intro ro n w ι fv' args' o a K Q s rf ra hK
  simp only [Rel] at rf
  obtain ⟨e, he, rfl⟩ := rf
  obtain ⟨L, hL, hst, hpe, htm, hps, has, hbody, _⟩ := s.loop he hH
  have hlt : lp < H.length := s.dom lp e he
  have hsz : args'.size = L.params.size := by
    have h1 := ra.length
    have h2 : L.params.toList.length = ps.length := by rw [hps]
    simp at h1 h2; omega
  have e2 : ((do let d ← Deferred.ofValue (.func (.yield e.r) #[] #[]) args'; invoke d.target d.args : Sem Next)).run S.P w = .ok (.round e.r L.fn ((L.params.zip args').foldl (fun tmps (t, a) => tmps.setIfInBounds t a) L.tmps) L.assign L.body) w := by
    simp only [Deferred.ofValue, Sem.run_bind, Sem.run_pure, Result.andThen_ok, invoke]
    rw [Array.empty_append]
    exact run_yield hL hsz
  rw [e2, Oper.uponIn_round]
  refine ⟨fun h => by simp [Fence.wide] at h, ?_⟩
  have hrp : RelL ι (setParams tmps ps args) ((L.params.zip args').foldl (fun tmps (t, a) => tmps.setIfInBounds t a) L.tmps).toList := by
    rw [fold_params, hps]; exact setParams_rel htm ra
  have hb0 := Base.self s
  have hw1 := h (some e.r) (n - 1) ι.df ⟨(L.params.zip args').foldl (fun tmps (t, a) => tmps.setIfInBounds t a) L.tmps, []⟩ w ι ⟨hlt, e, he, rfl⟩ hb0 (Nat.le_refl _) s hrp ⟨rfl, rfl⟩
  rw [← has] at hw1
  refine roundIn_of_wpIn (F := WF ro) (n := n - 1) trivial (wpIn_mono (F := WF (some e.r)) hw1 ?_)
  rintro ex a1 w1 ⟨ι1, env1, H1, hgo1, hl1, s1, r1, ⟨hd1, hdf1⟩, rfl, p', fn', tmps', ps', as', body', hH1, hB⟩
  simp only [Exit.then]
  have he1 : ι1 lp = some e := (hgo1.1 lp hlt).trans he
  obtain ⟨L1, hL1, hst1, hpe1, htm1, hps1, has1, hbody1, hput1⟩ := s1.loop he1 hH1
  refine ⟨_, run_beginRound hL1 hst1, ?_⟩
  have s1' := hput1 .busy p'
  have heq : ({ L1 with state := .busy, pending := p' } : Loop) = { L1 with state := .busy } := by rw [← hpe1]
  rw [heq] at s1'
  have hw2 := hB (some e.r) (n - 1) ι.df a1 (w1.putObj e.r (.loop { L1 with state := .busy })) ι1 ⟨hlt, e, he1, rfl⟩ (hb0.go hgo1) (by rw [List.length_set]; exact hl1) s1' r1 ⟨hd1, hdf1⟩
  rw [← hbody] at hw2
  refine wpIn_mono hw2 ?_
  rintro ex2 a2 w2 ⟨ι2, env2, H2, hgo2, hl2, s2, r2, ⟨hd2, hdf2⟩, j, hj, st2, p2, fn2, tmps2, ps2, as2, body2, hH2, hR⟩
  have fin : ∃ v w3, (Instr.endRound e.r j).run S.P w2 = .ok v w3 ∧ K (a.put o.dst v) w3 := by
    have he2 : ι2 lp = some e := (hgo2.1 lp hlt).trans he1
    obtain ⟨L2, hL2, hst2, hpe2, htm2, hps2, has2, hbody2, hput2⟩ := s2.loop he2 hH2
    refine ⟨_, _, run_endRound j hL2, ?_⟩
    have s3 := hput2 (if j.isNone then .ready else .done) j
    have hgo12 := Inj.go_trans hgo1 hgo2
    exact hK _ _ ι2 _ _ ⟨hgo12.1, hgo12.2, hdf2⟩ (by rw [List.length_set]; exact hl2) s3 (by simp [Rel]) hR
  obtain ⟨v3, w4, h1, h2⟩ := fin
  rcases jump_inv hj with ⟨rfl, rfl⟩ | ⟨rfl, rfl⟩ | ⟨id, rfl, rfl⟩
  · exact ⟨v3, w4, h1, h2⟩
  · exact ⟨v3, w4, h1, h2⟩
  · exact ⟨v3, w4, h1, h2⟩

theorem Fv.gh {f : VVal} {args : List VVal} {R R' : VVal → VHeap → Prop} (h : Fv S f args H R) (hr : ∀ v G, R v G → ∃ v' G', Gh S H [v] G [v'] G' ∧ R' v' G') : Fv S f args H R' := by
  intro ro n w ι fv' args' o a K Q s rf ra hK
  refine h ro n w ι fv' args' o a K Q s rf ra (fun x w' ι' v G h1 h2 h3 h4 h5 => ?_)
  obtain ⟨v', G', g, hR⟩ := hr v G h5
  obtain ⟨g1, g2⟩ := g h2
  obtain ⟨ι2, i1, i2, i3⟩ := g2 w' ι' [x] ((Base.self s).go (h1.go (Nat.le_refl _))) h3 (.one h4)
  simp only [RelL] at i3
  obtain ⟨y, ys, e1, e2, _⟩ := i3
  cases e1
  exact hK x w' ι2 v' G' (Inj.ex_trans h1 i1 (Nat.le_refl _)) g1 i2 e2 hR

/-! ### The statement 'for .. range g' -/
def jumpTo (p : Option Code) (env : VEnv) (H : VHeap) (Q : Post) : Prop := match p with
  | none => Q .normal env H
  | some .ret => Q .ret env H
  | some (.exit id) => Q (.exit id) env H
  | some _ => False

theorem heap_alloc_old (w : World) (o : Obj) {i : Nat} (hi : i < w.heap.size) : (w.alloc o).heap[i]? = w.heap[i]? := by
  show (w.heap.push o)[i]? = _
  rw [Array.getElem?_push, if_neg (by omega)]

theorem Sim.defer {w0 w : World} {ι : Inj} (s : Sim w0 ι H w) : Sim w0 ⟨ι.m, ι.z, w.heap.size :: ι.df⟩ H (w.alloc (.deferred (some []))) := by
  refine ⟨s.below.alloc s.below.size _, ⟨fun r arr h => ?_, ?_, fun r h => ?_⟩, s.fo, s.dom, fun b e k h g => ?_, s.inj⟩
  · obtain ⟨t, fr, hr⟩ := s.frz.fz r arr h
    exact ⟨t, fr, by rw [heap_alloc_old w _ (s.frz.lt (.inl ⟨arr, h⟩))]; exact hr⟩
  · rw [List.nodup_cons]
    exact ⟨fun h => by have := s.frz.lt (.inr h); omega, s.frz.dn⟩
  · rcases List.mem_cons.1 h with rfl | h
    · exact ⟨World.alloc_heap_new w _, s.below.size⟩
    · obtain ⟨a, b⟩ := s.frz.dd r h
      exact ⟨by rw [heap_alloc_old w _ (s.frz.lt (.inr h))]; exact a, b⟩
  · have rb := s.blk b e k h g
    have key : BRel w0 ι (w.alloc (.deferred (some []))) e k := by
      by_cases hd : k = .dead
      · subst hd; trivial
      · exact BRel.frame (heap_alloc_old w _ (rb.lt hd)) rb
    exact key.mono (ι.le_df _)

theorem sound_range {g : Operand} {ps : Array Tmp} {as body : Code} {ro : Option Nat} {n : Nat} {a : Act} {w : World} {ι : Inj} {D0 : List Nat} {f0 : FuncId} {first cap : List VVal} {R : VVal → VHeap → Prop}
    (hl0 : H0.length ≤ H.length) (hs : Sim S.w0 ι H w) (hr : RelL ι env a.tmps.toList) (fn : FuncId)
    {mark : List Deferred} {w1 : World} {ι1 : Inj} {e : Ent}
    (henter : (Instr.enterLoop fn a.tmps ps as body ro).run S.P w = .ok (e.r, mark) w1) (hgo : Inj.go H.length ι ι1) (s1 : Sim S.w0 ι1 (H ++ [.loop .ready none 0 env ps.toList as body]) w1) (hel : ι1 H.length = some e) (hds : DsOk ι1 D0 rd (mark ++ a.defers))
    (hg : env.eval g = .func f0 first cap) (hF : F S f0 (first ++ [.yield H.length] ++ cap) (H ++ [.loop .ready none 0 env ps.toList as body]) R)
    (h : ∀ v H2, R v H2 → ∃ st p fn tmps ps' as' body', H2[H.length]? = some (.loop st p fn tmps ps' as' body') ∧ st ≠ .busy ∧ jumpTo p env (H2.set H.length (.loop .exhausted p fn tmps ps' as' body')) Q) :
    ∃ (l' : Nat) (mark : List Deferred) (w₁ : World) (d : Deferred) (w₁' : World) (f : FuncId) (args : Array Value) (w₂ : World),
      (Instr.enterLoop fn a.tmps ps as body ro).run S.P w = .ok (l', mark) w₁ ∧
      (resolve a.eval (rangeCall g l') 0).run S.P w₁ = .ok d w₁' ∧
      (∀ f', Target.leads S.P w₁' d.target d.args = some f' → (WF ro).fn f') ∧
      (invoke d.target d.args).run S.P w₁' = .ok (.enter f args) w₂ ∧
      ((WF ro).depth.isSome = true → 1 ≤ n) ∧
      CallsIn (WF ro) (n - 1) S.P f args w₂ (rangePost (WF ro) n S.P l' (BPost S H0 rd D0 ι Q) { a with defers := mark ++ a.defers }) := by
  have rg := rel_eval hr g
  rw [hg] at rg
  simp only [Rel] at rg
  obtain ⟨a1, c1, hgv, ra, rc⟩ := rg
  have hle : ι.le ι1 := ⟨fun b e hb => (hgo.1 b (hs.dom b e hb)).trans hb, hgo.2⟩
  have rall : RelL ι1 (first ++ [.yield H.length] ++ cap) (a1 ++ #[Value.func (.yield e.r) #[] #[]] ++ c1).toList := by
    rw [Array.toList_append, Array.toList_append]
    exact ((RelL.mono hle _ _ ra).append (.one (by simp only [Rel]; exact ⟨e, hel, rfl⟩))).append (RelL.mono hle _ _ rc)
  obtain ⟨e1, hc⟩ := hF (n - 1) w1 ι1 _ s1 rall
  refine ⟨e.r, mark, w1, { target := .fn (.func f0) c1, args := a1 ++ #[Value.func (.yield e.r) #[] #[]] }, w1, f0, a1 ++ #[Value.func (.yield e.r) #[] #[]] ++ c1, w1, henter, ?_, fun _ _ => trivial, ?_, fun h => by simp [Fence.wide] at h, ?_⟩
  · simp only [resolve, hgv]
    simp [Deferred.ofValue, Act.eval]
  · simp only [invoke]; exact e1
  · refine CallsIn.mono (F := WF ro) hc ?_
    rintro e2 w2 ⟨x, v, H2, ι2, rfl, hex2, hl2, s2, _, hR⟩
    obtain ⟨st, p, fn2, tmps2, ps2, as2, body2, hH2, hst, hj⟩ := h v H2 hR
    have hlen : (H ++ [VBlk.loop .ready none 0 env ps.toList as body]).length = H.length + 1 := by simp
    rw [hlen] at hex2 hl2
    have he2 : ι2 H.length = some e := by rw [hex2.1 H.length (by omega)]; exact hel
    obtain ⟨L, hL, hLst, hLp, _, _, _, _, hput⟩ := s2.loop he2 hH2
    have hend := run_endLoop (P := S.P) hL (by rw [hLst]; exact hst)
    have s3 := hput .exhausted L.pending
    rw [hLp] at s3
    have hle2 : ι1.le ι2 := ⟨fun b e hb => by
      have := s1.dom b e hb
      rw [hlen] at this
      exact (hex2.1 b this).trans hb, hex2.2.1⟩
    have r3 : RelL ι2 env a.tmps.toList := RelL.mono hle2 _ _ (RelL.mono hle _ _ hr)
    have hgo3 : Inj.go H0.length ι ι2 := ⟨fun b hb => (hex2.1 b (by omega)).trans (hgo.1 b (by omega)), fun r a hh => hex2.2.1 _ _ (hgo.2 _ _ hh)⟩
    have heq : ({ L with state := .exhausted } : Loop) = { L with state := .exhausted, pending := p } := by rw [← hLp]
    rw [heq] at hend
    have hl3 : H0.length ≤ (H2.set H.length (.loop .exhausted p fn2 tmps2 ps2 as2 body2)).length := by rw [List.length_set]; omega
    unfold jumpTo at hj
    split at hj
    · rw [hLp] at hend
      exact ⟨none, _, hend, ι2, _, _, hgo3, hl3, s3, r3, hds.df hex2.2.2, hj⟩
    · rw [hLp] at hend
      exact ⟨some .ret, _, hend, wpIn_ret ⟨ι2, _, _, hgo3, hl3, s3, r3, hds.df hex2.2.2, hj⟩⟩
    · rename_i id
      rw [hLp] at hend
      exact ⟨some (.exit id), _, hend, wpIn_exit ⟨ι2, _, _, hgo3, hl3, s3, r3, hds.df hex2.2.2, hj⟩⟩
    · exact hj.elim

theorem B_range {g : Operand} {ps : Array Nat} {as body : Code} {f0 : FuncId} {first cap : List VVal} {R : VVal → VHeap → Prop} (hrd : ∀ l0, rd = some l0 → ∃ st p fn tmps ps as body, H[l0]? = some (.loop st p fn tmps ps as body)) (hg : env.eval g = .func f0 first cap)
    (hF : F S f0 (first ++ [.yield H.length] ++ cap) (H ++ [.loop .ready none 0 env ps.toList as body]) R)
    (h : ∀ v H2, R v H2 → ∃ st p fn tmps ps' as' body', H2[H.length]? = some (.loop st p fn tmps ps' as' body') ∧ st ≠ .busy ∧ jumpTo p env (H2.set H.length (.loop .exhausted p fn tmps ps' as' body')) Q) :
    B S H0 rd (.rangeFunc g ps as body) env H Q := by
  intro ro n D0 a w ι h1 h2 h3 hs hr hd
  refine wpIn_rangeFunc fun fn _ => ?_
  cases rd with
  | none =>
    cases ro with
    | some r => exact h1.elim
    | none =>
      have sd := hs.defer
      obtain ⟨L, hL⟩ : ∃ L : Loop, L = { state := .ready, pending := none, fn, tmps := a.tmps, params := ps, assign := as, body, defers := w.heap.size } := ⟨_, rfl⟩
      have hsz : (w.alloc (.deferred (some []))).heap.size = w.heap.size + 1 := World.size_alloc w _
      have hle0 : ι.le ⟨ι.m, ι.z, w.heap.size :: ι.df⟩ := ι.le_df _
      have hle1 : ι.le ((Inj.mk ι.m ι.z (w.heap.size :: ι.df)).ext H.length ⟨w.heap.size + 1, 0, none⟩) := ⟨fun b e hb => (by have := hs.dom b e hb; rw [Inj.ext_m, if_neg (by omega)]; exact hb), fun _ _ h => h⟩
      obtain ⟨s2, hle2⟩ := sd.new ⟨w.heap.size + 1, 0, none⟩ (.loop .ready none 0 env ps.toList as body) (w' := (w.alloc (.deferred (some []))).alloc (.loop L))
        (sd.below.alloc sd.below.size _) (fun i hi => heap_alloc_old _ _ hi) hsz.symm
        ⟨L, by rw [← hsz]; exact World.alloc_heap_new _ _, by have := hs.below.size; show S.w0.heap.size ≤ w.heap.size + 1; omega, by rw [hL], by rw [hL],
          by rw [hL]; exact RelL.mono hle1 _ _ hr, by rw [hL], by rw [hL], by rw [hL]⟩
      refine sound_range (ι1 := (Inj.mk ι.m ι.z (w.heap.size :: ι.df)).ext H.length ⟨w.heap.size + 1, 0, none⟩) (e := ⟨w.heap.size + 1, 0, none⟩) h3 hs hr fn (by rw [run_enterLoop_outer, ← hL]) ⟨fun b hb => (by rw [Inj.ext_m, if_neg (by omega)]), fun _ _ h => h⟩ s2 (by rw [Inj.ext_m, if_pos rfl]) ?_ hg hF h
      obtain ⟨rs, d1, d2⟩ := hd
      exact ⟨w.heap.size :: rs, by show w.heap.size :: ι.df = _; rw [d1]; rfl, by rw [d2]; rfl⟩
  | some l0 =>
    cases ro with
    | none => exact h1.elim
    | some r =>
      obtain ⟨hl0, e0, he0, rfl⟩ := h1
      obtain ⟨st0, p0, fn0, tmps0, ps0, as0, body0, hH0⟩ := hrd l0 rfl
      obtain ⟨L0, hL0, _⟩ := hs.loop he0 hH0
      obtain ⟨L, hL⟩ : ∃ L : Loop, L = { state := .ready, pending := none, fn, tmps := a.tmps, params := ps, assign := as, body, defers := L0.defers } := ⟨_, rfl⟩
      obtain ⟨s2, hle2⟩ := hs.new ⟨w.heap.size, 0, none⟩ (.loop .ready none 0 env ps.toList as body) (w' := w.alloc (.loop L))
        (hs.below.alloc hs.below.size _) (fun i hi => heap_alloc_old _ _ hi) rfl
        ⟨L, World.alloc_heap_new _ _, hs.below.size, by rw [hL], by rw [hL],
          by rw [hL]; exact RelL.mono (hs.le (ext_ex _ _ _)) _ _ hr, by rw [hL], by rw [hL], by rw [hL]⟩
      refine sound_range (ι1 := ι.ext H.length ⟨w.heap.size, 0, none⟩) (e := ⟨w.heap.size, 0, none⟩) (mark := []) h3 hs hr fn (by rw [run_enterLoop_inner hL0, ← hL]) ((ext_ex _ _ _).go (Nat.le_refl _)) s2 (by rw [Inj.ext_m, if_pos rfl]) hd hg hF h

end
end Go.V
