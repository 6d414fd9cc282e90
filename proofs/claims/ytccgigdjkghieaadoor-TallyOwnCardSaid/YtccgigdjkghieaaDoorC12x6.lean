/- Proved: Rows.TallyOwnCardSaid, the statement TallyOwn with its card, of the given program at the commit; no conditions beyond those in the statement. -/
import Derived.Test.YtccgigdjkghieaaDoorC12x5
import Derived.RangeFuncRecord
import Derived.RangeFuncNested
set_option autoImplicit false
set_option linter.unusedVariables false
set_option linter.unusedSimpArgs false
namespace Go.V
open Go Go.RowKit
abbrev WF (ro : Option Nat) : Fence := { Fence.wide with round := ro }
section
variable {P : Program} {w0 : World}
structure CfgOk (P : Program) (C : Cfg) (w0 : World) : Prop where
 mixed : P.follows .mixedOrders = true
 tys : TOk P C.T
 fns : ∀ f fn, C.fn f = some fn → P.funcs[f]? = some fn ∧ (fn.name == "runtime.NumGoroutine") = false
 meths : ∀ t name f, C.meth t name = some f → ∀ (v : Value) (args : Array Value) (w : World), (callMethod (.iface t v) name args).run P w = (callFunc f (#[v] ++ args)).run P w
theorem Zaj {f : FuncId} {fn : Func} {c : Code} (hf : P.funcs[f]? = some fn) (hn : (fn.name == "runtime.NumGoroutine") = false) (hb : fn.body = some c) (args : Array Value) (w : World) :
  (callFunc f args).run P w = .ok (.enter f args) w := by
 have hn' : ¬ fn.name = "runtime.NumGoroutine" := by simpa using hn
 simp [callFunc, Sem.run_bind, go_sem, hf, hb, hn']
structure CallSound (P : Program) (w0 : World) (call : YR) : Prop where
 len : ∀ f args H v H', call f args H = some (v, H') → H.length ≤ H'.length
 undef : ∀ args H, call .undef args H = none
 run : ∀ fv args H v H', call fv args H = some (v, H') → ∀ (ro : Option Nat) (n : Nat) (w : World) (ι : Inj) (fv' : Value) (args' : Array Value) (o : Oper) (a : Act) (K : Act → World → Prop) (Q : Exit → Act → World → Prop),
  Sim w0 ι H w → Rel ι fv fv' → RelL ι args args'.toList →
  (∀ x w' ι', Inj.ex H.length ι ι' → Sim w0 ι' H' w' → Rel ι' v x → K (a.put o.dst x) w') →
  o.uponIn (WF ro) n P a K Q ((do let d ← Deferred.ofValue fv' args'; invoke d.target d.args : Sem Next).run P w)
theorem XB {ι : Inj} {env : VEnv} {a : Act} (h : RelL ι env a.tmps.toList) (x : Operand) : Rel ι (env.eval x) (a.eval x) := by
 cases x with
 | tmp t =>
  have := h.getD t (Rel.skip ι)
  have e : a.eval (.tmp t) = a.tmps.toList.getD t undef := by
   simp [Act.eval, Array.getD_eq_getD_getElem?, List.getD_eq_getElem?_getD]
  rw [e]; exact this
 | const v => exact Rel.ofConst ι v
 | global g => exact Rel.undef ι _
 | func f => simp only [VEnv.eval, Act.eval, Rel]; exact ⟨#[], #[], rfl, .nil, .nil⟩
theorem QK {ι : Inj} {env : VEnv} {a : Act} (h : RelL ι env a.tmps.toList) (dst : Option Nat) {v : VVal} {x : Value} (hv : Rel ι v x) : RelL ι (env.put dst v) (a.put dst x).tmps.toList := by
 cases dst with
 | none => exact h
 | some d =>
  simp only [VEnv.put, Act.put]
  rw [Array.toList_setIfInBounds]
  exact h.set d hv
theorem rel_bool_inv {ι : Inj} {b : Bool} : ∀ {v : VVal}, Rel ι v (.bool b) → v = .undef ∨ v = .bool b
 | .undef, _ => .inl rfl
 | .bool _, r => by simp only [Rel, Value.bool.injEq] at r; exact .inr (by rw [r])
 | .int _ _, r | .str _, r | .fsl _ _ _ _, r | .fptr _ _, r | .ptr none, r | .ptr (some (_, _)), r | .slice none _ _ true _, r | .slice none _ _ false _, r | .slice (some (_, _)) _ _ _ _, r | .map none, r | .map (some _), r | .func _ _ _, r | .yield _, r | .nilFunc, r | .iface _ _, r | .nilIface, r | .agg _, r | .tuple _, r => by simp [Rel] at r
theorem QG {ι : Inj} {ops : Array Oper} {env : VEnv} {a : Act} {o : Oper} {b : Bool} (hb : Z7 ops env o.guard = some b)
  (h : ∀ j want d, o.guard = some (j, want) → (ops[j]?).bind (·.dst) = some d → Rel ι (env.getD d .skip) (a.tmps.getD d undef)) : Region.wanted o (yielded ops a.tmps) = b := by
 unfold Z7 at hb
 unfold Region.wanted
 cases hg : o.guard with
 | none => rw [hg] at hb; simpa using hb
 | some jw =>
  obtain ⟨j, want⟩ := jw
  rw [hg] at hb
  simp only at hb ⊢
  unfold yielded
  cases hd : (ops[j]?).bind (·.dst) with
  | none => rw [hd] at hb; simp at hb; subst hb; simp
  | some d =>
   rw [hd] at hb
   simp only [Option.bind_some] at hb ⊢
   have r := h j want d hg hd
   have e : a.tmps[d]? = none ∨ a.tmps[d]? = some (a.tmps.getD d undef) := by
    rw [Array.getD_eq_getD_getElem?]
    cases a.tmps[d]? <;> simp
   split at hb
   ·rename_i b' he
    rw [he] at r
    simp only [Rel] at r
    rcases e with e | e
    ·rw [Array.getD_eq_getD_getElem?, e] at r; simp [undef] at r
    rw [e, r]; simpa using hb
   ·cases hb
   rename_i h1 h2
   simp only [Option.some.injEq] at hb
   subst hb
   rcases e with e | e
   ·rw [e]; simp
   rw [e]
   cases hx : a.tmps.getD d undef <;> simp
   rename_i bb
   rw [hx] at r
   rcases rel_bool_inv r with e | e
   ·exact absurd e h2
   exact absurd e (h1 _)
theorem Zak {T : TypeId → Option VTy} {ρ : Operand → VVal} {H H' : Ze} {o : Op} {v : VVal} (h : vop T ρ H o = some (v, H')) (c : Call) : o ≠ .defer c := by
 rintro rfl
 simp [vop] at h
theorem Sim.fill {w w' : World} {ι : Inj} {H : Ze} (s : Sim w0 ι H w) {b : Nat} {e : Ent} {k : VBlk} (hb : ι b = none) (hk : H[b]? = some k) (hB : Below w0.heap.size w0 w') (hold : ∀ i, i < w.heap.size → w'.heap[i]? = w.heap[i]?) (he : e.r = w.heap.size)
  (hr : BRel w0 (ι.ext b e) w' e k) : Sim w0 (ι.ext b e) H w' := by
 have hle : ι.le (ι.ext b e) := by
  refine ⟨fun c e' h => ?_, fun _ _ h => h⟩
  rw [Inj.ext_m]
  by_cases hc : c = b
  ·subst hc; rw [hb] at h; cases h
  rw [if_neg hc]; exact h
 have split : ∀ c ec, (ι.ext b e) c = some ec → (c = b ∧ ec = e) ∨ (c ≠ b ∧ ι c = some ec) := by
  intro c ec h
  rw [Inj.ext_m] at h
  by_cases hc : c = b
  ·rw [if_pos hc] at h; cases h; exact .inl ⟨hc, rfl⟩
  rw [if_neg hc] at h; exact .inr ⟨hc, h⟩
 refine ⟨hB, s.frz.new rfl rfl hold, ?_, ?_, ?_, ?_⟩
 ·intro r arr c ec kc hz h hg ho
  rw [Inj.ext_z] at hz
  have hlt := s.frz.lt (.inl ⟨arr, hz⟩)
  rcases split c ec h with ⟨rfl, rfl⟩ | ⟨_, h⟩
  ·omega
  exact s.fo r arr c ec kc hz h hg ho
 ·intro c ec h
  rcases split c ec h with ⟨rfl, rfl⟩ | ⟨_, h⟩
  ·exact (List.getElem?_eq_some_iff.1 hk).1
  exact s.dom c ec h
 ·intro c ec kc h hg
  rcases split c ec h with ⟨rfl, rfl⟩ | ⟨_, h⟩
  ·rw [hk] at hg; cases hg; exact hr
  have r := s.blk c ec kc h hg
  by_cases hd : kc = .dead
  ·subst hd; trivial
  exact (BRel.frame (hold _ (r.lt hd)) r).mono hle
 intro c c' e1 e2 k1 k2 h1 h2 g1 g2 o1 o2 hr'
 have lt : ∀ c ec kc, ι c = some ec → H[c]? = some kc → kc.owns = true → ec.r < w.heap.size := fun c ec kc hc hg ho =>
  (s.blk c ec kc hc hg).lt (fun hd => by subst hd; simp [VBlk.owns] at ho)
 rcases split c e1 h1 with ⟨rfl, rfl⟩ | ⟨n1, i1⟩ <;> rcases split c' e2 h2 with ⟨rfl, rfl⟩ | ⟨n2, i2⟩
 ·rfl
 ·have := lt _ _ _ i2 g2 o2; omega
 ·have := lt _ _ _ i1 g1 o1; omega
 exact s.inj c c' e1 e2 k1 k2 i1 i2 g1 g2 o1 o2 hr'
theorem op_any {C : Cfg} (hC : CfgOk P C w0) {call : YR} (hv : CallSound P w0 call) {ops : Array Oper} {o : Oper} {env : VEnv} {H H' : Ze} {v : VVal} {it : Item'}
  (h : YL C.T C.meth call ops o env H = some (v, H', it)) {ro : Option Nat} {n : Nat} {w : World} {ι : Inj} {a : Act} {K : Act → World → Prop} {Q : Exit → Act → World → Prop}
  (s : Sim w0 ι H w) (hρ : Ops ι env.eval a.eval o.op) (hg : ∀ j want d, o.guard = some (j, want) → (ops[j]?).bind (·.dst) = some d → Rel ι (env.getD d .skip) (a.tmps.getD d undef))
  (hK : ∀ x w' ι', Inj.ex H.length ι ι' → Sim w0 ι' H' w' → Rel ι' v x → K (a.put o.dst x) w') :
  if Region.wanted o (yielded ops a.tmps) = true then o.wpIn (WF ro) n P a w K Q else (∀ f, o.about P w a.eval = some f → (WF ro).fn f) ∧ K (a.put o.dst undef) w := by
 unfold YL at h
 split at h
 ·cases h
 ·rename_i hw
  rw [QG hw hg]
  simp only [Option.some.injEq, Prod.mk.injEq] at h
  obtain ⟨rfl, rfl, _⟩ := h
  rw [if_neg (by simp)]
  exact ⟨fun _ _ => trivial, hK _ _ _ (Inj.ex_refl _ _) s (Rel.skip ι)⟩
 rename_i hw
 rw [QG hw hg, if_pos rfl]
 refine ⟨fun _ _ => trivial, ?_⟩
 split at h
 ·rename_i f args hcal
  split at h
  ·rename_i v1 H1 hcall
   simp only [Option.some.injEq, Prod.mk.injEq] at h
   obtain ⟨rfl, rfl, _⟩ := h
   have hop : ∃ c, o.op = .call c := by
    cases ho : o.op <;> rw [ho] at hcal <;> simp [ZZ] at hcal
    exact ⟨_, rfl⟩
   obtain ⟨c, hop⟩ := hop
   rw [Oper.semAt_eq _ _ _ (by rw [hop]; intro c'; simp)]
   have hargs : RelL ι (c.args.toList.map env.eval) (c.args.map a.eval).toList := XX c.args fun x hx => hρ x (by rw [hop]; simp [Op.operands, Call.operands, hx])
   rw [hop] at hcal
   obtain ⟨callee, cargs, ats⟩ := c
   cases callee with
   | builtin b => simp [ZZ] at hcal
   | value g =>
    simp only [ZZ, Option.some.injEq, Prod.mk.injEq] at hcal
    obtain ⟨rfl, rfl⟩ := hcal
    have := hv.run _ _ _ _ _ hcall ro n w ι (a.eval g) (cargs.map a.eval) o a K Q s (hρ g (by rw [hop]; simp [Op.operands, Call.operands])) hargs hK
    simpa only [execOp, hop, resolve] using this
   | invoke x name =>
    simp only [ZZ] at hcal
    have rx := hρ x (by rw [hop]; simp [Op.operands, Call.operands])
    split at hcal
    ·rename_i t u hx
     rw [hx] at rx
     simp only [Rel] at rx
     obtain ⟨y, hy, ry⟩ := rx
     split at hcal
     ·rename_i f' hm
      simp only [Option.some.injEq, Prod.mk.injEq] at hcal
      obtain ⟨rfl, rfl⟩ := hcal
      have := hv.run _ _ _ _ _ hcall ro n w ι (.func (.func f') #[] #[]) (#[y] ++ cargs.map a.eval) o a K Q s (by simp only [Rel]; exact ⟨#[], #[], rfl, .nil, .nil⟩) (by simpa using RelL.cons ry (by simpa using hargs)) hK
      have e : ((do let d ← Deferred.ofValue (.func (.func f') #[] #[]) (#[y] ++ cargs.map a.eval); invoke d.target d.args : Sem Next)).run P w = (execOp a.eval o).run P w := by
       have h0 : (#[Value.iface t y] ++ cargs.map a.eval)[0]? = some (.iface t y) := by simp [Array.getElem?_append]
       have h1 : (#[Value.iface t y] ++ cargs.map a.eval).extract 1 (#[Value.iface t y] ++ cargs.map a.eval).size = cargs.map a.eval := by simp
       simp only [execOp, hop, resolve, Deferred.ofValue, Sem.run_bind, Sem.run_pure, Result.andThen_ok, invoke, hy, h0, h1]
       rw [hC.meths t name f' hm y (cargs.map a.eval) w]
       simp
      rw [e] at this
      exact this
     simp only [Option.some.injEq, Prod.mk.injEq] at hcal
     obtain ⟨rfl, rfl⟩ := hcal
     rw [hv.undef] at hcall; cases hcall
    simp only [Option.some.injEq, Prod.mk.injEq] at hcal
    obtain ⟨rfl, rfl⟩ := hcal
    rw [hv.undef] at hcall; cases hcall
  cases h
 split at h
 ·rename_i v1 H1 hop
  simp only [Option.some.injEq, Prod.mk.injEq] at h
  obtain ⟨rfl, rfl, _⟩ := h
  rw [Oper.semAt_eq _ _ _ (fun c => Zak hop c)]
  cases hc : Yh C.T o.op with
  | calm =>
   obtain ⟨rfl, _, hr⟩ := calm_run hC.tys hop hc hρ
   obtain ⟨x, hx, rx⟩ := hr w
   rw [hx]
   exact hK _ _ _ (Inj.ex_refl _ _) s rx
  | look =>
   obtain ⟨rfl, _, x, hx, rx⟩ := look_run hC.tys s hop hc hρ
   rw [hx]
   exact hK _ _ _ (Inj.ex_refl _ _) s rx
  | grow =>
   obtain ⟨k1, rfl, _, hr⟩ := Zci (ρ' := a.eval) hC.tys hop hc
   obtain ⟨x, obj, lim, hx, hh⟩ := hr ι w hρ
   rw [hx]
   have hle : ι.le (ι.ext H.length ⟨w.heap.size, 0, lim⟩) := s.le (Zag ι _ _)
   have hh := hh (ι.ext H.length ⟨w.heap.size, 0, lim⟩) hle (by simp [Inj.ext])
   refine hK _ _ _ (Zag ι _ _) ?_ hh.1
   refine (s.new ⟨w.heap.size, 0, lim⟩ k1 (s.below.alloc s.below.size _) (fun i hi => ?_) rfl ?_).1
   ·show (w.heap.push obj)[i]? = _
    rw [Array.getElem?_push, if_neg (by omega)]
   exact hh.2 w0 _ s.below.size (World.alloc_heap_new w obj)
  | turn =>
   have := turn_run hC.tys s hop hc hρ
   generalize (execOp a.eval o).run P w = r at this ⊢
   cases r with
   | halt => exact this.elim
   | ok nx w' =>
    cases nx <;> first | exact False.elim this | skip
    ·obtain ⟨ι', a1, b1, c1⟩ := this
     exact hK _ _ _ a1 b1 c1
    obtain ⟨rfl, ι', a1, b1⟩ := this
    exact hK _ _ _ a1 b1 (Rel.skip _)
 cases h
end
end Go.V
