/- Proved: Rows.TallyOwnCardSaid, the statement TallyOwn with its card, of the given program at the commit; no conditions beyond those in the statement. -/
import Derived.Test.YtccgigdjkghieaaDoorC12x2
import Derived.Laws.BytesArg
import Derived.MapKept
set_option autoImplicit false
set_option linter.unusedVariables false
set_option linter.unusedSimpArgs false
namespace Go.V
open Go Go.RowKit
section
variable {P : Program} {T : TypeId → Option VTy}
theorem Zn {α : Type} {l m : List α} {i : Nat} {x : α} (h : l[i]? = some x) : (l ++ m)[i]? = some x := by
 rw [List.getElem?_append_left (List.getElem?_eq_some_iff.1 h).1]; exact h
theorem ZcV (hT : TOk P T) {w0 w : World} {ι : Inj} {H : Ze} (s : Sim w0 ι H w) {t : TypeId} {a v : VVal} {a' : Value} (h : Y4 T H t a = some v) (ha : Rel ι a a') :
  (∃ x, (Instr.loadAt t a').run P w = .ok x w ∧ Rel ι v x) ∧ ∃ ad, a' = .pointer (some ad) ∧ (∃ x, (loadVar t ad).run P w = .ok x w ∧ Rel ι v x) := by
 unfold Y4 at h
 split at h
 ·rename_i p y hy
  obtain ⟨b, off⟩ := p
  have ht := hT t y hy
  simp only [Rel] at ha
  obtain ⟨e, he, rfl⟩ := ha
  have key : ∃ x, (loadVar t ⟨e.r, e.sh + off, none⟩).run P w = .ok x w ∧ Rel ι v x := by
   unfold QS at h
   split at h
   ·rename_i cs rw hg
    split at h
    ·rename_i hagg
     simp only [Option.map_eq_some_iff] at h
     obtain ⟨l, hl, rfl⟩ := h
     obtain ⟨xs, rl, _, hrun⟩ := s.loadCells (P := P) he hg hl
     refine ⟨.agg xs.toArray, ?_, by simp only [Rel]; exact ⟨_, rfl, by simpa using rl⟩⟩
     simp [loadVar, ht.run_agg, hagg, ht.run_size, hrun]
    rename_i hagg
    obtain ⟨x, hx, rx⟩ := s.cell he hg h
    exact ⟨x, by simp [loadVar, ht.run_agg, hagg, hx], rx⟩
   cases h
  obtain ⟨x, hx, rx⟩ := key
  exact ⟨⟨x, by simp [Instr.loadAt, Instr.sureAddr, hx], rx⟩, _, rfl, x, hx, rx⟩
 ·rename_i cs off y hy
  have ht := hT t y hy
  simp only [Rel] at ha
  obtain ⟨r, sh, arr, xs, rfl, h1, h2, h3⟩ := ha
  have key : ∃ x, (loadVar t ⟨r, sh + off, none⟩).run P w = .ok x w ∧ Rel ι v x := by
   split at h
   ·rename_i hagg
    simp only [Option.map_eq_some_iff] at h
    obtain ⟨l, hl, rfl⟩ := h
    obtain ⟨ys, rl, hyl, hc⟩ := Jq s h1 h2 h3 hl
    have hrun := run_loadCells_list (P := P) w _ ys (fun j v hj => (hc j v hj).2)
    rw [hyl] at hrun
    refine ⟨.agg ys.toArray, ?_, by simp only [Rel]; exact ⟨_, rfl, by simpa using rl⟩⟩
    simp [loadVar, ht.run_agg, hagg, ht.run_size, hrun]
   rename_i hagg
   obtain ⟨x, hx, rx⟩ := h2.get _ _ h
   obtain ⟨t', fr, ha, _⟩ := s.frz.fz r arr h1
   have hx' := h3 _ _ hx
   exact ⟨x, by simp [loadVar, ht.run_agg, hagg, World.cell?, ha, hx'], rx⟩
  obtain ⟨x, hx, rx⟩ := key
  exact ⟨⟨x, by simp [Instr.loadAt, Instr.sureAddr, hx], rx⟩, _, rfl, x, hx, rx⟩
 cases h
theorem Zal {H : Ze} {t : TypeId} {a v : VVal} (X : Ze) (h : Y4 T H t a = some v) : Y4 T (H ++ X) t a = some v := by
 unfold Y4 at h ⊢
 split at h
 ·rename_i p y hy
  show QS (H ++ X) (Zk y.desc) y.size p = some v
  unfold QS at h ⊢
  split at h
  ·rename_i cs rw hg
   rw [Zn hg]; exact h
  cases h
 ·exact h
 cases h
theorem vlen_run (hT : TOk P T) {w0 w : World} {ι : Inj} {H : Ze} (s : Sim w0 ι H w) {t u : TypeId} {x v : VVal} {x' : Value} (h : vlen T H t x = some v) (hx : Rel ι x x') :
  ∃ z, (Builtin.len_ #[t] u #[x']).run P w = .ok z w ∧ Rel ι v z := by
 unfold vlen at h
 split at h
 ·cases h
 rename_i y hy
 have ht := hT t y hy
 split at h
 ·rename_i hd
  have hu := ht.und; rw [hd] at hu
  simp only [Rel] at hx; subst hx; cases h
  exact ⟨_, by simp [Builtin.len_, run_underlying hu]; rfl, by simp only [Rel, goInt]⟩
 ·rename_i n e hd
  have hu := ht.und; rw [hd] at hu
  cases h
  exact ⟨_, by simp [Builtin.len_, run_underlying hu]; rfl, by simp only [Rel, goInt]⟩
 ·rename_i e hd
  have hu := ht.und; rw [hd] at hu
  split at h
  ·rename_i z hz
   split at h
   ·rename_i n e' hd'
    have hu' := (hT _ _ hz).und; rw [hd'] at hu'
    cases h
    exact ⟨_, by simp [Builtin.len_, run_underlying hu, run_underlying hu']; rfl, by simp only [Rel, goInt]⟩
   cases h
  cases h
 ·rename_i e a n c ex es hd
  have hu := ht.und; rw [hd] at hu
  cases h
  refine ⟨goInt n, ?_, by simp only [Rel, goInt]⟩
  cases a with
  | none =>
   simp only [Rel] at hx
   obtain ⟨rfl, rfl, hx⟩ := hx
   split at hx
   ·subst hx; simp [Builtin.len_, run_underlying hu]
   obtain ⟨a, c, rfl⟩ := hx; simp [Builtin.len_, run_underlying hu]
  | some p =>
   obtain ⟨b, off⟩ := p
   simp only [Rel] at hx
   obtain ⟨e, c', _, _, _, _, rfl⟩ := hx
   simp [Builtin.len_, run_underlying hu]
 ·rename_i e cs n es ex hd
  have hu := ht.und; rw [hd] at hu
  cases h
  refine ⟨goInt n, ?_, by simp only [Rel, goInt]⟩
  simp only [Rel] at hx
  obtain ⟨a, c, xs, rfl, _⟩ := hx
  simp [Builtin.len_, run_underlying hu]
 ·rename_i hd
  have hu := ht.und; rw [hd] at hu
  simp only [Rel] at hx; subst hx; cases h
  exact ⟨_, by simp [Builtin.len_, run_underlying hu]; rfl, by simp only [Rel, goInt]⟩
 ·rename_i r hd
  have hu := ht.und; rw [hd] at hu
  simp only [Rel] at hx
  obtain ⟨e, he, rfl⟩ := hx
  split at h
  ·rename_i es hg
   cases h
   obtain ⟨en, cl, hh, _, hm⟩ := s.blk r e _ he hg
   have hlen : es.length = en.size := by
    have : ∀ (a : List (VVal × VVal)) (b : List MapEntry), MRel ι a b → a.length = b.length := by
     intro a
     induction a with
     | nil => intro b hb; simp only [MRel] at hb; simp [hb]
     | cons x a ih => intro b hb; simp only [MRel] at hb; obtain ⟨y, ys, rfl, _, _, q⟩ := hb; simp [ih _ q]
    simpa using this _ _ hm
   exact ⟨_, by simp [Builtin.len_, run_underlying hu, getObj, Sem.run, hh]; rfl, by simp only [Rel, goInt]; rw [hlen]⟩
  cases h
 cases h
theorem Za4 {H : Ze} {t : TypeId} {x v : VVal} (X : Ze) (h : vlen T H t x = some v) : vlen T (H ++ X) t x = some v := by
 unfold vlen at h ⊢
 cases hy : T t with
 | none => rw [hy] at h; cases h
 | some y =>
  rw [hy] at h
  simp only at h ⊢
  split at h
  all_goals first
   | exact h
   | (split at h
      ·rename_i es hg; simp only [Zn hg]; exact h
      cases h)
   | cases h
theorem keyOk_cases {t : TypeId} {k : VVal} (h : ZcJ T t k = true) : (∃ y j n, T t = some y ∧ y.desc = .int j ∧ k = .int j n) ∨ (∃ y s, T t = some y ∧ y.desc = .string ∧ k = .str s) := by
 unfold ZcJ at h
 split at h
 ·rename_i y j n hy
  split at h
  ·rename_i i hd
   have : i = j := by simpa using h
   subst this
   exact .inl ⟨y, i, n, hy, hd, rfl⟩
  cases h
 ·rename_i y s hy
  split at h
  ·rename_i hd
   exact .inr ⟨y, s, hy, hd, rfl⟩
  cases h
 cases h
theorem Zap {b : Bool} {t : TypeId} {k' : Value} (w : World) (h : (∃ j n, P.underlying t = some (.int j) ∧ k' = .int j n) ∨ (∃ s, P.underlying t = some .string ∧ k' = .string s)) :
  (Instr.checkKey b 10000 t k').run P w = .ok () w := by
 have : ∀ n, (Instr.checkKey b (n + 1) t k').run P w = .ok () w := fun n => by
  unfold Instr.checkKey
  rcases h with ⟨j, m, hu, rfl⟩ | ⟨s, hu, rfl⟩ <;> simp [run_underlying hu]
 exact this 9999
theorem Q5 {ι : Inj} {d : TypeDesc} {k : VVal} {k' : Value} (hk : (∃ j n, d = .int j ∧ k = .int j n ∧ k' = .int j n) ∨ (∃ s, d = .string ∧ k = .str s ∧ k' = .string s)) :
  ∀ (es : List (VVal × VVal)) (en : List MapEntry) (i : Nat) (r : Option VVal), Zbt k es = some r → MRel ι es en →
   (r = none ∧ Instr.findNow d k' en i = some none) ∨ ∃ v j u, r = some v ∧ Instr.findNow d k' en i = some (some (i + j, u)) ∧ Rel ι v u ∧
    (∃ e, en[j]? = some e ∧ e.val = u ∧ Instr.sameBits 10000 e.key k' = true) ∧ ∀ v2 u2, Rel ι v2 u2 → MRel ι (ZaO k v2 es) (en.modify j fun e => { e with key := k', val := u2 })
 | [], en, i, r, h, hm => by
  simp only [MRel] at hm; subst hm
  simp only [Zbt, Option.some.injEq] at h; subst h
  exact .inl ⟨rfl, rfl⟩
 | (x, v) :: es, en, i, r, h, hm => by
  simp only [MRel] at hm
  obtain ⟨y, ys, rfl, rk, rv, rs⟩ := hm
  have key : ∀ b, ZaR k x = some b → Instr.sameNow d k' y.key = some b ∧ (b = true → y.key = k') := by
   intro b hb
   rcases hk with ⟨j, n, rfl, rfl, rfl⟩ | ⟨s, rfl, rfl, rfl⟩
   ·cases x <;> simp only [ZaR, reduceCtorEq] at hb
    simp only [Rel] at rk
    split at hb
    ·subst_vars; cases hb
     rw [rk]
     refine ⟨by simp [Instr.sameNow], fun hh => ?_⟩
     have := eq_of_beq hh; rw [this]
    cases hb
   cases x <;> simp only [ZaR, reduceCtorEq] at hb
   simp only [Rel] at rk
   cases hb
   rw [rk]
   refine ⟨by simp [Instr.sameNow], fun hh => ?_⟩
   rw [(Go.MapKept.bytes_beq _ _).1 hh]
  simp only [Zbt] at h
  cases hb : ZaR k x with
  | none => rw [hb] at h; cases h
  | some b =>
   obtain ⟨h1, h2⟩ := key b hb
   rw [hb] at h
   cases b with
   | true =>
    simp only [Option.some.injEq] at h; subst h
    refine .inr ⟨v, 0, y.val, rfl, by simp [Instr.findNow, h1], rv, ⟨y, by simp, rfl, ?_⟩, fun v2 u2 r2 => ?_⟩
    ·rw [h2 rfl]
     rcases hk with ⟨j, n, _, _, rfl⟩ | ⟨s, _, _, rfl⟩ <;> simp [Instr.sameBits, (Go.MapKept.bytes_beq _ _).2 rfl]
    simp only [ZaO, hb, if_true, List.modify_zero_cons, MRel]
    refine ⟨_, _, rfl, ?_, r2, rs⟩
    rcases hk with ⟨j, n, _, rfl, rfl⟩ | ⟨s, _, rfl, rfl⟩ <;> simp [Rel]
   | false =>
    simp only at h
    rcases Q5 hk es ys (i + 1) r h rs with ⟨rfl, q⟩ | ⟨v', j, u, rfl, q1, q2, ⟨e, q3, q4, q5⟩, q6⟩
    ·exact .inl ⟨rfl, by simp [Instr.findNow, h1, q]⟩
    refine .inr ⟨v', j + 1, u, rfl, ?_, q2, ⟨e, by simpa using q3, q4, q5⟩, fun v2 u2 r2 => ?_⟩
    ·simp only [Instr.findNow, h1, q1]; rw [show i + 1 + j = i + (j + 1) from by omega]
    simp only [ZaO, hb]
    rw [if_neg (by simp)]
    simp only [List.modify_succ_cons, MRel]
    exact ⟨_, _, rfl, rk, rv, q6 v2 u2 r2⟩
theorem key_rel {ι : Inj} {t : TypeId} {k : VVal} {k' : Value} (hT : TOk P T) (h : ZcJ T t k = true) (hk : Rel ι k k') :
  ∃ d, P.underlying t = some d ∧ ((∃ j n, d = .int j ∧ k = .int j n ∧ k' = .int j n) ∨ (∃ s, d = .string ∧ k = .str s ∧ k' = .string s)) := by
 rcases keyOk_cases h with ⟨y, j, n, hy, hd, rfl⟩ | ⟨y, s, hy, hd, rfl⟩
 ·have hu := (hT _ _ hy).und; rw [hd] at hu
  simp only [Rel] at hk
  exact ⟨_, hu, .inl ⟨j, n, rfl, rfl, hk⟩⟩
 have hu := (hT _ _ hy).und; rw [hd] at hu
 simp only [Rel] at hk
 exact ⟨_, hu, .inr ⟨s, rfl, rfl, hk⟩⟩
theorem zero_rel {t : TypeId} {z : VTy} (h : TyOk P t z) (ho : Zk z.desc = true ∨ z.zero.length = 1) (ι : Inj) :
  ∃ x, (∀ w : World, (zeroValue t).run P w = .ok x w) ∧ Rel ι (if Zk z.desc = true then VVal.agg z.zero else z.zero.headD .undef) x := by
 obtain ⟨i, x, _, _, _, _, _, _, hz, rz, hagg, hone⟩ := h.run_info
 refine ⟨x, hz, ?_⟩
 by_cases ha : Zk z.desc = true
 ·rw [if_pos ha]
  obtain ⟨cs, rfl⟩ := hagg ha
  simp only [Rel]; exact ⟨cs, rfl, rz ι⟩
 rw [if_neg ha]
 have hl := ho.resolve_left ha
 have hc := hone (by simpa using ha)
 have := rz ι
 rw [hc] at this
 match hzz : z.zero, hl with
 | [a], _ =>
  rw [hzz] at this
  obtain ⟨y, e, r⟩ := Jc this
  simp at e; subst e
  simpa using r
theorem vlookup_run (hT : TOk P T) {w0 w : World} {ι : Inj} {H : Ze} (s : Sim w0 ι H w) {t : TypeId} {x k v : VVal} {x' k' : Value} {ok : Bool} (h : XK T H t x k ok = some v) (hx : Rel ι x x') (hk : Rel ι k k') :
  ∃ z, (Instr.lookup t x' k' ok).run P w = .ok z w ∧ Rel ι v z := by
 unfold XK at h
 split at h
 ·rename_i y hy
  have ht := hT t y hy
  split at h
  ·rename_i kt et hd
   have hu := ht.und; rw [hd] at hu
   split at h
   ·rename_i ze hze
    simp only at h
    split at h
    ·rename_i hc
     obtain ⟨d, hkd, hkc⟩ := key_rel hT hc.1 hk
     have hck : ∀ b, (Instr.checkKey b 10000 kt k').run P w = .ok () w := fun b => Zap w (by
      rcases hkc with ⟨j, n, rfl, _, rfl⟩ | ⟨s, rfl, _, rfl⟩
      ·exact .inl ⟨j, n, hkd, rfl⟩
      exact .inr ⟨s, hkd, rfl⟩)
     obtain ⟨zv, hzv, rzv⟩ := zero_rel (hT _ _ hze) hc.2 ι
     have ansRel : ∀ (u : VVal) (u' : Value) (b : Bool), Rel ι u u' → Rel ι (if ok = true then VVal.tuple [u, .bool b] else u) (if ok = true then .tuple #[u', .bool b] else u') := by
      intro u u' b hu
      cases ok
      ·simpa using hu
      simp only [if_true, Rel]; exact ⟨_, rfl, .cons hu (.one (by simp [Rel]))⟩
     split at h
     ·cases h
      simp only [Rel] at hx; subst hx
      refine ⟨if ok = true then .tuple #[zv, .bool false] else zv, ?_, ansRel _ _ false rzv⟩
      simp [Instr.lookup, run_underlying hu, hck, Instr.findKey, run_underlying hkd, Instr.findNow, hzv]
     ·rename_i r
      simp only [Rel] at hx
      obtain ⟨e, he, rfl⟩ := hx
      split at h
      ·rename_i es hg
       simp only [Option.map_eq_some_iff] at h
       obtain ⟨q, hq, rfl⟩ := h
       obtain ⟨en, cl, hh, _, hm⟩ := s.blk r e _ he hg
       rcases Q5 hkc es en.toList 0 q hq hm with ⟨rfl, hf⟩ | ⟨u, j, u', rfl, hf, ru, _, _⟩
       ·refine ⟨if ok = true then .tuple #[zv, .bool false] else zv, ?_, ansRel _ _ false rzv⟩
        simp [Instr.lookup, run_underlying hu, hck, Instr.findKey, run_underlying hkd, hf, hzv, getObj, Sem.run, hh]
       refine ⟨if ok = true then .tuple #[u', .bool true] else u', ?_, ansRel _ _ true ru⟩
       simp [Instr.lookup, run_underlying hu, hck, Instr.findKey, run_underlying hkd, hf, hzv, getObj, Sem.run, hh]
      cases h
     cases h
    cases h
   cases h
  cases h
 cases h
theorem ZaL (hT : TOk P T) {w0 w : World} {ι : Inj} {H H' : Ze} (s : Sim w0 ι H w) {src dst : TypeId} {x v : VVal} {x' : Value} (hd : Qe T dst = true) (h : Yw T H src dst x = some (v, H')) (hx : Rel ι x x') :
  H' = H ∧ (∀ X, Yw T (H ++ X) src dst x = some (v, H ++ X)) ∧ ∃ z, (convert src dst x').run P w = .ok z w ∧ Rel ι v z := by
 have := (QC h).2
 rw [hd] at this; cases this
theorem look_run (hT : TOk P T) {w0 w : World} {ρ : Operand → VVal} {ρ' : Operand → Value} {o : Oper} {H H' : Ze} {v : VVal} {ι : Inj} (s : Sim w0 ι H w)
  (h : vop T ρ H o.op = some (v, H')) (hc : Yh T o.op = .look) (hρ : Ops ι ρ ρ' o.op) :
  H' = H ∧ (∀ X, vop T ρ (H ++ X) o.op = some (v, H ++ X)) ∧ ∃ x, (execOp ρ' o).run P w = .ok (.value x) w ∧ Rel ι v x := by
 obtain ⟨dst, op, ty, pos, aft, gd⟩ := o
 simp only at h hc hρ
 cases op <;> simp only [Yh, reduceCtorEq] at hc
 case load t a =>
  simp only [vop, Option.map_eq_some_iff, Prod.mk.injEq] at h
  obtain ⟨u, hu, rfl, rfl⟩ := h
  obtain ⟨⟨x, hx, rx⟩, _⟩ := ZcV hT s hu (hρ a XH10)
  exact ⟨rfl, fun X => by simp [vop, Zal X hu], x, by simp [execOp, hx], rx⟩
 case lookup t x k ok =>
  simp only [vop, Option.map_eq_some_iff, Prod.mk.injEq] at h
  obtain ⟨u, hu, rfl, rfl⟩ := h
  obtain ⟨z, hz, rz⟩ := vlookup_run hT s hu (hρ x XH10) (hρ k XH10)
  refine ⟨rfl, fun X => ?_, z, by simp [execOp, hz], rz⟩
  have : XK T (H ++ X) t (ρ x) (ρ k) ok = some u := by
   unfold XK at hu ⊢
   split at hu
   ·split at hu
    ·split at hu
     ·simp only at hu ⊢
      split at hu
      ·rename_i hcnd
       rw [if_pos hcnd]
       split at hu
       ·exact hu
       ·split at hu
        ·rename_i hg; simp only [Zn hg]; exact hu
        cases hu
       cases hu
      cases hu
     cases hu
    cases hu
   cases hu
  simp [vop, this]
 case convert src dst' x =>
  simp only [vop] at h
  split at hc
  ·cases hc
  split at hc
  ·rename_i hs
   obtain ⟨rfl, q, z, hz, rz⟩ := ZaL hT s hs h (hρ x XH10)
   exact ⟨rfl, fun X => by simp [vop, q X], z, by simp [execOp, hz], rz⟩
  cases hc
 case call c =>
  obtain ⟨callee, args, ats⟩ := c
  cases callee <;> (try simp only [Yh, reduceCtorEq] at hc)
  rename_i b
  have ra : RelL ι (args.toList.map ρ) (args.map ρ').toList := XX args fun x hx => hρ x (by simp [Op.operands, Call.operands, hx])
  cases b <;> (try simp only [Yh, reduceCtorEq] at hc)
  simp only [vop] at h ⊢
  generalize args.toList.map ρ = l at h ra ⊢
  match l, h, ra with
  | [], h, _ => simp [ZR] at h
  | _ :: _ :: _, h, _ => simp [ZR] at h
  | [x], h, ra =>
   simp only [ZR] at h ⊢
   split at h
   ·rename_i t hat
    simp only [Option.map_eq_some_iff, Prod.mk.injEq] at h
    obtain ⟨u, hu, rfl, rfl⟩ := h
    obtain ⟨x', hx', rx'⟩ := Jc ra
    have hx'' : args.map ρ' = #[x'] := by
     apply Array.ext'; simpa using hx'
    have hat' : ats = #[t] := by apply Array.ext'; simpa using hat
    subst hat'
    obtain ⟨z, hz, rz⟩ := vlen_run (u := ty) hT s hu rx'
    refine ⟨rfl, fun X => by simp [Za4 X hu], z, ?_, rz⟩
    simp only [execOp, resolve, invoke, builtin, Sem.run_bind, Sem.run_pure, Result.andThen_ok, hx'', hz]
   cases h
 all_goals (exfalso; split at hc <;> simp_all; done)
end
open Go Go.RowKit
section
variable {P : Program} {T : TypeId → Option VTy}
theorem BRel.newCells {w0 w' : World} {ι' : Inj} {r : Nat} {cs : List VVal} {arr : Array Value} {t : TypeId} (hr : w0.heap.size ≤ r) (hc : RelL ι' cs arr.toList) (hw : w'.heap[r]? = some (.cells arr t)) :
  BRel w0 ι' w' ⟨r, 0, some arr.size⟩ (.cells cs true) :=
 ⟨arr, t, (0, 0), arr.toList, hw, hc, fun i v h => by simpa using h, by simp [hr]⟩
theorem BRel.newHead {w0 w' : World} {ι' : Inj} {r : Nat} {cs : List VVal} {arr : Array Value} {t : TypeId} {cs' : List Value} (hr : w0.heap.size ≤ r) (hc : RelL ι' cs cs') (hh : ∀ (i : Nat) (v : Value), cs'[i]? = some v → arr[i]? = some v) (hw : w'.heap[r]? = some (.cells arr t)) :
  BRel w0 ι' w' ⟨r, 0, some arr.size⟩ (.cells cs true) :=
 ⟨arr, t, (0, 0), cs', hw, hc, fun i v h => by simpa using hh i v h, by simp [hr]⟩
theorem ZbR (zero : List VVal) : ∀ (n i : Nat), (ZH zero n)[i]? = if i < n * zero.length then zero[i % zero.length]? else none
 | 0, i => by simp [ZH]
 | n + 1, i => by
  simp only [ZH]
  by_cases h : i < zero.length
  ·rw [List.getElem?_append_left h, if_pos (by rw [Nat.add_mul]; omega), Nat.mod_eq_of_lt h]
  rw [List.getElem?_append_right (by omega), ZbR zero n]
  have e : (i - zero.length) % zero.length = i % zero.length := by
   exact (Nat.mod_eq_sub_mod (by omega)).symm
  by_cases h2 : i < (n + 1) * zero.length
  ·rw [if_pos (by rw [Nat.add_mul] at h2; omega), if_pos h2, e]
  rw [if_neg (by rw [Nat.add_mul] at h2; omega), if_neg h2]
theorem X8 (zero : List VVal) : ∀ n, (ZH zero n).length = n * zero.length
 | 0 => by simp [ZH]
 | n + 1 => by simp [ZH, X8 zero n, Nat.add_mul, Nat.add_comm]
theorem JV {ι : Inj} {zero : List VVal} {zs : Array Value} (h : RelL ι zero zs.toList) (n size : Nat) (hs : zero.length = size) (hp : 0 < size) :
  RelL ι (ZH zero n) ((Array.range (n * size)).map (zs[· % zs.size]!)).toList := by
 have hz : zs.size = size := by have := h.length; simp at this; omega
 refine RelL.of_get ?_ fun i v x h1 h2 => ?_
 ·rw [X8]; simp [hs]
 rw [ZbR] at h1
 split at h1
 ·rename_i hi
  rw [hs] at hi h1
  obtain ⟨y, hy, ry⟩ := h.get _ _ h1
  have hlt : i % size < zs.size := by rw [hz]; exact Nat.mod_lt _ hp
  simp only [Array.toList_map, Array.toList_range, List.getElem?_map, List.getElem?_range hi, Option.map_some, Option.some.injEq] at h2
  rw [hz] at h2
  have : zs[i % size]! = y := by
   have hy' : zs[i % size]? = some y := by simpa using hy
   simp [getElem!_def, hy']
  rw [this] at h2; subst h2; exact ry
 cases h1
theorem ZaM {ι : Inj} {z : VTy} {len : Nat} {parts : List (Nat × VVal)} {parts' : List (Nat × Value)} {cs : List VVal} {zs : Array Value} (h : QT (fun i => some (i * z.size, z.size)) (ZH z.zero len) parts = some cs)
  (hz : RelL ι z.zero zs.toList) (hs : z.size = z.zero.length) (hp : 0 < z.size) (h1 : parts.map (·.1) = parts'.map (·.1)) (h2 : RelL ι (parts.map (·.2)) (parts'.map (·.2))) :
  ∃ l', Instr.fill (fun i => some (i * z.size, z.size)) ((Array.range (len * z.size)).map (zs[· % zs.size]!)) parts' = some l' ∧ RelL ι cs l'.toList :=
 Jl (fun i p hp => hp) h (JV hz len z.size hs.symm hp) h1 h2
theorem Qq (hT : TOk P T) {t e : TypeId} {z : VTy} (h : Y6 T t = some (e, z)) : P.underlying t = some (.slice e) ∧ T e = some z := by
 unfold Y6 at h
 split at h
 ·rename_i y hy
  split at h
  ·rename_i e' hd
   simp only [Option.map_eq_some_iff, Prod.mk.injEq] at h
   obtain ⟨z', hz, rfl, rfl⟩ := h
   have := (hT _ _ hy).und
   rw [hd] at this
   exact ⟨this, hz⟩
  cases h
 cases h
theorem QF {t : TypeId} {z : VTy} (h : TyOk P t z) : ∃ zv : Value, (∀ w : World, (zeroValue t).run P w = .ok zv w) ∧ ∀ ι, RelL ι z.zero zv.cells.toList := by
 obtain ⟨i, x, _, _, _, _, _, _, hz, rz, _⟩ := h.run_info
 exact ⟨x, hz, rz⟩
theorem Zci (hT : TOk P T) {ρ : Operand → VVal} {ρ' : Operand → Value} {o : Oper} {H H' : Ze} {v : VVal}
  (h : vop T ρ H o.op = some (v, H')) (hc : Yh T o.op = .grow) :
  ∃ k, H' = H ++ [k] ∧ k.owns = true ∧ ∀ (ι : Inj) (w : World), Ops ι ρ ρ' o.op → ∃ x obj lim, (execOp ρ' o).run P w = .ok (.value x) (w.alloc obj) ∧
   ∀ ι' : Inj, ι.le ι' → ι' H.length = some ⟨w.heap.size, 0, lim⟩ → Rel ι' v x ∧ ∀ w0 w' : World, w0.heap.size ≤ w.heap.size → w'.heap[w.heap.size]? = some obj → BRel w0 ι' w' ⟨w.heap.size, 0, lim⟩ k := by
 obtain ⟨dst, op, ty, pos, aft, gd⟩ := o
 simp only at h hc ⊢
 cases op <;> simp only [Yh, reduceCtorEq] at hc
 case alloc t =>
  simp only [vop, Option.map_eq_some_iff, vnew, Prod.mk.injEq] at h
  obtain ⟨y, hy, rfl, rfl⟩ := h
  refine ⟨_, rfl, rfl, fun ι w hρ => ?_⟩
  obtain ⟨zv, hz, rz⟩ := QF (hT _ _ hy)
  refine ⟨.pointer (some ⟨w.heap.size, 0, none⟩), .cells zv.cells t, some zv.cells.size, ?_, fun ι' hle hi => ⟨?_, fun w0 w' h0 hw => .newCells h0 (rz ι') hw⟩⟩
  ·simp [execOp, Instr.alloc, hz, newVar, newRow]
  simp only [Rel]; exact ⟨_, hi, rfl⟩
 case box t x =>
  simp only [vop, Option.map_eq_some_iff, vnew, Prod.mk.injEq] at h
  obtain ⟨cs, hcs, rfl, rfl⟩ := h
  refine ⟨_, rfl, rfl, fun ι w hρ => ?_⟩
  have rx := hρ x XH10
  refine ⟨.pointer (some ⟨w.heap.size, 0, none⟩), .cells (ρ' x).cells t, some (ρ' x).cells.size, ?_, fun ι' hle hi => ⟨?_, fun w0 w' h0 hw => .newCells h0 (Za0 (Rel.mono hle _ _ rx) hcs) hw⟩⟩
  ·simp [execOp, Instr.box, newVar, newRow]
  simp only [Rel]; exact ⟨_, hi, rfl⟩
 case buildSlice t n parts =>
  simp only [vop, Xo] at h
  split at h
  ·rename_i e z he
   obtain ⟨hu, hz⟩ := Qq hT he
   split at h
   ·rename_i hcnd
    obtain ⟨hlim, hsz, hpos⟩ := hcnd
    simp only [Option.map_eq_some_iff, Prod.mk.injEq] at h
    obtain ⟨cs, hcs, rfl, rfl⟩ := h
    refine ⟨_, rfl, rfl, fun ι w hρ => ?_⟩
    obtain ⟨zv, hzv, rz⟩ := QF (hT _ _ hz)
    have hsize := (hT _ _ hz).run_size
    obtain ⟨p1, p2⟩ := Zc4 (ι := ι) (ρ := ρ) (ρ' := ρ') parts (fun x hx => hρ x (by simpa [Op.operands] using hx))
    obtain ⟨l', hl', rl'⟩ := ZaM (zs := zv.cells) hcs (rz ι) hsz hpos p1 p2
    have hll : l'.size = n * z.size := by
     have h1 := rl'.length
     have h2 : cs.length = (ZH z.zero n).length := by
      have : ∀ (pl : Nat → Option (Nat × Nat)) (ps : List (Nat × VVal)) (a b : List VVal), QT pl a ps = some b → b.length = a.length := by
       intro pl ps
       induction ps with
       | nil => intro a b hab; simp only [QT, Option.some.injEq] at hab; rw [hab]
       | cons p ps ih =>
        intro a b hab
        simp only [QT] at hab
        split at hab
        ·split at hab
         ·rename_i hcc
          rw [ih _ _ hab]; simp [Zx]; omega
         cases hab
        cases hab
      exact this _ _ _ _ hcs
     rw [X8, ← hsz] at h2
     simp at h1; omega
    refine ⟨.slice (some ⟨w.heap.size, 0, none⟩) n n, .cells l' e, some l'.size, ?_, fun ι' hle hi => ⟨?_, fun w0 w' h0 hw => .newCells h0 (RelL.mono hle _ _ rl') hw⟩⟩
    ·have hnz : ¬ (16777216 < n * z.size) := by omega
     simp only [execOp, Instr.buildSlice, Sem.run_bind, run_underlying hu, Result.andThen_ok, hsize]
     by_cases h0 : n * z.size = 0
     ·have e0 : Array.range 0 = #[] := rfl
      rw [h0, e0] at hl'
      simp only [Array.map_empty] at hl'
      simp only [h0, e0, Array.map_empty]
      simp at hl'
      simp [hl', newRow]
     simp only [Array.toList_map] at hl'
     simp [hnz, h0, hzv, hl', newRow]
    simp only [Rel]; exact ⟨_, n, hi, Nat.le_refl _, fun _ => rfl, fun L hL => by cases hL; omega, rfl⟩
   cases h
  cases h
 case makeSlice t l c =>
  simp only [vop, XS] at h
  split at h
  ·rename_i e z l' c' he hl hcc
   obtain ⟨hu, hz⟩ := Qq hT he
   split at h
   ·rename_i hcnd
    obtain ⟨c1, c2, c3, c4, hsz, hpos⟩ := hcnd
    simp only [Option.some.injEq, Prod.mk.injEq] at h
    obtain ⟨rfl, rfl⟩ := h
    refine ⟨_, rfl, rfl, fun ι w hρ => ?_⟩
    have rl := hρ l XH10
    have rc := hρ c XH10
    rw [hl] at rl; rw [hcc] at rc
    simp only [Rel] at rl rc
    obtain ⟨zv, hzv, rz⟩ := QF (hT _ _ hz)
    obtain ⟨i, x, hi, hri, _, hib, _, hsize, _⟩ := (hT _ _ hz).run_info
    have wl : IntKind.i64.wrap l' = l' := by
     show (let m := l' % (2 ^ 64 : Int); if (true && decide (m ≥ (2 ^ 63 : Int))) = true then m - 2 ^ 64 else m) = l'
     have : l' % (2 ^ 64 : Int) = l' := Int.emod_eq_of_lt c1 (by omega)
     simp only [this]
     rw [if_neg (by simp; omega)]
    have wc : IntKind.i64.wrap c' = c' := by
     show (let m := c' % (2 ^ 64 : Int); if (true && decide (m ≥ (2 ^ 63 : Int))) = true then m - 2 ^ 64 else m) = c'
     have : c' % (2 ^ 64 : Int) = c' := Int.emod_eq_of_lt (by omega) (by omega)
     simp only [this]
     rw [if_neg (by simp; omega)]
    have rr := JV (rz ι) c'.toNat z.size hsz.symm hpos
    refine ⟨.slice (some ⟨w.heap.size, 0, none⟩) l'.toNat c'.toNat, .cells ((Array.range (c'.toNat * z.size)).map (zv.cells[· % zv.cells.size]!)) e, some (c'.toNat * z.size), ?_, fun ι' hle hi' => ⟨?_, fun w0 w' h0 hw => ?_⟩⟩
    ·have b1 : ¬ (c' < 0) := by omega
     have b2 : ¬ ((281474976710656 : Int) < i.bytes * c') := by rw [hib, Int.mul_comm]; omega
     have b3 : ¬ (l' < 0) := by omega
     have b4 : ¬ (c' < l') := by omega
     simp only [execOp, Instr.makeSlice, Sem.run_bind, run_underlying hu, Result.andThen_ok, rl, rc, asInt, asIntOf, Sem.run_pure, hri, wl, wc]
     by_cases h0 : c'.toNat * z.size = 0
     ·have e0 : Array.range 0 = #[] := rfl
      rw [h0, e0]
      simp [b1, b2, b3, b4, hsize, h0, newRow]
      rw [e0]; simp
     simp [b1, b2, b3, b4, hsize, h0, newRow, hzv]
    ·simp only [Rel]; exact ⟨_, c'.toNat, hi', Nat.le_refl _, fun _ => rfl, fun L hL => by cases hL; omega, rfl⟩
    have := BRel.newCells (w' := w') (ι' := ι') (t := e) h0 (RelL.mono hle _ _ rr) hw
    simpa using this
   cases h
  cases h
 case makeMap t r =>
  cases r with
  | some r => simp only [Yh, reduceCtorEq] at hc
  | none =>
   simp only [vop, Option.some.injEq, Prod.mk.injEq] at h
   obtain ⟨rfl, rfl⟩ := h
   refine ⟨_, rfl, rfl, fun ι w hρ => ⟨.map (some w.heap.size), .map #[] 0, none, ?_, fun ι' hle hi => ⟨?_, fun w0 w' h0 hw => ⟨#[], 0, hw, h0, by simp [MRel]⟩⟩⟩⟩
   ·simp [execOp, Instr.makeMap]
   simp only [Rel]; exact ⟨_, hi, rfl⟩
 case call c =>
  obtain ⟨callee, args, ats⟩ := c
  cases callee <;> (try simp only [Yh, reduceCtorEq] at hc)
  rename_i b
  cases b <;> (try simp only [Yh, reduceCtorEq] at hc)
 case convert =>
  exfalso
  split at hc
  ·cases hc
  split at hc <;> cases hc
end
end Go.V
