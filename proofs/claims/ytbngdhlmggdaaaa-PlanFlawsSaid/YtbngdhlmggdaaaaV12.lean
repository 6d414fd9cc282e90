/- Regions whose order Go leaves open: any order comes to the same. -/
import Derived.Test.YtbngdhlmggdaaaaV11
set_option autoImplicit false
set_option linter.unusedVariables false
set_option linter.unusedSimpArgs false
namespace Go.V
open Go Go.RowKit

section
variable {P : Program} {w0 : World}

theorem Sim.extend {w : World} {ι : Inj} {H : VHeap} (s : Sim w0 ι H w) (X : VHeap) : Sim w0 ι (H ++ X) w := by
  refine ⟨s.below, s.frz, fun r arr b e k hz h g ho => ?_, fun b e h => ?_, fun b e k h g => ?_, fun b b' e e' k k' h h' g g' o o' hr => ?_⟩
  · rw [List.getElem?_append_left (s.dom b e h)] at g; exact s.fo r arr b e k hz h g ho
  · have := s.dom b e h; simp; omega
  · rw [List.getElem?_append_left (s.dom b e h)] at g; exact s.blk b e k h g
  · rw [List.getElem?_append_left (s.dom b e h)] at g
    rw [List.getElem?_append_left (s.dom b' e' h')] at g'
    exact s.inj b b' e e' k k' h h' g g' o o' hr

/-- what is known of a region's run -/
structure Run (C : Cfg) (call : Nat → Caller) (ops : Array Oper) (bef : Nat → Nat) (env0 : VEnv) (H0 : VHeap) (S : List St) (envF : VEnv) (HF : VHeap) : Prop where
  chain : Chain C call ops env0 H0 S envF HF
  pw : S.Pairwise fun x y => (bef x.i).testBit y.i = false ∧ ((bef y.i).testBit x.i = false → fine x.it y.it) ∧ x.i ≠ y.i
  slots : ∀ x, x ∈ S → ∀ y, y ∈ S → x.i ≠ y.i → ∀ t, x.o.dst = some t → t ∈ namesOf ops y.o → (bef y.i).testBit x.i = true ∨ (bef x.i).testBit y.i = true

def Cl (bef : Nat → Nat) (S : List St) (D : Nat → Bool) : Prop := ∀ u, u ∈ S → D u.i = true → ∀ m, (bef u.i).testBit m = true → D m = true

def Inv (w0 : World) (ι0 : Inj) (ds : List Deferred) (env0 : VEnv) (H0 : VHeap) (S : List St) (D : Nat → Bool) (a : Act) (w : World) : Prop :=
  ∃ ι, Inj.ex H0.length ι0 ι ∧ Sim w0 ι (hp D S H0) w ∧ RelL ι (ev D S env0) a.tmps.toList ∧ a.defers = ds ∧ ∀ u, u ∈ S → D u.i = false → ∀ id, u.it = .grow id → ι id = none

def mark (D : Nat → Bool) (i : Nat) : Nat → Bool := fun j => j == i || D j

theorem mem_names_tmp {ops : Array Oper} {o : Oper} {t : Nat} (h : Operand.tmp t ∈ o.op.operands) : t ∈ namesOf ops o := by
  unfold namesOf
  refine List.mem_append_left _ (List.mem_append_right _ (List.mem_filterMap.2 ⟨.tmp t, by simpa using h, rfl⟩))

theorem mem_names_dst {ops : Array Oper} {o : Oper} {t : Nat} (h : o.dst = some t) : t ∈ namesOf ops o := by
  unfold namesOf
  refine List.mem_append_left _ (List.mem_append_left _ (by simp [h]))

theorem mem_names_guard {ops : Array Oper} {o : Oper} {j t : Nat} {b : Bool} (h : o.guard = some (j, b)) (hd : (ops[j]?).bind (·.dst) = some t) : t ∈ namesOf ops o := by
  unfold namesOf
  refine List.mem_append_right _ (by simp only [h, hd]; simp)

theorem draw_step {C : Cfg} (hC : CfgOk P C w0) {call : Nat → Caller} (hv : ∀ i, CallSound P w0 (call i)) {ops : Array Oper} {bef : Nat → Nat} {env0 : VEnv} {H0 : VHeap} {S : List St} {envF : VEnv} {HF : VHeap} (R : Run C call ops bef env0 H0 S envF HF)
    {ι0 : Inj} {ds : List Deferred} {D : Nat → Bool} {a : Act} {w : World} (hI : Inv w0 ι0 ds env0 H0 S D a w) (hcl : Cl bef S D) {s : St} (hmem : s ∈ S) (hs : D s.i = false) (hb : ∀ m, (bef s.i).testBit m = true → D m = true)
    {ro : Option Nat} {n : Nat} {K : Act → World → Prop} {Q : Exit → Act → World → Prop} (hK : ∀ a' w', Inv w0 ι0 ds env0 H0 S (mark D s.i) a' w' → K a' w') :
    if Region.wanted s.o (yielded ops a.tmps) = true then s.o.wpIn (WF ro) n P a w K Q else (∀ f, s.o.about P w a.eval = some f → (WF ro).fn f) ∧ K (a.put s.o.dst undef) w := by
  obtain ⟨ι, hex, hsim, hrel, hds, hgr⟩ := hI
  obtain ⟨A, B, rfl⟩ := List.append_of_mem hmem
  obtain ⟨cA, okS, cB⟩ := chain_split R.chain
  have hpw := List.pairwise_append.1 R.pw
  have hpB := (List.pairwise_cons.1 hpw.2.1).1
  have hpA : ∀ u, u ∈ A → _ := fun u hu => hpw.2.2 u hu s (List.mem_cons_self ..)
  have inA : ∀ u, u ∈ A → u ∈ A ++ s :: B := fun u hu => List.mem_append_left _ hu
  have inB : ∀ u, u ∈ B → u ∈ A ++ s :: B := fun u hu => List.mem_append_right _ (List.mem_cons_of_mem _ hu)
  -- who wrote ahead
  have wrA : ∀ u, u ∈ A → ∀ t, u.o.dst = some t → t ∈ namesOf ops s.o → D u.i = true := by
    intro u hu t ht hn
    rcases R.slots u (inA u hu) s hmem (hpA u hu).2.2 t ht hn with h | h
    · exact hb _ h
    · rw [(hpA u hu).1] at h; cases h
  have wrB : ∀ u, u ∈ B → ∀ t, u.o.dst = some t → t ∈ namesOf ops s.o → D u.i = false := by
    intro u hu t ht hn
    rcases R.slots u (inB u hu) s hmem (Ne.symm (hpB u hu).2.2) t ht hn with h | h
    · rw [(hpB u hu).1] at h; cases h
    · cases hD : D u.i with
      | false => rfl
      | true => have := hcl u (inB u hu) hD _ h; rw [hs] at this; cases this
  have hslot : ∀ t, t ∈ namesOf ops s.o → (ev D (A ++ s :: B) env0)[t]? = s.env[t]? := by
    intro t ht
    rw [ev_append]
    have e1 : ev D (s :: B) (ev D A env0) = ev D B (ev D A env0) := by simp only [ev, hs]; simp
    rw [e1, ev_still (fun u hu h => wrB u hu t h ht), ev_agree (e' := env0) (fun u hu h => wrA u hu t h ht) rfl, chain_env cA]
  have hgetD : ∀ t, t ∈ namesOf ops s.o → s.env.getD t .skip = (ev D (A ++ s :: B) env0).getD t .skip := fun t ht => by
    rw [List.getD_eq_getElem?_getD, List.getD_eq_getElem?_getD, hslot t ht]
  have hρ : Ops ι s.env.eval a.eval s.o.op := by
    intro x hx
    have r := rel_eval hrel x
    cases x with
    | tmp t =>
      simp only [VEnv.eval] at r ⊢
      rw [hgetD t (mem_names_tmp hx)]; exact r
    | const v => exact r
    | global g => exact r
    | func f => exact r
  have hg : ∀ j want d, s.o.guard = some (j, want) → (ops[j]?).bind (·.dst) = some d → Rel ι (s.env.getD d .skip) (a.tmps.getD d undef) := fun j want d h1 h2 => by
    rw [hgetD d (mem_names_guard h1 h2)]; exact rel_slot hrel d
  -- behind the step: the slots
  have hev : ev (mark D s.i) (A ++ s :: B) env0 = (ev D (A ++ s :: B) env0).put s.o.dst s.v := by
    rw [ev_append, ev_append]
    have e0 : ev (mark D s.i) A env0 = ev D A env0 := ev_congr fun u hu => by
      have := (hpA u hu).2.2
      simp [mark, this]
    rw [e0]
    simp only [ev, hs]
    have e1 : mark D s.i s.i = true := by simp [mark]
    rw [if_pos e1, if_neg (by simp)]
    have e2 : ∀ e, ev (mark D s.i) B e = ev D B e := fun e => ev_congr fun u hu => by
      have := (hpB u hu).2.2
      simp [mark, Ne.symm this]
    rw [e2]
    refine ev_put fun u hu hD t ht hut => ?_
    have := wrB u hu t hut (mem_names_dst ht)
    rw [hD] at this; cases this
  have hlen0 : H0.length ≤ (hp D (A ++ s :: B) H0).length := (chain_len R.chain).2.2 D
  have hD' : ∀ u, u ∈ A ++ s :: B → mark D s.i u.i = false → D u.i = false ∧ u.i ≠ s.i := fun u hu h => by
    simp only [mark, Bool.or_eq_false_iff, beq_eq_false_iff_ne] at h; exact ⟨h.2, h.1⟩
  have hmarkA : ∀ u, u ∈ A → mark D s.i u.i = D u.i := fun u hu => by have := (hpA u hu).2.2; simp [mark, this]
  have hmarkB : ∀ u, u ∈ B → mark D s.i u.i = D u.i := fun u hu => by have := (hpB u hu).2.2; simp [mark, Ne.symm this]
  have same : isTurn s.it = false → hp (mark D s.i) (A ++ s :: B) H0 = hp D (A ++ s :: B) H0 := fun ht => hp_congr fun u hu hut => by
    rcases List.mem_append.1 hu with hu | hu
    · exact hmarkA u hu
    · rcases List.mem_cons.1 hu with rfl | hu
      · rw [ht] at hut; cases hut
      · exact hmarkB u hu
  have hgrow_it : ∀ u, u ∈ A ++ s :: B → ∀ id, u.it = .grow id → id = u.H.length ∧ u.H'.length = u.H.length + 1 := by
    intro u hu id hid
    rcases st_cases ((chain_len R.chain).2.1 u hu).2 with ⟨_, _, _, e⟩ | ⟨_, _, _, _, e⟩ | ⟨_, _, _, _, e⟩ | ⟨_, _, hc, hvv, e⟩ | e
    · rw [e] at hid; cases hid
    · rw [e] at hid; cases hid
    · rw [e] at hid; cases hid
    · rw [e] at hid; cases hid
      obtain ⟨kk, ek⟩ := vop_grow hC.tys hvv hc
      exact ⟨rfl, by rw [ek]; simp⟩
    · rw [e] at hid; cases hid
  have lenA : ∀ u, u ∈ A → u.H'.length ≤ s.H.length := by
    intro u hu
    obtain ⟨A1, A2, rfl⟩ := List.append_of_mem hu
    have := (chain_split cA).2.2
    exact (chain_len this).1
  have lenB : ∀ u, u ∈ B → s.H'.length ≤ u.H.length := fun u hu => ((chain_len cB).2.1 u hu).1
  -- the heap as it is: a look at it, or none
  have calmK : ∀ {it'}, isTurn s.it = false → runOp C.T C.meth (call s.i) ops s.o s.env (hp D (A ++ s :: B) H0) = some (s.v, hp D (A ++ s :: B) H0, it') →
      (∀ id, s.it ≠ .grow id) →
      (if Region.wanted s.o (yielded ops a.tmps) = true then s.o.wpIn (WF ro) n P a w K Q else (∀ f, s.o.about P w a.eval = some f → (WF ro).fn f) ∧ K (a.put s.o.dst undef) w) := by
    intro it' ht hrun hng
    refine op_any hC (hv s.i) hrun hsim hρ hg (fun x w' ι' e1 s1 r1 => hK _ _ ⟨ι', Inj.ex_trans hex e1 hlen0, ?_, ?_, (put_defers _ _ _).trans hds, ?_⟩)
    · rw [same ht]; exact s1
    · rw [hev]; exact rel_put (RelL.mono (hsim.le e1) _ _ hrel) _ r1
    · intro u hu hDu id hid
      have h0 := hgr u hu (hD' u hu hDu).1 id hid
      by_cases hlt : id < (hp D (A ++ s :: B) H0).length
      · rw [e1.1 id hlt]; exact h0
      · cases hx : ι' id with
        | none => rfl
        | some e => exact absurd (s1.dom id e hx) hlt
  rcases st_cases okS with ⟨hw, hsv, hH, hit⟩ | ⟨hw, hcal, hc, hop, hit⟩ | ⟨hw, hcal, hc, hop, hit⟩ | ⟨hw, hcal, hc, hop, hit⟩ | hit
  · -- passed over
    refine calmK (it' := .calm) (by rw [hit]; rfl) ?_ (fun id => by rw [hit]; simp)
    unfold runOp
    rw [hw, hsv]
  · -- calm
    refine calmK (it' := itemOf C.T s.o.op s.env.eval s.v (hp D (A ++ s :: B) H0) (hp D (A ++ s :: B) H0)) (by rw [hit]; rfl) ?_ (fun id => by rw [hit]; simp)
    unfold runOp
    simp only [hw, hcal, (vop_calm hop hc).2]
  · -- a look
    have hlook : vop C.T s.env.eval (hp D (A ++ s :: B) H0) s.o.op = some (s.v, hp D (A ++ s :: B) H0) := by
      rcases hp_split (D := D) R.chain with ⟨u, hu, hut, hDu, he⟩ | ⟨hall, he⟩
      · have hf := (hpA u hu).2.1 (by
          cases hbit : (bef s.i).testBit u.i with
          | false => rfl
          | true => have := hb _ hbit; rw [hDu] at this; cases this)
        rw [st_turn ((chain_len R.chain).2.1 u (inA u hu)).2 hut, hit] at hf
        rw [he]
        exact hf.1
      · rw [he]
        have e1 : hp D (s :: B) s.H = hp D B s.H' := by simp only [hp]; rw [if_neg (by rw [hit]; simp [isTurn])]
        rw [e1]
        refine hp_keep hC.tys (fun G => vop C.T s.env.eval G s.o.op = some (s.v, G)) (fun G X hG => (vop_look hG hc).2 X) cB ?_ ?_
        · intro u hu hut hDu hφ
          have hf := (hpB u hu).2.1 (by
            cases hbit : (bef u.i).testBit s.i with
            | false => rfl
            | true => have := hcl u (inB u hu) hDu _ hbit; rw [hs] at this; cases this)
          rw [st_turn ((chain_len R.chain).2.1 u (inB u hu)).2 hut, hit] at hf
          exact hf.2
        · have := (vop_look hop hc).1
          rw [this] at hop ⊢; exact hop
    refine calmK (it' := itemOf C.T s.o.op s.env.eval s.v (hp D (A ++ s :: B) H0) (hp D (A ++ s :: B) H0)) (by rw [hit]; rfl) ?_ (fun id => by rw [hit]; simp)
    unfold runOp
    simp only [hw, hcal, hlook]
  · -- a new block
    have hright : hp D (A ++ s :: B) H0 = hp D (s :: B) s.H := by
      rcases hp_split (D := D) R.chain with ⟨u, hu, hut, hDu, he⟩ | ⟨hall, he⟩
      · exfalso
        have hf := (hpA u hu).2.1 (by
          cases hbit : (bef s.i).testBit u.i with
          | false => rfl
          | true => have := hb _ hbit; rw [hDu] at this; cases this)
        rw [st_turn ((chain_len R.chain).2.1 u (inA u hu)).2 hut, hit] at hf
        exact hf
      · exact he
    have e1 : hp D (s :: B) s.H = hp D B s.H' := by simp only [hp]; rw [if_neg (by rw [hit]; simp [isTurn])]
    obtain ⟨kk, hk, _, hrun⟩ := grow_run (ρ' := a.eval) hC.tys hop hc
    have hat : (hp D (A ++ s :: B) H0)[s.H.length]? = some kk := by
      rw [hright, e1]
      refine hp_keep hC.tys (fun G => G[s.H.length]? = some kk) (fun G X hG => get_append hG) cB ?_ (by rw [hk]; simp)
      intro u hu hut hDu hφ
      have hf := (hpB u hu).2.1 (by
        cases hbit : (bef u.i).testBit s.i with
        | false => rfl
        | true => have := hcl u (inB u hu) hDu _ hbit; rw [hs] at this; cases this)
      rw [st_turn ((chain_len R.chain).2.1 u (inB u hu)).2 hut, hit] at hf
      simp only [fine] at hf
      rw [hf]; exact hφ
    have hnone : ι s.H.length = none := hgr s hmem hs _ hit
    obtain ⟨x, obj, lim, hx, hh⟩ := hrun ι w hρ
    have hle : ι.le (ι.ext s.H.length ⟨w.heap.size, 0, lim⟩) := by
      refine ⟨fun c e' h => ?_, fun _ _ h => h⟩
      rw [Inj.ext_m]
      by_cases hc' : c = s.H.length
      · subst hc'; rw [hnone] at h; cases h
      · rw [if_neg hc']; exact h
    have hh := hh (ι.ext s.H.length ⟨w.heap.size, 0, lim⟩) hle (by simp [Inj.ext])
    rw [wanted_rel hw hg, if_pos rfl]
    refine ⟨fun _ _ => trivial, ?_⟩
    rw [Oper.semAt_eq _ _ _ (fun c => vop_no_defer hop c), hx]
    refine hK _ _ ⟨ι.ext s.H.length ⟨w.heap.size, 0, lim⟩, ?_, ?_, ?_, (put_defers _ _ _).trans hds, ?_⟩
    · have : H0.length ≤ s.H.length := ((chain_len R.chain).2.1 s hmem).1
      exact Inj.ex_trans hex (ext_ex ι s.H.length _) this
    · rw [same (by rw [hit]; rfl)]
      refine hsim.fill hnone hat (hsim.below.alloc hsim.below.size _) (fun i hi => ?_) rfl (hh.2 w0 _ hsim.below.size (World.alloc_heap_new w obj))
      show (w.heap.push obj)[i]? = _
      rw [Array.getElem?_push, if_neg (by omega)]
    · rw [hev]; exact rel_put (RelL.mono hle _ _ hrel) _ hh.1
    · intro u hu hDu id hid
      have h0 := hgr u hu (hD' u hu hDu).1 id hid
      have hidu := hgrow_it u hu id hid
      have hids := hgrow_it s hmem _ hit
      have hne : id ≠ s.H.length := by
        rcases List.mem_append.1 hu with hu' | hu'
        · have := lenA u hu'; omega
        · rcases List.mem_cons.1 hu' with rfl | hu'
          · exact absurd rfl (hD' u hu hDu).2
          · have := lenB u hu'; omega
      rw [Inj.ext_m, if_neg hne]; exact h0
  · -- a turn
    have hut : isTurn s.it = true := by rw [hit]; rfl
    have hallA : ∀ u, u ∈ A → isTurn u.it = true → D u.i = true := by
      rcases hp_split (D := D) R.chain with ⟨u, hu, hut', hDu, he⟩ | ⟨hall, he⟩
      · exfalso
        have hf := (hpA u hu).2.1 (by
          cases hbit : (bef s.i).testBit u.i with
          | false => rfl
          | true => have := hb _ hbit; rw [hDu] at this; cases this)
        rw [st_turn ((chain_len R.chain).2.1 u (inA u hu)).2 hut', hit] at hf
        exact hf
      · exact hall
    have hH : hp D (A ++ s :: B) H0 = s.H := by
      rcases hp_split (D := D) R.chain with ⟨u, hu, hut', hDu, he⟩ | ⟨hall, he⟩
      · rw [hallA u hu hut'] at hDu; cases hDu
      · rw [he]; simp only [hp]; rw [if_pos ⟨hut, hs⟩]
    have hturnB : ∀ u, u ∈ B → isTurn u.it = true → D u.i = false := by
      intro u hu hut'
      cases hD : D u.i with
      | false => rfl
      | true =>
        exfalso
        have hf := (hpB u hu).2.1 (by
          cases hbit : (bef u.i).testBit s.i with
          | false => rfl
          | true => have := hcl u (inB u hu) hD _ hbit; rw [hs] at this; cases this)
        rw [st_turn ((chain_len R.chain).2.1 u (inB u hu)).2 hut', hit] at hf
        exact hf
    rw [hH] at hsim
    refine op_any hC (hv s.i) okS.2.1 hsim hρ hg (fun x w' ι' e1 s1 r1 => hK _ _ ⟨ι', Inj.ex_trans hex e1 ((chain_len R.chain).2.1 s hmem).1, ?_, ?_, (put_defers _ _ _).trans hds, ?_⟩)
    · have e2 : hp (mark D s.i) (A ++ s :: B) H0 = hp (mark D s.i) B s.H' := by
        rcases hp_split (D := mark D s.i) R.chain with ⟨u, hu, hut', hDu, he⟩ | ⟨hall, he⟩
        · rw [hmarkA u hu, hallA u hu hut'] at hDu; cases hDu
        · rw [he]; simp only [hp]; rw [if_neg (by simp [mark])]
      obtain ⟨X, hX⟩ := hp_ext (D := mark D s.i) hC.tys cB (fun u hu hut' => by rw [hmarkB u hu]; exact hturnB u hu hut')
      rw [e2, hX]
      exact s1.extend X
    · rw [hev]; exact rel_put (RelL.mono (hsim.le e1) _ _ hrel) _ r1
    · intro u hu hDu id hid
      have h0 := hgr u hu (hD' u hu hDu).1 id hid
      have hidu := hgrow_it u hu id hid
      rcases List.mem_append.1 hu with hu' | hu'
      · have := lenA u hu'
        rw [e1.1 id (by omega)]; exact h0
      · rcases List.mem_cons.1 hu' with rfl | hu'
        · exact absurd rfl (hD' u hu hDu).2
        · have := lenB u hu'
          cases hx : ι' id with
          | none => rfl
          | some e => have := s1.dom id e hx; omega
end
end Go.V
