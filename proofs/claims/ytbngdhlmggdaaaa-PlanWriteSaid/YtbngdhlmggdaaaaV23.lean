/- Regions that draw their order, with calls of which only a law is known: all else comes wholly ahead of these or wholly behind. -/
import Derived.Test.YtbngdhlmggdaaaaV22
import Derived.Test.YtbngdhlmggdaaaaP4
set_option autoImplicit false
set_option linter.unusedVariables false
namespace Go.V
open Go Go.RowKit

structure EdgesOk (ops : Array Oper) (bef : Array Nat) : Prop where
  edge : ∀ i o, ops[i]? = some o → ∀ e, e ∈ o.after → Region.binds .any e = true → (bef.getD i 0).testBit e.on = true ∧ e.on < ops.size
  back : ∀ i o, ops[i]? = some o → ∀ m, (bef.getD i 0).testBit m = true → ∃ e, e ∈ o.after ∧ Region.binds .any e = true ∧ (e.on = m ∨ (bef.getD e.on 0).testBit m = true)
theorem edges_ok {ops : Array Oper} {bef : Array Nat} (h : befOk ops bef = true) : EdgesOk ops bef := by
  simp only [befOk, List.all_eq_true, List.mem_range] at h
  have hb : ∀ i o, ops[i]? = some o → bef.getD i 0 = o.after.toList.foldl (fun x e => if Region.binds .any e then x ||| 2 ^ e.on ||| bef.getD e.on 0 else x) 0 ∧ ∀ e, e ∈ o.after → Region.binds .any e = true → e.on < ops.size := by
    intro i o ho
    have := h i (Array.getElem?_eq_some_iff.1 ho).1
    rw [ho] at this
    simp only [Bool.and_eq_true, beq_iff_eq, List.all_eq_true, Bool.or_eq_true, Bool.not_eq_true', decide_eq_true_eq] at this
    refine ⟨this.1, fun e he hbd => ?_⟩
    rcases this.2 e (by simpa using he) with h | h
    · rw [hbd] at h; cases h
    · exact h
  refine ⟨fun i o ho e he hbd => ⟨?_, (hb i o ho).2 e he hbd⟩, fun i o ho m hm => ?_⟩
  · rw [(hb i o ho).1, fold_bits]
    exact .inr ⟨e, by simpa using he, hbd, .inl rfl⟩
  · rw [(hb i o ho).1, fold_bits] at hm
    rcases hm with h | ⟨e, he, hbd, h⟩
    · simp at h
    · exact ⟨e, by simpa using he, hbd, h⟩

def Lst (ops : Array Oper) (listed : Array Bool) (pre : List Nat) : Prop := listed.size = ops.size ∧ ∀ i, i < ops.size → (listed.getD i false = true ↔ i ∈ pre)
def left (ops : Array Oper) (listed : Array Bool) : Nat := (List.range ops.size).countP fun i => !listed.getD i false

/-- with pre done: what is left comes to an end of which K holds -/
def WP (S : Sys) (ops : Array Oper) (pre : List Nat) (env : VEnv) (H : VHeap) (K : VEnv → VHeap → Prop) : Prop :=
  ∀ (ro : Option Nat) (n : Nat) (Q : Exit → Act → World → Prop) (fuel : Nat) (listed : Array Bool) (a : Act) (w : World) (ι : Inj), Lst ops listed pre → left ops listed ≤ fuel → Sim S.w0 ι H w → RelL ι env a.tmps.toList →
    (∀ a' w' ι' env' H', a'.defers = a.defers → Inj.ex H.length ι ι' → H.length ≤ H'.length → Sim S.w0 ι' H' w' → RelL ι' env' a'.tmps.toList → K env' H' → Q .normal a' w') →
    wpAnyIn (WF ro) n S.P .any ops Q fuel listed a w

def closedB (ops : Array Oper) (bef : Array Nat) (pre : List Nat) : Bool := pre.all fun x => (List.range ops.size).all fun m => !(bef.getD x 0).testBit m || pre.contains m
def pivB (ops : Array Oper) (bef : Array Nat) (pre : List Nat) (p : Nat) : Bool :=
  closedB ops bef pre && decide (p < ops.size) && !pre.contains p && (List.range ops.size).all (fun j => pre.contains j || j == p || (bef.getD j 0).testBit p) && (List.range ops.size).all (fun m => !(bef.getD p 0).testBit m || pre.contains m)
def segB (ops : Array Oper) (bef : Array Nat) (pre A : List Nat) : Bool :=
  (List.range ops.size).all (fun i => decide (bef.getD i 0 < 2 ^ ops.size)) && closedB ops bef pre && orderOk bef A && A.all (fun i => decide (i < ops.size) && !pre.contains i) && (List.range ops.size).all (fun j => pre.contains j || A.contains j || A.all fun s => (bef.getD j 0).testBit s) &&
    A.all (fun i => (List.range ops.size).all fun m => !(bef.getD i 0).testBit m || pre.contains m || A.contains m)

section
variable {S : Sys} {H : VHeap} {ops : Array Oper} {bef : Array Nat} {env : VEnv} {K : VEnv → VHeap → Prop} {pre : List Nat}

theorem listed_size {listed : Array Bool} {i : Nat} (h1 : listed.size = ops.size) (h2 : i < ops.size) : listed.getD i true = listed.getD i false := by
  rw [Array.getD_eq_getD_getElem?, Array.getD_eq_getD_getElem?, Array.getElem?_eq_getElem (by omega)]; rfl
theorem listed_set {listed : Array Bool} {i j : Nat} (h1 : listed.size = ops.size) (h2 : i < ops.size) : (listed.setIfInBounds i true).getD j false = (j == i || listed.getD j false) := by
  rw [Array.getD_eq_getD_getElem?, Array.getElem?_setIfInBounds]
  by_cases hj : i = j
  · subst hj; simp [h1, h2]
  · rw [if_neg hj]
    have : (j == i) = false := by simp; exact fun h => hj h.symm
    rw [this, Bool.false_or, Array.getD_eq_getD_getElem?]
theorem left_set {listed : Array Bool} {i : Nat} (h1 : listed.size = ops.size) (h2 : i < ops.size) (h3 : listed.getD i false = false) : left ops (listed.setIfInBounds i true) < left ops listed := by
  unfold left
  refine countP_lt (fun j _ h => ?_) ⟨i, List.mem_range.2 h2, by simp [h3], by rw [listed_set h1 h2]; simp⟩
  rw [listed_set h1 h2] at h
  simp only [Bool.not_eq_true', Bool.or_eq_false_iff] at h ⊢
  exact h.2
theorem left_pos {listed : Array Bool} {i : Nat} (h2 : i < ops.size) (h3 : listed.getD i false = false) : 0 < left ops listed :=
  List.countP_pos_iff.2 ⟨i, List.mem_range.2 h2, by simp [h3]⟩

/-- all is done -/
theorem P_end (hall : (List.range ops.size).all (fun i => pre.contains i) = true) (h : K env H) : WP S ops pre env H K := by
  intro ro n Q fuel listed a w ι hl hf s r hQ
  have hready : Region.ready .any ops listed = [] := by
    cases hr : Region.ready .any ops listed with
    | nil => rfl
    | cons i rest =>
      have hi : i ∈ Region.ready .any ops listed := by rw [hr]; exact List.mem_cons_self ..
      obtain ⟨hun, o, ho, _⟩ := mem_ready.1 hi
      have hlt := (Array.getElem?_eq_some_iff.1 ho).1
      rw [listed_size hl.1 hlt] at hun
      have := (hl.2 i hlt).2 (by simpa using List.all_eq_true.1 hall i (List.mem_range.2 hlt))
      rw [hun] at this; cases this
  have hq := hQ a w ι env H rfl (Inj.ex_refl _ _) (Nat.le_refl _) s r h
  cases fuel with
  | zero => exact ⟨hready, hq⟩
  | succ fuel => exact ⟨fun _ => hq, fun i hi => by rw [hready] at hi; cases hi⟩

/-- the one operation that may come now is a call, of which a law is known -/
theorem P_piv (p : Nat) {o : Oper} {f : VVal} {args : List VVal} {R : VVal → VHeap → Prop} (hb : befOk ops bef = true) (hp : pivB ops bef pre p = true) (ho : ops[p]? = some o) (hg : vwanted ops env o.guard = some true) (hc : calleeOf S.C.meth env.eval o.op = some (f, args)) (hu : f.isUndef = false)
    (hF : Fv S f args H R) (h : ∀ v G, R v G → WP S ops (pre ++ [p]) (env.put o.dst v) G K) : WP S ops pre env H K := by
  have E := edges_ok hb
  simp only [pivB, Bool.and_eq_true, decide_eq_true_eq, Bool.not_eq_true', List.all_eq_true, List.mem_range, Bool.or_eq_true, List.contains_iff_mem, beq_iff_eq, closedB] at hp
  obtain ⟨⟨⟨⟨hcl, hps⟩, hpn⟩, hlate⟩, hself⟩ := hp
  have hpn : p ∉ pre := by simpa using hpn
  have notP : ∀ {x : Nat} {m : Nat} {Z : Prop}, (bef.getD x 0).testBit m = true → ((bef.getD x 0).testBit m = false ∨ Z) → Z := fun h h2 => by
    rcases h2 with h2 | h2
    · rw [h] at h2; cases h2
    · exact h2
  intro ro n Q fuel listed a w ι hl hf s r hQ
  have hpl : listed.getD p false = false := by
    cases hh : listed.getD p false with
    | false => rfl
    | true => exact absurd ((hl.2 p hps).1 hh) hpn
  cases fuel with
  | zero => have := left_pos (ops := ops) hps hpl; omega
  | succ fuel =>
    refine ⟨fun hnil => ?_, fun i hi => ?_⟩
    · exfalso
      have : p ∈ Region.ready .any ops listed := by
        rw [mem_ready]
        refine ⟨by rw [listed_size hl.1 hps]; exact hpl, o, ho, fun e he hbd => ?_⟩
        obtain ⟨h1, h2⟩ := E.edge p o ho e he hbd
        exact (hl.2 _ h2).2 (notP h1 (hself e.on h2))
      rw [hnil] at this; cases this
    · obtain ⟨hun, o', ho', hall⟩ := mem_ready.1 hi
      have hlt := (Array.getElem?_eq_some_iff.1 ho').1
      rw [listed_size hl.1 hlt] at hun
      have hip : i = p := by
        have hni : i ∉ pre := fun hh => by rw [(hl.2 i hlt).2 hh] at hun; cases hun
        rcases hlate i hlt with (h1 | h1) | h1
        · exact absurd h1 hni
        · exact h1
        · obtain ⟨e, he, hbd, h2⟩ := E.back i o' ho' p h1
          have hon := (hl.2 e.on (E.edge i o' ho' e he hbd).2).1 (hall e he hbd)
          rcases h2 with h2 | h2
          · rw [h2] at hon; exact absurd hon hpn
          · exact absurd (notP h2 (hcl e.on hon p hps)) hpn
      subst hip
      have ho2 : o' = o := by rw [ho] at ho'; cases ho'; rfl
      subst ho2
      unfold wpOpIn
      rw [ho]
      refine op_call hg hc (VVal.ne_undef hu) hF s (fun x _ => rel_eval r x) (fun _ _ d _ _ => rel_slot r d) (fun x w1 ι1 v G e1 hl1 s1 r1 hR => ?_)
      refine h v G hR ro n Q fuel _ _ w1 ι1 ⟨by simp [hl.1], fun j hj => ?_⟩ (by have := left_set hl.1 hlt hpl; omega) s1 (rel_put (RelL.mono (s.le e1) _ _ r) _ r1) fun a' w' ι' env' H' d1 d2 d3 d4 d5 d6 => hQ a' w' ι' env' H' (d1.trans (put_defers _ _ _)) (Inj.ex_trans e1 d2 hl1) (by omega) d4 d5 d6
      rw [listed_set hl.1 hlt, Bool.or_eq_true, beq_iff_eq, hl.2 j hj, List.mem_append, List.mem_singleton]
      exact Or.comm

/-- a stretch of operations that comes ahead of all that is left -/
theorem P_seg (A : List Nat) (hb : befOk ops bef = true) (ht : tmpsOk ops bef = true) (hp : segB ops bef pre A = true) (h : WO S ops bef A env H [] fun env1 H1 => WP S ops (pre ++ A) env1 H1 K) : WP S ops pre env H K := by
  have E := edges_ok hb
  simp only [segB, Bool.and_eq_true, decide_eq_true_eq, Bool.not_eq_true', List.all_eq_true, List.mem_range, Bool.or_eq_true, List.contains_iff_mem, closedB] at hp
  obtain ⟨⟨⟨⟨⟨hsm, hcl⟩, hoo⟩, hA⟩, hlate⟩, hin⟩ := hp
  have hA : ∀ i, i ∈ A → i < ops.size ∧ i ∉ pre := fun i hi => ⟨(hA i hi).1, by simpa using (hA i hi).2⟩
  have notP : ∀ {x : Nat} {m : Nat} {Z : Prop}, (bef.getD x 0).testBit m = true → ((bef.getD x 0).testBit m = false ∨ Z) → Z := fun h h2 => by
    rcases h2 with h2 | h2
    · rw [h] at h2; cases h2
    · exact h2
  obtain ⟨call, hv, h⟩ := h
  obtain ⟨envF, HF, tr, hrun, hfine, hN⟩ := h [] .nil
  obtain ⟨Z, hZi, htr, hch⟩ := runOps_chain (fun i => (hv i).len) _ _ _ _ _ _ _ hrun
  simp only [List.nil_append] at htr
  subst htr
  have hord := orderOk_pw hoo
  rw [← hZi] at hord
  have okS : ∀ s, s ∈ Z → StOk S.C call ops s := fun s hs => ((chain_len hch).2.1 s hs).2
  have lt : ∀ s, s ∈ Z → s.i < ops.size := fun s hs => (Array.getElem?_eq_some_iff.1 (okS s hs).1).1
  have inA : ∀ s, s ∈ Z → s.i ∈ A := fun s hs => by rw [← hZi]; exact List.mem_map.2 ⟨s, hs, rfl⟩
  have ofA : ∀ i, i ∈ A → ∃ s, s ∈ Z ∧ s.i = i := fun i hi => by rw [← hZi] at hi; exact List.mem_map.1 hi
  have hp1 := List.pairwise_map.1 hord.1
  have hp2 := List.pairwise_map.1 (fineAll_pw hfine)
  have Rn : Run S.C call ops (fun i => bef.getD i 0) env H Z envF HF := by
    refine ⟨hch, ?_, ?_⟩
    · refine (hp1.and hp2).imp ?_
      intro x y hxy
      exact ⟨hxy.1.1, hxy.2, hxy.1.2⟩
    · intro x hx y hy hne t htt hn
      simp only [tmpsOk, List.all_eq_true, List.mem_range] at ht
      have := ht y.i (lt y hy) x.i (lt x hx)
      rw [(okS x hx).1, (okS y hy).1] at this
      simp only [Option.bind_some, htt, Bool.or_eq_true, beq_iff_eq, Bool.not_eq_true'] at this
      rcases this with h | h | h
      · exact absurd h hne
      · have : (namesOf ops y.o).contains t = true := by simpa using hn
        rw [h] at this; cases this
      · rcases Nat.lt_or_gt_of_ne hne with hlt | hlt
        · rw [Nat.max_eq_right (by omega), Nat.min_eq_left (by omega)] at h
          exact .inl h
        · rw [Nat.max_eq_left (by omega), Nat.min_eq_right (by omega)] at h
          exact .inr h
  intro ro n Q fuel listed a w ι hl hf s r hQ
  have key : ∀ (fuel : Nat) (listed : Array Bool) (a1 : Act) (w : World), listed.size = ops.size → (∀ i, i < ops.size → listed.getD i false = true → i ∈ pre ∨ i ∈ A) → (∀ i, i ∈ pre → i < ops.size → listed.getD i false = true) → left ops listed ≤ fuel →
      Inv S.w0 ι a.defers env H Z (fun i => listed.getD i false) a1 w → Cl (fun i => bef.getD i 0) Z (fun i => listed.getD i false) → wpAnyIn (WF ro) n S.P .any ops Q fuel listed a1 w := by
    intro fuel
    induction fuel with
    | zero =>
      intro listed a1 w hsz h1 h2 hcnt hI hc
      have hall : ∀ s, s ∈ Z → listed.getD s.i false = true := by
        intro s hs
        cases hh : listed.getD s.i false with
        | true => rfl
        | false => have := left_pos (ops := ops) (lt s hs) hh; omega
      obtain ⟨ι', hex, hsim, hrel, hds, _⟩ := hI
      obtain ⟨e1, e2⟩ := hp_end Rn.chain (D := fun i => listed.getD i false) hall
      rw [e1] at hsim
      rw [e2] at hrel
      exact hN ro n Q 0 listed a1 w ι' ⟨hsz, fun i hi => ⟨fun hh => List.mem_append.2 (h1 i hi hh), fun hh => by
        rcases List.mem_append.1 hh with hh | hh
        · exact h2 i hh hi
        · obtain ⟨u, hu, rfl⟩ := ofA i hh; exact hall u hu⟩⟩ hcnt hsim hrel fun a' w' ι2 env' H' d1 d2 d3 d4 d5 d6 => hQ a' w' ι2 env' H' (d1.trans hds) (Inj.ex_trans hex d2 (chain_len hch).1) (Nat.le_trans (chain_len hch).1 d3) d4 d5 d6
    | succ fuel ih =>
      intro listed a1 w hsz h1 h2 hcnt hI hc
      by_cases hall : ∀ s, s ∈ Z → listed.getD s.i false = true
      · obtain ⟨ι', hex, hsim, hrel, hds, _⟩ := hI
        obtain ⟨e1, e2⟩ := hp_end Rn.chain (D := fun i => listed.getD i false) hall
        rw [e1] at hsim
        rw [e2] at hrel
        exact hN ro n Q _ listed a1 w ι' ⟨hsz, fun i hi => ⟨fun hh => List.mem_append.2 (h1 i hi hh), fun hh => by
          rcases List.mem_append.1 hh with hh | hh
          · exact h2 i hh hi
          · obtain ⟨u, hu, rfl⟩ := ofA i hh; exact hall u hu⟩⟩ hcnt hsim hrel fun a' w' ι2 env' H' d1 d2 d3 d4 d5 d6 => hQ a' w' ι2 env' H' (d1.trans hds) (Inj.ex_trans hex d2 (chain_len hch).1) (Nat.le_trans (chain_len hch).1 d3) d4 d5 d6
      · have hex : ∃ s, s ∈ Z ∧ listed.getD s.i false = false := by
          apply Classical.byContradiction
          intro hn
          refine hall fun s hs => ?_
          cases hh : listed.getD s.i false with
          | true => rfl
          | false => exact absurd ⟨s, hs, hh⟩ hn
        refine ⟨fun hnil => ?_, fun i hi => ?_⟩
        · exfalso
          obtain ⟨B1, u, B2, hZ, hB1, hu⟩ := first_false (D := fun i => listed.getD i false) hex
          have humem : u ∈ Z := by rw [hZ]; exact List.mem_append_right _ (List.mem_cons_self ..)
          have hpw := Rn.pw
          rw [hZ] at hpw
          have hpB := (List.pairwise_cons.1 (List.pairwise_append.1 hpw).2.1).1
          have : u.i ∈ Region.ready .any ops listed := by
            rw [mem_ready]
            refine ⟨by rw [listed_size hsz (lt u humem)]; exact hu, u.o, (okS u humem).1, fun e he hbd => ?_⟩
            obtain ⟨hbit, hlt⟩ := E.edge u.i u.o (okS u humem).1 e he hbd
            rcases hin u.i (inA u humem) e.on hlt with (hx | hx) | hx
            · rw [hbit] at hx; cases hx
            · exact h2 _ hx hlt
            · obtain ⟨x, hx, hxi⟩ := ofA _ hx
              rw [hZ] at hx
              rcases List.mem_append.1 hx with hx | hx
              · rw [← hxi]; exact hB1 x hx
              · rcases List.mem_cons.1 hx with rfl | hx
                · rw [← hxi, hord.2 x.i (List.mem_map.2 ⟨x, humem, rfl⟩)] at hbit; cases hbit
                · rw [← hxi, (hpB x hx).1] at hbit; cases hbit
          rw [hnil] at this; cases this
        · obtain ⟨hun, o, ho, hedge⟩ := mem_ready.1 hi
          have hlt := (Array.getElem?_eq_some_iff.1 ho).1
          rw [listed_size hsz hlt] at hun
          have hbm : ∀ m, (bef.getD i 0).testBit m = true → m < ops.size → listed.getD m false = true := by
            intro m hm hms
            obtain ⟨e, he, hbd, h⟩ := E.back i o ho m hm
            have hon := hedge e he hbd
            have hlon := (E.edge i o ho e he hbd).2
            rcases h with rfl | h
            · exact hon
            · rcases h1 e.on hlon hon with h3 | h3
              · exact h2 m (notP h (hcl e.on h3 m hms)) hms
              · obtain ⟨x, hx, hxi⟩ := ofA _ h3
                exact hc x hx (by rw [hxi]; exact hon) m (by rw [hxi]; exact h)
          obtain ⟨u, hu, hui⟩ : ∃ u, u ∈ Z ∧ u.i = i := by
            rcases hlate i hlt with (h3 | h3) | h3
            · rw [h2 i h3 hlt] at hun; cases hun
            · exact ofA i h3
            · obtain ⟨v, hvz, hvf⟩ := hex
              rw [hbm v.i (h3 v.i (inA v hvz)) (lt v hvz)] at hvf; cases hvf
          subst hui
          have hso : u.o = o := by have := (okS u hu).1; rw [ho] at this; cases this; rfl
          subst hso
          have hball : ∀ m, (bef.getD u.i 0).testBit m = true → listed.getD m false = true := fun m hm => hbm m hm (by
            apply Classical.byContradiction
            intro hge
            rw [Nat.testBit_lt_two_pow (Nat.lt_of_lt_of_le (hsm u.i hlt) (Nat.pow_le_pow_right (by omega) (Nat.le_of_not_lt hge)))] at hm
            cases hm)
          have hfun : (fun i => (listed.setIfInBounds u.i true).getD i false) = mark (fun i => listed.getD i false) u.i := funext fun j => listed_set hsz hlt
          unfold wpOpIn
          rw [ho]
          refine draw_step S.ok hv Rn hI hc hu hun hball (fun a' w' hI' => ?_)
          refine ih _ a' w' (by simp [hsz]) (fun j hj hjl => ?_) (fun j hj hjs => ?_) (by have := left_set hsz hlt hun; omega) (by rw [hfun]; exact hI') ?_
          · rw [listed_set hsz hlt, Bool.or_eq_true, beq_iff_eq] at hjl
            rcases hjl with rfl | hjl
            · exact .inr (inA u hu)
            · exact h1 j hj hjl
          · rw [listed_set hsz hlt, h2 j hj hjs, Bool.or_true]
          · rw [hfun]
            intro v hvz hDv m hm
            by_cases hvi : v.i = u.i
            · simp only [hvi] at hm
              simp [mark, hball m hm]
            · have h0 : listed.getD v.i false = true := by
                simp only [mark, Bool.or_eq_true, beq_iff_eq] at hDv
                rcases hDv with h | h
                · exact absurd h hvi
                · exact h
              have := hc v hvz h0 m hm
              simp only at this
              simp [mark, this]
  have hD0 : ∀ u, u ∈ Z → listed.getD u.i false = false := by
    intro u hu
    cases hh : listed.getD u.i false with
    | false => rfl
    | true => exact absurd ((hl.2 u.i (lt u hu)).1 hh) (hA u.i (inA u hu)).2
  refine key fuel listed a w hl.1 (fun i hi hh => .inl ((hl.2 i hi).1 hh)) (fun i hi his => (hl.2 i his).2 hi) hf ?_ ?_
  · obtain ⟨X, hX⟩ := hp_ext S.ok.tys (D := fun i => listed.getD i false) hch (fun u hu _ => hD0 u hu)
    refine ⟨ι, Inj.ex_refl _ _, ?_, ?_, rfl, ?_⟩
    · rw [hX]; exact s.extend X
    · have : ∀ (T : List St) (e : VEnv), (∀ u, u ∈ T → listed.getD u.i false = false) → ev (fun i => listed.getD i false) T e = e := by
        intro T
        induction T with
        | nil => intro e _; rfl
        | cons u T ih =>
          intro e hT
          unfold ev
          rw [if_neg (by rw [hT u (List.mem_cons_self ..)]; simp)]
          exact ih e fun v hv => hT v (List.mem_cons_of_mem _ hv)
      rw [this Z env hD0]; exact r
    · intro u hu _ id hid
      cases hx : ι id with
      | none => rfl
      | some e =>
        have h1 := s.dom id e hx
        have h2 := ((chain_len hch).2.1 u hu).1
        rcases st_cases (okS u hu) with ⟨_, _, _, e⟩ | ⟨_, _, _, _, e⟩ | ⟨_, _, _, _, e⟩ | ⟨_, _, _, _, e⟩ | e <;> rw [e] at hid <;> cases hid
        omega
  · intro u hu hD
    have hD : listed.getD u.i false = true := hD
    rw [hD0 u hu] at hD; cases hD

/-- a region that draws its order, by stretches and calls between them -/
theorem B_drawP {H0 : VHeap} {rd : Option Nat} {id : Nat} {Q : Post} (bef : Array Nat) (hb : Region.before ops = bef) (h : WP S ops [] env H fun env H => Q .normal env H) : B S H0 rd (.region id ops true) env H Q := by
  intro ro n D0 a w ι g1 g2 g3 g4 g5 g6
  refine wpIn_region_any S.ok.mixed ?_
  refine h ro n _ ops.size (Array.replicate ops.size false) a _ ι ⟨by simp, fun i hi => ?_⟩ ?_ (Sim.drew g4) g5 fun a' w' ι' env' H' d1 d2 d3 d4 d5 d6 => ⟨ι', env', H', d2.go g3, by omega, d4, d5, by rw [d1]; exact g6.df d2.2.2, d6⟩
  · simp [Array.getD_eq_getD_getElem?, hi]
  · exact Nat.le_trans List.countP_le_length (by simp)
end
end Go.V
