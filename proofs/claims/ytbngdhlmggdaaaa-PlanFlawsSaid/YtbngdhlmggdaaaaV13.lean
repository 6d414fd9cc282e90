/- Regions whose order Go leaves open: the whole region. -/
import Derived.Test.YtbngdhlmggdaaaaV12
set_option autoImplicit false
set_option linter.unusedVariables false
set_option linter.unusedSimpArgs false
namespace Go.V
open Go Go.RowKit

section
variable {P : Program} {w0 : World}

theorem first_false {D : Nat → Bool} : ∀ {S : List St}, (∃ s, s ∈ S ∧ D s.i = false) → ∃ A s B, S = A ++ s :: B ∧ (∀ u, u ∈ A → D u.i = true) ∧ D s.i = false
  | [], h => by obtain ⟨s, hs, _⟩ := h; cases hs
  | x :: S, h => by
    cases hx : D x.i with
    | false => exact ⟨[], x, S, rfl, by simp, hx⟩
    | true =>
      obtain ⟨s, hs, hD⟩ := h
      rcases List.mem_cons.1 hs with rfl | hs
      · rw [hx] at hD; cases hD
      · obtain ⟨A, s, B, e, f, g⟩ := first_false ⟨s, hs, hD⟩
        refine ⟨x :: A, s, B, by rw [e]; rfl, fun u hu => ?_, g⟩
        rcases List.mem_cons.1 hu with rfl | hu
        · exact hx
        · exact f u hu

theorem count_le {p q : St → Bool} : ∀ {S : List St}, (∀ s, s ∈ S → p s = true → q s = true) → S.countP p ≤ S.countP q
  | [], _ => Nat.le_refl _
  | x :: S, h => by
    have := count_le (fun s hs => h s (List.mem_cons_of_mem _ hs))
    rw [List.countP_cons, List.countP_cons]
    by_cases hp : p x = true
    · rw [if_pos hp, if_pos (h x (List.mem_cons_self ..) hp)]; omega
    · rw [if_neg hp]; omega

theorem count_lt {p q : St → Bool} : ∀ {S : List St}, (∀ s, s ∈ S → p s = true → q s = true) → (∃ s, s ∈ S ∧ p s = false ∧ q s = true) → S.countP p < S.countP q
  | [], _, h => by obtain ⟨s, hs, _⟩ := h; cases hs
  | x :: S, h, hx => by
    obtain ⟨s, hs, h1, h2⟩ := hx
    rw [List.countP_cons, List.countP_cons]
    rcases List.mem_cons.1 hs with rfl | hs
    · have := count_le (fun s hs => h s (List.mem_cons_of_mem _ hs))
      rw [if_neg (by simp [h1]), if_pos h2]; omega
    · have := count_lt (fun s hs => h s (List.mem_cons_of_mem _ hs)) ⟨s, hs, h1, h2⟩
      by_cases hp : p x = true
      · rw [if_pos hp, if_pos (h x (List.mem_cons_self ..) hp)]; omega
      · rw [if_neg hp]; omega

structure Edges (ops : Array Oper) (bef : Nat → Nat) (S : List St) : Prop where
  all : ∀ i, i < ops.size → ∃ s, s ∈ S ∧ s.i = i
  edge : ∀ s, s ∈ S → ∀ e, e ∈ s.o.after → Region.binds .any e = true → (bef s.i).testBit e.on = true ∧ e.on < ops.size
  back : ∀ s, s ∈ S → ∀ m, (bef s.i).testBit m = true → ∃ e, e ∈ s.o.after ∧ Region.binds .any e = true ∧ (e.on = m ∨ (bef e.on).testBit m = true)
  self : ∀ s, s ∈ S → (bef s.i).testBit s.i = false

theorem draw_all {C : Cfg} (hC : CfgOk P C w0) {call : Nat → Caller} (hv : ∀ i, CallSound P w0 (call i)) {ops : Array Oper} {bef : Nat → Nat} {env0 : VEnv} {H0 : VHeap} {S : List St} {envF : VEnv} {HF : VHeap} (R : Run C call ops bef env0 H0 S envF HF)
    (E : Edges ops bef S) {ι0 : Inj} {ds : List Deferred} {ro : Option Nat} {n : Nat} {Q : Exit → Act → World → Prop}
    (hQ : ∀ a' w' ι', a'.defers = ds → Inj.ex H0.length ι0 ι' → Sim w0 ι' HF w' → RelL ι' envF a'.tmps.toList → Q .normal a' w') :
    ∀ (fuel : Nat) (listed : Array Bool) (a : Act) (w : World), listed.size = ops.size → S.countP (fun s => !listed.getD s.i false) ≤ fuel → Inv w0 ι0 ds env0 H0 S (fun i => listed.getD i false) a w → Cl bef S (fun i => listed.getD i false) →
      wpAnyIn (WF ro) n P .any ops Q fuel listed a w := by
  have okS : ∀ s, s ∈ S → StOk C call ops s := fun s hs => ((chain_len R.chain).2.1 s hs).2
  have done : ∀ (listed : Array Bool) (a : Act) (w : World), (∀ s, s ∈ S → listed.getD s.i false = true) → Inv w0 ι0 ds env0 H0 S (fun i => listed.getD i false) a w → Q .normal a w := by
    intro listed a w hall hI
    obtain ⟨ι, hex, hsim, hrel, hds, _⟩ := hI
    obtain ⟨e1, e2⟩ := hp_end R.chain (D := fun i => listed.getD i false) hall
    rw [e1] at hsim
    rw [e2] at hrel
    exact hQ a w ι hds hex hsim hrel
  have sz : ∀ {listed : Array Bool} {i : Nat}, listed.size = ops.size → i < ops.size → listed.getD i true = listed.getD i false := by
    intro listed i h1 h2
    rw [Array.getD_eq_getD_getElem?, Array.getD_eq_getD_getElem?, Array.getElem?_eq_getElem (by omega)]; rfl
  have lt : ∀ s, s ∈ S → s.i < ops.size := fun s hs => (Array.getElem?_eq_some_iff.1 (okS s hs).1).1
  have nil_all : ∀ (listed : Array Bool), listed.size = ops.size → Region.ready .any ops listed = [] → ∀ s, s ∈ S → listed.getD s.i false = true := by
    intro listed hsz hnil s hs
    cases hD : listed.getD s.i false with
    | true => rfl
    | false =>
      exfalso
      obtain ⟨A, u, B, rfl, hA, hu⟩ := first_false (D := fun i => listed.getD i false) ⟨s, hs, hD⟩
      have humem : u ∈ A ++ u :: B := List.mem_append_right _ (List.mem_cons_self ..)
      have hpw := List.pairwise_append.1 R.pw
      have hpB := (List.pairwise_cons.1 hpw.2.1).1
      have : u.i ∈ Region.ready .any ops listed := by
        rw [mem_ready]
        refine ⟨by rw [sz hsz (lt u humem)]; exact hu, u.o, (okS u humem).1, fun e he hb => ?_⟩
        obtain ⟨hbit, hlt⟩ := E.edge u humem e he hb
        obtain ⟨x, hx, hxi⟩ := E.all e.on hlt
        rcases List.mem_append.1 hx with hx | hx
        · rw [← hxi]; exact hA x hx
        · rcases List.mem_cons.1 hx with rfl | hx
          · rw [← hxi, E.self x humem] at hbit; cases hbit
          · rw [← hxi, (hpB x hx).1] at hbit; cases hbit
      rw [hnil] at this; cases this
  intro fuel
  induction fuel with
  | zero =>
    intro listed a w hsz hcnt hI hcl
    have hall : ∀ s, s ∈ S → listed.getD s.i false = true := by
      intro s hs
      have h0 : S.countP (fun s => !listed.getD s.i false) = 0 := by omega
      have := List.countP_eq_zero.1 h0 s hs
      simpa using this
    refine ⟨?_, done listed a w hall hI⟩
    cases hr : Region.ready .any ops listed with
    | nil => rfl
    | cons i rest =>
      have hi : i ∈ Region.ready .any ops listed := by rw [hr]; exact List.mem_cons_self ..
      obtain ⟨hun, o, ho, _⟩ := mem_ready.1 hi
      obtain ⟨s, hs, hsi⟩ := E.all i (Array.getElem?_eq_some_iff.1 ho).1
      have := hall s hs
      rw [hsi, ← sz hsz (Array.getElem?_eq_some_iff.1 ho).1, hun] at this
      cases this
  | succ fuel ih =>
    intro listed a w hsz hcnt hI hcl
    refine ⟨fun hnil => done listed a w (nil_all listed hsz hnil) hI, fun i hi => ?_⟩
    obtain ⟨hun, o, ho, hall⟩ := mem_ready.1 hi
    have hlt := (Array.getElem?_eq_some_iff.1 ho).1
    obtain ⟨s, hs, hsi⟩ := E.all i hlt
    subst hsi
    have hso : s.o = o := by have := (okS s hs).1; rw [ho] at this; cases this; rfl
    subst hso
    have hDs : listed.getD s.i false = false := by rw [← sz hsz hlt]; exact hun
    have hb : ∀ m, (bef s.i).testBit m = true → listed.getD m false = true := by
      intro m hm
      obtain ⟨e, he, hbd, h⟩ := E.back s hs m hm
      have hon := hall e he hbd
      rcases h with rfl | h
      · exact hon
      · obtain ⟨x, hx, hxi⟩ := E.all e.on (E.edge s hs e he hbd).2
        exact hcl x hx (by rw [hxi]; exact hon) m (by rw [hxi]; exact h)
    have hmark : ∀ j, (listed.setIfInBounds s.i true).getD j false = mark (fun i => listed.getD i false) s.i j := by
      intro j
      rw [Array.getD_eq_getD_getElem?, Array.getElem?_setIfInBounds]
      simp only [mark]
      by_cases hj : s.i = j
      · subst hj; simp [hsz, hlt]
      · rw [if_neg hj]
        have : (j == s.i) = false := by simp; exact fun h => hj h.symm
        rw [this, Bool.false_or, Array.getD_eq_getD_getElem?]
    unfold wpOpIn
    rw [ho]
    refine draw_step hC hv R hI hcl hs hDs hb (fun a' w' hI' => ?_)
    have hfun : (fun i => (listed.setIfInBounds s.i true).getD i false) = mark (fun i => listed.getD i false) s.i := funext hmark
    refine ih _ a' w' (by simp [hsz]) ?_ (by rw [hfun]; exact hI') ?_
    · have : S.countP (fun u => !(listed.setIfInBounds s.i true).getD u.i false) < S.countP (fun u => !listed.getD u.i false) := by
        refine count_lt (fun u hu h => ?_) ⟨s, hs, by rw [hmark]; simp [mark], by simp [hDs]⟩
        rw [hmark] at h
        simp only [mark, Bool.not_eq_true', Bool.or_eq_false_iff] at h ⊢
        exact h.2
      omega
    · rw [hfun]
      intro u hu hDu m hm
      by_cases hui : u.i = s.i
      · rw [hui] at hm
        have := hb m hm
        simp [mark, this]
      · have h0 : listed.getD u.i false = true := by
          simp only [mark, Bool.or_eq_true, beq_iff_eq] at hDu
          rcases hDu with h | h
          · exact absurd h hui
          · exact h
        have := hcl u hu h0 m hm
        simp only at this
        simp [mark, this]

theorem fineAll_pw {bef : Array Nat} : ∀ {l : List (Nat × Item')}, fineAll bef l → l.Pairwise fun x y => (bef.getD y.1 0).testBit x.1 = false → fine x.2 y.2
  | [], _ => .nil
  | x :: l, h => .cons (fun y hy => h.1 y hy) (fineAll_pw h.2)

theorem orderOk_pw {bef : Array Nat} : ∀ {l : List Nat}, orderOk bef l = true → (l.Pairwise fun x y => (bef.getD x 0).testBit y = false ∧ x ≠ y) ∧ ∀ x, x ∈ l → (bef.getD x 0).testBit x = false
  | [], _ => ⟨.nil, by simp⟩
  | x :: l, h => by
    simp only [orderOk, Bool.and_eq_true, List.all_eq_true, Bool.not_eq_true'] at h
    obtain ⟨⟨⟨h1, h2⟩, h3⟩, h4⟩ := h
    obtain ⟨i1, i2⟩ := orderOk_pw h4
    refine ⟨.cons (fun y hy => ⟨h1 y hy, fun e => ?_⟩) i1, fun y hy => ?_⟩
    · subst e
      have : l.contains x = true := by simpa using hy
      rw [h3] at this; cases this
    · rcases List.mem_cons.1 hy with rfl | hy
      · exact h2
      · exact i2 y hy

theorem fold_bits (bef : Array Nat) (m : Nat) : ∀ (l : List Edge) (s : Nat),
    (l.foldl (fun s e => if Region.binds .any e then s ||| 2 ^ e.on ||| bef.getD e.on 0 else s) s).testBit m = true ↔ s.testBit m = true ∨ ∃ e, e ∈ l ∧ Region.binds .any e = true ∧ (e.on = m ∨ (bef.getD e.on 0).testBit m = true)
  | [], s => by simp
  | e :: l, s => by
    rw [List.foldl_cons, fold_bits bef m l]
    by_cases hb : Region.binds .any e = true
    · rw [if_pos hb]
      simp only [Nat.testBit_or, Bool.or_eq_true, Nat.testBit_two_pow, decide_eq_true_eq]
      constructor
      · rintro (((h | h) | h) | ⟨e', he', h⟩)
        · exact .inl h
        · exact .inr ⟨e, List.mem_cons_self .., hb, .inl h⟩
        · exact .inr ⟨e, List.mem_cons_self .., hb, .inr h⟩
        · exact .inr ⟨e', List.mem_cons_of_mem _ he', h⟩
      · rintro (h | ⟨e', he', hb', h⟩)
        · exact .inl (.inl (.inl h))
        · rcases List.mem_cons.1 he' with rfl | he'
          · rcases h with h | h
            · exact .inl (.inl (.inr h))
            · exact .inl (.inr h)
          · exact .inr ⟨e', he', hb', h⟩
    · rw [if_neg hb]
      constructor
      · rintro (h | ⟨e', he', h⟩)
        · exact .inl h
        · exact .inr ⟨e', List.mem_cons_of_mem _ he', h⟩
      · rintro (h | ⟨e', he', hb', h⟩)
        · exact .inl h
        · rcases List.mem_cons.1 he' with rfl | he'
          · exact absurd hb' hb
          · exact .inr ⟨e', he', hb', h⟩

theorem nodup_le : ∀ (n : Nat) (l : List Nat), l.Nodup → (∀ x, x ∈ l → x < n) → l.length ≤ n
  | 0, [], _, _ => Nat.le_refl _
  | 0, x :: l, _, h => absurd (h x (List.mem_cons_self ..)) (by omega)
  | n + 1, l, hd, h => by
    by_cases hn : n ∈ l
    · have h1 := nodup_le n (l.erase n) (hd.erase n) (fun x hx => by
        have := (List.Nodup.mem_erase_iff hd).1 hx
        have := h x this.2
        omega)
      rw [List.length_erase_of_mem hn] at h1
      omega
    · have := nodup_le n l hd (fun x hx => by
        have h1 := h x hx
        have : x ≠ n := fun e => hn (e ▸ hx)
        omega)
      omega

/-- A REGION THAT DRAWS ITS ORDER. -/
theorem region_draw {C : Cfg} (hC : CfgOk P C w0) {call : Nat → Caller} (hv : ∀ i, CallSound P w0 (call i)) {ops : Array Oper} {id : Nat} {ro : Option Nat} {n : Nat} {Q : Exit → Act → World → Prop} {env : VEnv} {H : VHeap} {env' : VEnv} {H' : VHeap} {tr : List (Nat × Item')}
    {w : World} {ι : Inj} {a : Act} (h : runOps C.T C.meth call ops (canon C.T ops) env H [] = some (env', H', tr)) (hd : drawOk C.T ops = true) (hf : fineAll (Region.before ops) tr) (s : Sim w0 ι H w) (r : RelL ι env a.tmps.toList)
    (hQ : ∀ a' w' ι', a'.defers = a.defers → Inj.ex H.length ι ι' → Sim w0 ι' H' w' → RelL ι' env' a'.tmps.toList → Q .normal a' w') : (Code.region id ops true).wpIn (WF ro) n P Q a w := by
  obtain ⟨S, hSi, htr, hch⟩ := runOps_chain (fun i => (hv i).len) _ _ _ _ _ _ _ h
  simp only [List.nil_append] at htr
  subst htr
  simp only [drawOk, Bool.and_eq_true] at hd
  obtain ⟨⟨⟨hbo, htm⟩, hoo⟩, hco⟩ := hd
  have hord := orderOk_pw hoo
  rw [← hSi] at hord
  have okS : ∀ s, s ∈ S → StOk C call ops s := fun s hs => ((chain_len hch).2.1 s hs).2
  have lt : ∀ s, s ∈ S → s.i < ops.size := fun s hs => (Array.getElem?_eq_some_iff.1 (okS s hs).1).1
  have hp1 := List.pairwise_map.1 hord.1
  have hp2 := List.pairwise_map.1 (fineAll_pw hf)
  have R : Run C call ops (fun i => (Region.before ops).getD i 0) env H S env' H' := by
    refine ⟨hch, ?_, ?_⟩
    · refine (hp1.and hp2).imp ?_
      intro x y hxy
      exact ⟨hxy.1.1, hxy.2, hxy.1.2⟩
    · intro x hx y hy hne t ht hn
      simp only [tmpsOk, List.all_eq_true, List.mem_range] at htm
      have := htm y.i (lt y hy) x.i (lt x hx)
      rw [(okS x hx).1, (okS y hy).1] at this
      simp only [Option.bind_some, ht, Bool.or_eq_true, beq_iff_eq, Bool.not_eq_true'] at this
      rcases this with h | h | h
      · exact absurd h hne
      · have : (namesOf ops y.o).contains t = true := by simpa using hn
        rw [h] at this; cases this
      · rcases Nat.lt_or_gt_of_ne hne with hlt | hlt
        · rw [Nat.max_eq_right (by omega), Nat.min_eq_left (by omega)] at h
          exact .inl h
        · rw [Nat.max_eq_left (by omega), Nat.min_eq_right (by omega)] at h
          exact .inr h
  have hbe : ∀ s, s ∈ S → (Region.before ops).getD s.i 0 = s.o.after.toList.foldl (fun x e => if Region.binds .any e then x ||| 2 ^ e.on ||| (Region.before ops).getD e.on 0 else x) 0 ∧ ∀ e, e ∈ s.o.after → Region.binds .any e = true → e.on < ops.size := by
    intro s hs
    simp only [befOk, List.all_eq_true, List.mem_range] at hbo
    have := hbo s.i (lt s hs)
    rw [(okS s hs).1] at this
    simp only [Bool.and_eq_true, beq_iff_eq, List.all_eq_true, Bool.or_eq_true, Bool.not_eq_true', decide_eq_true_eq] at this
    refine ⟨this.1, fun e he hb => ?_⟩
    rcases this.2 e (by simpa using he) with h | h
    · rw [hb] at h; cases h
    · exact h
  have E : Edges ops (fun i => (Region.before ops).getD i 0) S := by
    refine ⟨fun i hi => ?_, fun s hs e he hb => ⟨?_, (hbe s hs).2 e he hb⟩, fun s hs m hm => ?_, fun s hs => ?_⟩
    · simp only [List.all_eq_true, List.mem_range] at hco
      have := hco i hi
      rw [← hSi] at this
      simp only [List.contains_iff_mem, List.mem_map] at this
      exact this
    · rw [(hbe s hs).1, fold_bits]
      exact .inr ⟨e, by simpa using he, hb, .inl rfl⟩
    · rw [(hbe s hs).1, fold_bits] at hm
      rcases hm with h | ⟨e, he, hb, h⟩
      · simp at h
      · exact ⟨e, by simpa using he, hb, h⟩
    · exact hord.2 s.i (List.mem_map.2 ⟨s, hs, rfl⟩)
  refine wpIn_region_any hC.mixed (draw_all hC hv R E (ι0 := ι) (ds := a.defers) (fun a' w' ι' h1 h2 h3 h4 => hQ a' w' ι' h1 h2 h3 h4) ops.size (Array.replicate ops.size false) a _ (by simp) ?_ ?_ ?_)
  · have hl : S.length ≤ ops.size := by
      have hnd : (S.map (·.i)).Nodup := hord.1.imp (fun h => h.2)
      have hsub : (S.map (·.i)) ⊆ List.range ops.size := by
        intro i hi
        obtain ⟨s, hs, rfl⟩ := List.mem_map.1 hi
        exact List.mem_range.2 (lt s hs)
      have := nodup_le ops.size _ hnd (fun x hx => List.mem_range.1 (hsub hx))
      simpa using this
    exact Nat.le_trans List.countP_le_length hl
  · have hfalse : ∀ i, (Array.replicate ops.size false).getD i false = false := fun i => by
      rw [Array.getD_eq_getD_getElem?, Array.getElem?_replicate]; split <;> rfl
    obtain ⟨X, hX⟩ := hp_ext hC.tys (D := fun i => (Array.replicate ops.size false).getD i false) hch (fun u _ _ => hfalse _)
    refine ⟨ι, Inj.ex_refl _ _, ?_, ?_, rfl, ?_⟩
    · rw [hX]; exact Sim.drew (s.extend X)
    · have : ∀ (T : List St) (e : VEnv), ev (fun i => (Array.replicate ops.size false).getD i false) T e = e := by
        intro T
        induction T with
        | nil => intro e; rfl
        | cons u T ih =>
          intro e
          unfold ev
          rw [if_neg (by rw [hfalse]; simp)]
          exact ih e
      rw [this]; exact r
    · intro u hu _ id hid
      cases hx : ι id with
      | none => rfl
      | some e =>
        have h1 := s.dom id e hx
        have h2 := ((chain_len hch).2.1 u hu).1
        rcases st_cases (okS u hu) with ⟨_, _, _, e⟩ | ⟨_, _, _, _, e⟩ | ⟨_, _, _, _, e⟩ | ⟨_, _, _, _, e⟩ | e <;> rw [e] at hid <;> cases hid
        omega
  · intro u _ hD
    simp [Array.getD_eq_getD_getElem?, Array.getElem?_replicate] at hD
    split at hD <;> simp at hD
end
end Go.V
