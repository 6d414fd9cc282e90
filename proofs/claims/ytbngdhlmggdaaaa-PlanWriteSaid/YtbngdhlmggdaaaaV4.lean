/- Operations, second part: slices, checks; every calm operation; every look. -/
import Derived.Test.YtbngdhlmggdaaaaV3
set_option autoImplicit false
set_option linter.unusedVariables false
set_option linter.unusedSimpArgs false
namespace Go.V
open Go Go.RowKit
section
variable {P : Program} {T : TypeId → Option VTy}

theorem sliceBound_run {k : IntKind} {n : Int} {y : Nat} {code : BoundsCode} (w : World) (h : 0 ≤ n ∧ n ≤ y) : (Instr.sliceBound (.int k n) y code).run P w = .ok n.toNat w := by
  simp [Instr.sliceBound, asIntOf, h.1, h.2]

/-- a bound that is told, or none -/
theorem bound_cases {v : Option VVal} {d y r : Nat} (h : (match v with | none => some d | some (.int _ i) => if 0 ≤ i ∧ i ≤ (y : Int) then some i.toNat else none | some _ => none) = some r) :
    (v = none ∧ r = d) ∨ ∃ k n, v = some (VVal.int k n) ∧ 0 ≤ n ∧ n ≤ (y : Int) ∧ r = n.toNat := by
  split at h
  · cases h; exact .inl ⟨rfl, rfl⟩
  · split at h
    · rename_i k n hc; cases h; exact .inr ⟨k, n, rfl, hc.1, hc.2, rfl⟩
    · cases h
  · cases h

inductive ORel (ι : Inj) : Option VVal → Option Value → Prop
  | no : ORel ι none none
  | so {v : VVal} {x : Value} : Rel ι v x → ORel ι (some v) (some x)

theorem ORel.int {ι : Inj} {k : IntKind} {n : Int} {o : Option Value} (h : ORel ι (some (VVal.int k n)) o) : o = some (.int k n) := by
  cases h with
  | so r => simp only [Rel] at r; rw [r]

theorem ORel.nil {ι : Inj} {o : Option Value} (h : ORel ι none o) : o = none := by cases h; rfl

/-- the bounds against the real capacity: where the capacity that is known of is the real one, or there is no third index -/
theorem vbounds_run {ι : Inj} {isSlice : Bool} {len cap cap' : Nat} {lo hi mx : Option VVal} {lo' hi' mx' : Option Value} {l h m : Nat} (w : World)
    (hb : vbounds len cap lo hi mx = some (l, h, m)) (r1 : ORel ι lo lo') (r2 : ORel ι hi hi') (r3 : ORel ι mx mx') (hc : cap ≤ cap') (hn : ¬ (mx.isSome = true ∧ hi.isNone = true)) (hl : len ≤ cap) :
    (Instr.sliceBounds isSlice len cap' lo' hi' mx').run P w = .ok (l, h, if mx.isSome = true then m else cap') w ∧ l ≤ h ∧ h ≤ m ∧ m ≤ cap ∧ (mx.isSome = false → m = cap) := by
  unfold vbounds at hb
  simp only at hb
  split at hb
  · cases hb
  · rename_i m0 hm0
    split at hb
    · cases hb
    · rename_i h0 hh0
      split at hb
      · cases hb
      · rename_i l0 hl0
        simp only [Option.some.injEq, Prod.mk.injEq] at hb
        obtain ⟨rfl, rfl, rfl⟩ := hb
        rcases bound_cases hm0 with ⟨rfl, rfl⟩ | ⟨k3, n3, rfl, a3, b3, rfl⟩ <;>
          rcases bound_cases hh0 with ⟨rfl, rfl⟩ | ⟨k2, n2, rfl, a2, b2, rfl⟩ <;>
            rcases bound_cases hl0 with ⟨rfl, rfl⟩ | ⟨k1, n1, rfl, a1, b1, rfl⟩ <;>
              (first | (have e3 := r3.nil; subst e3) | (have e3 := r3.int; subst e3)) <;>
              (first | (have e2 := r2.nil; subst e2) | (have e2 := r2.int; subst e2)) <;>
              (first | (have e1 := r1.nil; subst e1) | (have e1 := r1.int; subst e1))
        all_goals first
          | exact absurd ⟨rfl, rfl⟩ hn
          | (refine ⟨?_, by omega, by omega, by omega, by simp⟩
             cases isSlice <;> simp [Instr.sliceBounds, sliceBound_run, *] <;>
             (repeat first | rw [sliceBound_run w ⟨by omega, by omega⟩] | simp))


theorem vslice_run (hT : TOk P T) {ι : Inj} {t : TypeId} {x v : VVal} {x' : Value} {lo hi mx : Option VVal} {lo' hi' mx' : Option Value} (w : World)
    (h : vslice T t x lo hi mx = some v) (hx : Rel ι x x') (r1 : ORel ι lo lo') (r2 : ORel ι hi hi') (r3 : ORel ι mx mx') : ∃ z, (Instr.sliceAt t x' lo' hi' mx').run P w = .ok z w ∧ Rel ι v z := by
  unfold vslice at h
  split at h
  · cases h
  · rename_i y hy
    have ht := hT t y hy
    split at h
    · rename_i s hd
      have hu := ht.und; rw [hd] at hu
      simp only [Rel] at hx; subst hx
      split at h
      · rename_i l hh m hb
        cases h
        obtain ⟨a, _⟩ := vbounds_run (P := P) (isSlice := false) (cap' := s.size) w hb r1 r2 .no (Nat.le_refl _) (by simp) (Nat.le_refl _)
        have e3 := r3.nil; subst e3
        refine ⟨.string (s.extract l hh), ?_, by simp [Rel]⟩
        simp [Instr.sliceAt, Instr.slice, run_underlying hu, a]
      · cases h
    · rename_i e a len cap ex es hd
      have hu := ht.und; rw [hd] at hu
      split at h
      · rename_i z l hh m hz hb hn
        split at h
        · cases h
        · rename_i hlc
          have hlc : len ≤ cap := Nat.le_of_not_lt (fun q => hlc (by omega))
          have hn' : ¬ (mx.isSome = true ∧ hi.isNone = true) := by
            rintro ⟨p, q⟩; simp [p, q] at hn
          simp only [Option.map_eq_some_iff] at hz
          obtain ⟨ze, hze, rfl⟩ := hz
          have hsz := (hT _ _ hze).run_size
          split at h
          · cases h
            simp only [Rel] at hx
            obtain ⟨rfl, rfl, hx⟩ := hx
            by_cases hex : ex = true
            · subst hex
              rw [if_pos rfl] at hx; subst hx
              obtain ⟨a, b, c, d, _⟩ := vbounds_run (P := P) (isSlice := true) (cap' := 0) w hb r1 r2 r3 (Nat.le_refl _) hn' hlc
              have hl0 : l = 0 := by omega
              have hh0 : hh = 0 := by omega
              have hm0 : m = 0 := by omega
              subst hl0; subst hh0; subst hm0
              refine ⟨.slice none 0 0, ?_, by simp [Rel]⟩
              simp [Instr.sliceAt, Instr.slice, run_underlying hu, a, hsz]
            · rw [if_neg hex] at hx
              obtain ⟨ad, c, rfl⟩ := hx
              obtain ⟨a, b, cc, d, _⟩ := vbounds_run (P := P) (isSlice := true) (cap' := c) w hb r1 r2 r3 (by omega) hn' hlc
              have hl0 : l = 0 := by omega
              have hh0 : hh = 0 := by omega
              have hm0 : m = 0 := by omega
              subst hl0; subst hh0; subst hm0
              refine ⟨.slice (some ad) 0 (if mx.isSome = true then 0 else c), ?_, ?_⟩
              · simp [Instr.sliceAt, Instr.slice, run_underlying hu, a, hsz, Addr.add]
              · simp only [Rel]; exact ⟨trivial, trivial, by rw [if_neg hex]; exact ⟨_, _, rfl⟩⟩
          · rename_i b off
            simp only [Rel] at hx
            obtain ⟨en, c, hen, hcc, hcx, hlim, rfl⟩ := hx
            obtain ⟨a, p, q, r, s⟩ := vbounds_run (P := P) (isSlice := true) (cap' := c) w hb r1 r2 r3 hcc hn' hlc
            generalize hm' : (if mx.isSome = true then m else c) = m' at a
            have hmm : m ≤ m' ∧ m' ≤ c ∧ ((ex || mx.isSome) = true → m' = m) := by
              by_cases hmx : mx.isSome = true
              · rw [if_pos hmx] at hm'; subst hm'; exact ⟨Nat.le_refl _, by omega, fun _ => rfl⟩
              · rw [if_neg hmx] at hm'; subst hm'
                have hmc := s (by simpa using hmx)
                refine ⟨by omega, Nat.le_refl _, fun hh => ?_⟩
                have : ex = true := by simpa [hmx] using hh
                rw [hmc]; exact hcx this
            have hrun : (Instr.sliceAt t (.slice (some ⟨en.r, en.sh + off, none⟩) len c) lo' hi' mx').run P w =
                .ok (.slice (some (if m' = l then ⟨en.r, en.sh + off, none⟩ else (⟨en.r, en.sh + off, none⟩ : Addr).add (l * ze.size))) (hh - l) (m' - l)) w := by
              simp [Instr.sliceAt, Instr.slice, run_underlying hu, a, hsz]
              split <;> rfl
            have hmul : ∀ L, en.lim = some L → off + l * es + (m' - l) * es ≤ L := by
              intro L hL
              have h1 := hlim L hL
              have h2 : l * es + (m' - l) * es = m' * es := by rw [← Nat.add_mul]; congr 1; omega
              have h3 : m' * es ≤ c * es := Nat.mul_le_mul_right _ hmm.2.1
              omega
            refine ⟨_, hrun, ?_⟩
            split at h
            · rename_i hc1
              obtain ⟨hes, hc1⟩ := hc1
              cases h
              simp only [Rel]
              refine ⟨en, m' - l, hen, by omega, fun hh' => by have := hmm.2.2 hh'; omega, hmul, ?_⟩
              rcases hc1 with hlt | ⟨h0, h1⟩
              · rw [if_neg (by omega), Addr.add_lit, hes, Nat.add_assoc]
              · subst h0
                by_cases hm0 : m' = 0
                · rw [if_pos hm0]; simp
                · rw [if_neg hm0, Addr.add_lit]; simp
            · split at h
              · rename_i hc1
                obtain ⟨hes, hlm, hhl⟩ := hc1
                split at h
                · rename_i hxx
                  cases h
                  have := hmm.2.2 hxx
                  simp only [Rel]
                  refine ⟨en, 0, hen, Nat.le_refl _, fun _ => rfl, fun L hL => by have := hlim L hL; omega, ?_⟩
                  rw [if_pos (by omega)]
                  congr 1 <;> omega
                · cases h
                  simp only [Rel]
                  refine ⟨trivial, trivial, ?_⟩
                  rw [if_neg (by simp)]
                  exact ⟨_, _, by congr 1; omega⟩
              · cases h
      · cases h
    · rename_i e cs len es ex hd
      have hu := ht.und; rw [hd] at hu
      split at h
      · rename_i z l hh m hz hb hn
        have hn' : ¬ (mx.isSome = true ∧ hi.isNone = true) := by
          rintro ⟨p, q⟩; simp [p, q] at hn
        simp only [Option.map_eq_some_iff] at hz
        obtain ⟨ze, hze, rfl⟩ := hz
        have hsz := (hT _ _ hze).run_size
        split at h
        · rename_i hes
          split at h
          · rename_i w' hw'
            cases h
            simp only [Rel] at hx
            obtain ⟨ad, c, xs, rfl, hlc, hcx, hnone, hrl, hor⟩ := hx
            obtain ⟨a, p, q, r, s⟩ := vbounds_run (P := P) (isSlice := true) (cap' := c) w hb r1 r2 r3 hlc hn' (Nat.le_refl _)
            generalize hm' : (if mx.isSome = true then m else c) = m' at a
            have hmm : m ≤ m' ∧ m' ≤ c := by
              by_cases hmx : mx.isSome = true
              · rw [if_pos hmx] at hm'; subst hm'; exact ⟨Nat.le_refl _, by omega⟩
              · rw [if_neg hmx] at hm'; subst hm'
                have hmc := s (by simpa using hmx)
                exact ⟨by omega, Nat.le_refl _⟩
            obtain ⟨k1, k2, k3⟩ := cellsAt_rel hrl hw'
            have hexx : (if mx.isSome = true then m == hh else ex && hh == len) = true → m' - l = hh - l := by
              intro hq
              by_cases hmx : mx.isSome = true
              · rw [if_pos hmx] at hm' hq; simp at hq; omega
              · rw [if_neg hmx] at hm' hq
                simp at hq
                have := hcx hq.1
                omega
            cases ad with
            | none =>
              have hc0 := hnone rfl
              have hl0 : l = 0 := by omega
              have hh0 : hh = 0 := by omega
              subst hl0; subst hh0
              refine ⟨.slice none 0 (m' - 0), ?_, ?_⟩
              · simp [Instr.sliceAt, Instr.slice, run_underlying hu, a, hsz]
              · simp only [Rel]
                exact ⟨none, m' - 0, _, rfl, by omega, (fun hq => by have := hexx hq; omega), (fun _ => by omega), k1, .inl (by simp)⟩
            | some ad =>
              have hrun : (Instr.sliceAt t (.slice (some ad) len c) lo' hi' mx').run P w =
                  .ok (.slice (some (if m' = l then ad else ad.add (l * ze.size))) (hh - l) (m' - l)) w := by
                simp [Instr.sliceAt, Instr.slice, run_underlying hu, a, hsz]
                split <;> rfl
              refine ⟨_, hrun, ?_⟩
              simp only [Rel]
              refine ⟨_, m' - l, _, rfl, by omega, (fun hq => by have := hexx hq; omega), (fun hq => by cases hq), k1, ?_⟩
              rcases Nat.eq_zero_or_pos (hh - l) with h0 | h0
              · exact .inl h0
              · right
                rcases hor with hor | ⟨rr, off, arr, had, hz', hx'⟩
                · omega
                · cases had
                  refine ⟨rr, off + l * es, arr, ?_, hz', fun i x hi => ?_⟩
                  · rw [if_neg (by omega), Addr.add_lit, hes]
                  · rw [List.getElem?_take] at hi
                    split at hi
                    · rw [List.getElem?_drop] at hi
                      rw [Nat.add_assoc]
                      exact hx' _ _ hi
                    · cases hi
          · cases h
        · cases h
      · cases h
    · cases h

theorem vnilCheck_run {ι : Inj} {x v : VVal} {x' : Value} (w : World) (o : Oper) (ρ' : Operand → Value) (y : Operand) (ho : o.op = .nilCheck y) (hy : ρ' y = x') (h : vnilCheck x = some v) (hx : Rel ι x x') :
    ∃ z, (execOp ρ' o).run P w = .ok (.value z) w ∧ Rel ι v z := by
  unfold vnilCheck at h
  split at h
  · rename_i p
    cases h
    obtain ⟨b, off⟩ := p
    have hx0 := hx
    simp only [Rel] at hx
    obtain ⟨e, he, rfl⟩ := hx
    exact ⟨_, by simp [execOp, ho, hy], hx0⟩
  · cases h
    have hx0 := hx
    simp only [Rel] at hx
    obtain ⟨a', c', rfl, _⟩ := hx
    exact ⟨_, by simp [execOp, ho, hy], hx0⟩
  · cases h
    have hx0 := hx
    simp only [Rel] at hx
    obtain ⟨e, he, rfl⟩ := hx
    exact ⟨_, by simp [execOp, ho, hy], hx0⟩
  · cases h
    have hx0 := hx
    simp only [Rel] at hx
    obtain ⟨e, rfl, he⟩ := hx
    exact ⟨_, by simp [execOp, ho, hy], hx0⟩
  · cases h
    have hx0 := hx
    simp only [Rel] at hx
    obtain ⟨_, _, _, _, rfl, _⟩ := hx
    exact ⟨_, by simp [execOp, ho, hy], hx0⟩
  · cases h

theorem vextract_run {ι : Inj} {x v : VVal} {x' : Value} {i : Nat} (w : World) (h : vextract x i = some v) (hx : Rel ι x x') : ∃ z, (Instr.extract x' i).run P w = .ok z w ∧ Rel ι v z := by
  unfold vextract at h
  split at h
  · simp only [Rel] at hx
    obtain ⟨cs', rfl, hc⟩ := hx
    obtain ⟨z, hz, rz⟩ := hc.get _ _ h
    have : cs'[i]? = some z := by simpa using hz
    exact ⟨z, by simp [Instr.extract, this], rz⟩
  · cases h

theorem vmakeIface_run (hT : TOk P T) {ι : Inj} {t : TypeId} {x v : VVal} {x' : Value} (w : World) (h : vmakeIface T t x = some v) (hx : Rel ι x x') : ∃ z, (Instr.makeInterface t x').run P w = .ok z w ∧ Rel ι v z := by
  unfold vmakeIface at h
  split at h
  · rename_i y hy
    have ht := hT t y hy
    split at h
    · cases h
    · rename_i hd
      cases h
      refine ⟨.iface t x', ?_, by simp only [Rel]; exact ⟨x', rfl, hx⟩⟩
      unfold Instr.makeInterface
      simp only [Sem.run_bind, ht.run_und, Result.andThen_ok]
      generalize y.desc = d at hd
      cases d <;> first | rfl | exact absurd rfl (hd _)
  · cases h

theorem vassert_run (hT : TOk P T) {ι : Inj} {t xt : TypeId} {ok : Bool} {x v : VVal} {x' : Value} (w : World) (h : vassert T x t ok = some v) (hx : Rel ι x x') : ∃ z, (Instr.typeAssert x' xt t ok).run P w = .ok z w ∧ Rel ι v z := by
  unfold vassert at h
  split at h
  · rename_i y t' u hy
    have ht := hT t y hy
    simp only [Rel] at hx
    obtain ⟨u', rfl, hu'⟩ := hx
    split at h
    · cases h
    · rename_i hd
      obtain ⟨i, z, hi, hri, _, _, hiz, _, hz, rz, hagg, hone⟩ := ht.run_info
      by_cases he : t = t'
      · subst he
        rw [if_pos rfl] at h
        refine ⟨if ok = true then .tuple #[u', .bool true] else u', ?_, ?_⟩
        · unfold Instr.typeAssert
          simp only [Sem.run_bind, ht.run_und, Result.andThen_ok]
          generalize y.desc = d at hd
          cases d <;> first | (exact absurd rfl (hd _)) | simp
        · cases h
          cases ok
          · simpa using hu'
          · simp only [if_true, Rel]; exact ⟨_, rfl, .cons hu' (.one (by simp [Rel]))⟩
      · rw [if_neg (Ne.symm he)] at h
        cases ok
        · simp at h
        · simp only [if_true] at h
          have hrun : (Instr.typeAssert (.iface t' u') xt t true).run P w = .ok (.tuple #[z, .bool false]) w := by
            unfold Instr.typeAssert
            simp only [Sem.run_bind, ht.run_und, Result.andThen_ok]
            generalize y.desc = d at hd
            cases d <;> first | (exact absurd rfl (hd _)) | simp [Ne.symm he, hz]
          split at h
          · rename_i zz ha
            cases h
            obtain ⟨cs, rfl⟩ := hagg ha
            refine ⟨_, hrun, ?_⟩
            simp only [Rel]
            exact ⟨_, rfl, .cons (by simp only [Rel]; exact ⟨cs, rfl, rz ι⟩) (.one (by simp [Rel]))⟩
          · rename_i zz ha hzz
            cases h
            have hcz := hone ha
            have := rz ι
            rw [hzz, hcz] at this
            simp only [RelL] at this
            obtain ⟨a, b, e1, e2, e3⟩ := this
            simp at e1
            obtain ⟨rfl, rfl⟩ := e1
            refine ⟨_, hrun, ?_⟩
            simp only [Rel]
            exact ⟨_, rfl, .cons e2 (.one (by simp [Rel]))⟩
          · cases h
  · cases h

theorem fold_run {ι : Inj} {f : VVal → VVal → Option VVal} {g : Value → Value → Sem Value} (w : World)
    (hfg : ∀ a b c a' b', f a b = some c → Rel ι a a' → Rel ι b b' → ∃ c', (g a' b').run P w = .ok c' w ∧ Rel ι c c') :
    ∀ (l : List VVal) (l' : List Value) (a v : VVal) (a' : Value), l.foldlM f a = some v → RelL ι l l' → Rel ι a a' → ∃ z, (l'.foldlM g a').run P w = .ok z w ∧ Rel ι v z
  | [], l', a, v, a', h, hl, ha => by
    simp only [RelL] at hl; subst hl
    simp only [List.foldlM_nil] at h
    cases h
    exact ⟨a', by simp, ha⟩
  | x :: l, l', a, v, a', h, hl, ha => by
    simp only [RelL] at hl
    obtain ⟨y, ys, rfl, rx, rl⟩ := hl
    simp only [List.foldlM_cons, Option.bind_eq_bind, Option.bind_eq_some_iff] at h
    obtain ⟨c, hc, h⟩ := h
    obtain ⟨c', hr, rc⟩ := hfg a x c a' y hc ha rx
    obtain ⟨z, hz, rz⟩ := fold_run w hfg l ys c v c' h rl rc
    exact ⟨z, by simp [List.foldlM_cons, hr, hz], rz⟩

theorem vmin2_run {ι : Inj} (w : World) (a b c : VVal) (a' b' : Value) (h : vmin2 a b = some c) (ha : Rel ι a a') (hb : Rel ι b b') : ∃ c', (Builtin.min2 a' b').run P w = .ok c' w ∧ Rel ι c c' := by
  unfold vmin2 at h
  split at h
  · simp only [Rel] at ha hb; subst ha; subst hb; cases h
    exact ⟨_, rfl, by simp only [Rel]⟩
  · cases h

theorem vmax2_run {ι : Inj} (w : World) (a b c : VVal) (a' b' : Value) (h : vmax2 a b = some c) (ha : Rel ι a a') (hb : Rel ι b b') : ∃ c', (Builtin.max2 a' b').run P w = .ok c' w ∧ Rel ι c c' := by
  unfold vmax2 at h
  split at h
  · simp only [Rel] at ha hb; subst ha; subst hb; cases h
    exact ⟨_, rfl, by simp only [Rel]⟩
  · cases h


theorem orel_map {ι : Inj} {ρ : Operand → VVal} {ρ' : Operand → Value} {o : Option Operand} (h : ∀ x, o = some x → Rel ι (ρ x) (ρ' x)) : ORel ι (o.map ρ) (o.map ρ') := by
  cases o with
  | none => exact .no
  | some x => exact .so (h x rfl)

theorem args_rel {ι : Inj} {ρ : Operand → VVal} {ρ' : Operand → Value} (args : Array Operand) (h : ∀ x, x ∈ args → Rel ι (ρ x) (ρ' x)) : RelL ι (args.toList.map ρ) (args.map ρ').toList := by
  rw [Array.toList_map]
  exact RelL.map _ _ _ fun x hx => h x (by simpa using hx)

theorem two_rel {ι : Inj} {a b : VVal} {l : List Value} (h : RelL ι [a, b] l) : ∃ x y, l = [x, y] ∧ Rel ι a x ∧ Rel ι b y := by
  simp only [RelL] at h
  obtain ⟨x, l1, rfl, rx, y, l2, rfl, ry, rfl⟩ := h
  exact ⟨x, y, rfl, rx, ry⟩
theorem one_rel' {ι : Inj} {a : VVal} {l : List Value} (h : RelL ι [a] l) : ∃ x, l = [x] ∧ Rel ι a x := by
  simp only [RelL] at h
  obtain ⟨x, l1, rfl, rx, rfl⟩ := h
  exact ⟨x, rfl, rx⟩

theorem vfold_run {ι : Inj} {f : VVal → VVal → Option VVal} {g : Value → Value → Sem Value} (w : World)
    (hfg : ∀ a b c a' b', f a b = some c → Rel ι a a' → Rel ι b b' → ∃ c', (g a' b').run P w = .ok c' w ∧ Rel ι c c') {l : List VVal} {l' : List Value} {v : VVal} (h : vfold f l = some v) (hl : RelL ι l l') :
    ∃ x rest z, l' = x :: rest ∧ (rest.foldlM g x).run P w = .ok z w ∧ Rel ι v z := by
  cases l with
  | nil => simp [vfold] at h
  | cons a l =>
    simp only [RelL] at hl
    obtain ⟨y, ys, rfl, ry, rl⟩ := hl
    obtain ⟨z, hz, rz⟩ := fold_run (P := P) w hfg l ys a v y h rl ry
    exact ⟨y, ys, z, rfl, hz, rz⟩

/-- EVERY CALM OPERATION: the heap is not looked at; the model comes to what it stands for, in the world as it lies. -/
theorem calm_run (hT : TOk P T) {ρ : Operand → VVal} {ρ' : Operand → Value} {o : Oper} {H H' : VHeap} {v : VVal} {ι : Inj}
    (h : vop T ρ H o.op = some (v, H')) (hc : clsOf T o.op = .calm) (hρ : Ops ι ρ ρ' o.op) :
    H' = H ∧ (∀ G, vop T ρ G o.op = some (v, G)) ∧ ∀ w, ∃ x, (execOp ρ' o).run P w = .ok (.value x) w ∧ Rel ι v x := by
  obtain ⟨dst, op, ty, pos, aft, gd⟩ := o
  simp only at h hc hρ
  cases op <;> simp only [clsOf, reduceCtorEq] at hc
  case move x =>
    simp only [vop, Option.some.injEq, Prod.mk.injEq] at h
    obtain ⟨rfl, rfl⟩ := h
    exact ⟨rfl, fun _ => rfl, fun w => ⟨ρ' x, rfl, hρ x (by simp [Op.operands])⟩⟩
  case assign x =>
    simp only [vop, Option.some.injEq, Prod.mk.injEq] at h
    obtain ⟨rfl, rfl⟩ := h
    exact ⟨rfl, fun _ => rfl, fun w => ⟨ρ' x, rfl, hρ x (by simp [Op.operands])⟩⟩
  case pick c a b =>
    have rc := hρ c (by simp [Op.operands])
    simp only [vop] at h
    split at h
    · rename_i t ht
      simp only [Option.some.injEq, Prod.mk.injEq] at h
      obtain ⟨rfl, rfl⟩ := h
      refine ⟨rfl, fun _ => by simp [vop, ht], fun w => ?_⟩
      rw [ht] at rc; simp only [Rel] at rc
      cases t
      · exact ⟨ρ' b, by simp [execOp, rc, asBool], hρ b (by simp [Op.operands])⟩
      · exact ⟨ρ' a, by simp [execOp, rc, asBool], hρ a (by simp [Op.operands])⟩
    · cases h
  case build t parts =>
    simp only [vop, Option.map_eq_some_iff, Prod.mk.injEq] at h
    obtain ⟨u, hu, rfl, rfl⟩ := h
    obtain ⟨p1, p2⟩ := parts_rel (ι := ι) (ρ := ρ) (ρ' := ρ') parts (fun x hx => hρ x (by simpa [Op.operands] using hx))
    refine ⟨rfl, fun _ => by simp [vop, hu], fun w => ?_⟩
    obtain ⟨x, hx, rx⟩ := vbuild_run hT w hu p1 p2
    exact ⟨x, by simp [execOp, hx], rx⟩
  case nilCheck x =>
    simp only [vop, Option.map_eq_some_iff, Prod.mk.injEq] at h
    obtain ⟨u, hu, rfl, rfl⟩ := h
    refine ⟨rfl, fun _ => by simp [vop, hu], fun w => ?_⟩
    exact vnilCheck_run w ⟨dst, .nilCheck x, ty, pos, aft, gd⟩ ρ' x rfl rfl hu (hρ x (by simp [Op.operands]))
  case binOp op t x y yt =>
    simp only [vop, Option.map_eq_some_iff, Prod.mk.injEq] at h
    obtain ⟨u, hu, rfl, rfl⟩ := h
    refine ⟨rfl, fun _ => by simp [vop, hu], fun w => ?_⟩
    obtain ⟨a, b⟩ := vbin_run hT w x y (hρ x (by simp [Op.operands])) (hρ y (by simp [Op.operands])) hu
    refine ⟨u.val, ?_, VVal.rel_val b ι⟩
    simp only [execOp, Sem.run_bind] at a ⊢
    rw [a]; rfl
  case unOp op t x =>
    simp only [vop, Option.map_eq_some_iff, Prod.mk.injEq] at h
    obtain ⟨u, hu, rfl, rfl⟩ := h
    refine ⟨rfl, fun _ => by simp [vop, hu], fun w => ?_⟩
    have rx := hρ x (by simp [Op.operands])
    unfold vun at hu
    split at hu
    · rename_i hx; rw [hx] at rx; simp only [Rel] at rx; cases hu
      exact ⟨_, (by simp only [execOp, rx, Op.unary, Op.intArith, Sem.run_bind, Sem.run_pure, Result.andThen_ok]; rfl), by simp only [Rel]⟩
    · rename_i k n hx; rw [hx] at rx; simp only [Rel] at rx; cases hu
      refine ⟨.int k (vbits .xor k (if k.signed then -1 else k.max) n), ?_, by simp only [Rel]⟩
      simp only [execOp, rx, Op.unary, Sem.run_bind, vbits_run .xor k _ n w (by simp), Result.andThen_ok, Sem.run_pure]
    · rename_i hx; rw [hx] at rx; simp only [Rel] at rx; cases hu
      exact ⟨_, (by simp only [execOp, rx, Op.unary, Sem.run_bind, Sem.run_pure, Result.andThen_ok]; rfl), by simp only [Rel]⟩
    · cases hu
  case convert src dst' x =>
    simp only [vop] at h
    split at hc
    · rename_i hi
      have rx := hρ x (by simp [Op.operands])
      unfold isIntTy at hi
      unfold vconvert at h
      split at h
      · rename_i s d hs hd
        rw [hd] at hi
        simp only at hi
        split at hi
        · rename_i k hk
          split at h
          · rename_i _ _ k' kk n hkk hn
            have hkk' : k' = k := by rw [hk] at hkk; cases hkk; rfl
            subst hkk'
            simp only [Option.some.injEq, Prod.mk.injEq] at h
            obtain ⟨rfl, rfl⟩ := h
            rw [hn] at rx; simp only [Rel] at rx
            refine ⟨rfl, fun _ => ?_, fun w => ⟨.int k' (k'.wrap n), ?_, by simp only [Rel]⟩⟩
            · simp only [vop, vconvert, hs, hd, hkk, hn]
            · have h1 := (hT _ _ hs).run_und w
              have h2 := (hT _ _ hd).run_und w
              rw [hk] at h2
              simp only [execOp, rx, convert, Sem.run_bind, h1, h2, Result.andThen_ok, Conv.intToInt, Sem.run_pure]
          all_goals first
            | (exfalso; rename_i hq _; rw [hk] at hq; cases hq; done)
            | (exfalso; simp_all; done)
            | cases h
        · cases hi
      · cases h
    · split at hc <;> cases hc
  case makeFunc fn first cap =>
    cases fn <;> simp only [vop, reduceCtorEq, Option.some.injEq, Prod.mk.injEq] at h
    obtain ⟨rfl, rfl⟩ := h
    refine ⟨rfl, fun _ => rfl, fun w => ⟨_, (by simp only [execOp, Instr.makeFunc, Sem.run_bind, Sem.run_pure, Result.andThen_ok]; rfl), ?_⟩⟩
    simp only [Rel]
    exact ⟨_, _, rfl, args_rel first fun x hx => hρ x (by simp [Op.operands, hx]), args_rel cap fun x hx => hρ x (by simp [Op.operands, hx])⟩
  case slice t x lo hi mx =>
    simp only [vop, Option.map_eq_some_iff, Prod.mk.injEq] at h
    obtain ⟨u, hu, rfl, rfl⟩ := h
    refine ⟨rfl, fun _ => by simp [vop, hu], fun w => ?_⟩
    obtain ⟨z, hz, rz⟩ := vslice_run hT w hu (hρ x (by simp [Op.operands])) (orel_map (ρ' := ρ') fun y hy => hρ y (by simp [Op.operands, hy])) (orel_map (ρ' := ρ') fun y hy => hρ y (by simp [Op.operands, hy])) (orel_map (ρ' := ρ') fun y hy => hρ y (by simp [Op.operands, hy]))
    exact ⟨z, by simp [execOp, hz], rz⟩
  case fieldAddr s x f =>
    simp only [vop, Option.map_eq_some_iff, Prod.mk.injEq] at h
    obtain ⟨u, hu, rfl, rfl⟩ := h
    refine ⟨rfl, fun _ => by simp [vop, hu], fun w => ?_⟩
    obtain ⟨z, hz, rz⟩ := vfieldAddr_run hT w hu (hρ x (by simp [Op.operands]))
    exact ⟨z, by simp [execOp, hz], rz⟩
  case field s x f =>
    simp only [vop, Option.map_eq_some_iff, Prod.mk.injEq] at h
    obtain ⟨u, hu, rfl, rfl⟩ := h
    refine ⟨rfl, fun _ => by simp [vop, hu], fun w => ?_⟩
    obtain ⟨z, hz, rz⟩ := vfield_run hT w hu (hρ x (by simp [Op.operands]))
    exact ⟨z, by simp [execOp, hz], rz⟩
  case indexAddr s x i =>
    simp only [vop, Option.map_eq_some_iff, Prod.mk.injEq] at h
    obtain ⟨u, hu, rfl, rfl⟩ := h
    refine ⟨rfl, fun _ => by simp [vop, hu], fun w => ?_⟩
    obtain ⟨z, hz, rz⟩ := vindexAddr_run hT w hu (hρ x (by simp [Op.operands])) (hρ i (by simp [Op.operands]))
    exact ⟨z, by simp [execOp, hz], rz⟩
  case index s x i =>
    simp only [vop, Option.map_eq_some_iff, Prod.mk.injEq] at h
    obtain ⟨u, hu, rfl, rfl⟩ := h
    refine ⟨rfl, fun _ => by simp [vop, hu], fun w => ?_⟩
    obtain ⟨z, hz, rz⟩ := vindex_run hT w hu (hρ x (by simp [Op.operands])) (hρ i (by simp [Op.operands]))
    exact ⟨z, by simp [execOp, hz], rz⟩
  case extract x i =>
    simp only [vop, Option.map_eq_some_iff, Prod.mk.injEq] at h
    obtain ⟨u, hu, rfl, rfl⟩ := h
    refine ⟨rfl, fun _ => by simp [vop, hu], fun w => ?_⟩
    obtain ⟨z, hz, rz⟩ := vextract_run (P := P) w hu (hρ x (by simp [Op.operands]))
    exact ⟨z, by simp [execOp, hz], rz⟩
  case makeInterface t x =>
    simp only [vop, Option.map_eq_some_iff, Prod.mk.injEq] at h
    obtain ⟨u, hu, rfl, rfl⟩ := h
    refine ⟨rfl, fun _ => by simp [vop, hu], fun w => ?_⟩
    obtain ⟨z, hz, rz⟩ := vmakeIface_run hT w hu (hρ x (by simp [Op.operands]))
    exact ⟨z, by simp [execOp, hz], rz⟩
  case typeAssert x xt t ok =>
    simp only [vop, Option.map_eq_some_iff, Prod.mk.injEq] at h
    obtain ⟨u, hu, rfl, rfl⟩ := h
    refine ⟨rfl, fun _ => by simp [vop, hu], fun w => ?_⟩
    obtain ⟨z, hz, rz⟩ := vassert_run (xt := xt) hT w hu (hρ x (by simp [Op.operands]))
    exact ⟨z, by simp [execOp, hz], rz⟩
  case call c =>
    obtain ⟨callee, args, ats⟩ := c
    cases callee <;> (try simp only [clsOf, reduceCtorEq] at hc)
    rename_i b
    have ra : RelL ι (args.toList.map ρ) (args.map ρ').toList := args_rel args fun x hx => hρ x (by simp [Op.operands, Call.operands, hx])
    cases b <;> (try simp only [clsOf, reduceCtorEq] at hc)
    · simp only [vop, vbuiltin, Option.map_eq_some_iff, Prod.mk.injEq] at h
      obtain ⟨u, hu, rfl, rfl⟩ := h
      refine ⟨rfl, fun _ => by simp [vop, vbuiltin, hu], fun w => ?_⟩
      obtain ⟨x, rest, z, he, hz, rz⟩ := vfold_run (P := P) (g := Builtin.max2) w (vmax2_run w) hu ra
      refine ⟨z, ?_, rz⟩
      simp only [execOp, resolve, invoke, builtin, Sem.run_bind, Sem.run_pure, Result.andThen_ok, Builtin.max_, he, hz]
    · simp only [vop, vbuiltin, Option.map_eq_some_iff, Prod.mk.injEq] at h
      obtain ⟨u, hu, rfl, rfl⟩ := h
      refine ⟨rfl, fun _ => by simp [vop, vbuiltin, hu], fun w => ?_⟩
      obtain ⟨x, rest, z, he, hz, rz⟩ := vfold_run (P := P) (g := Builtin.min2) w (vmin2_run w) hu ra
      refine ⟨z, ?_, rz⟩
      simp only [execOp, resolve, invoke, builtin, Sem.run_bind, Sem.run_pure, Result.andThen_ok, Builtin.min_, he, hz]
  all_goals (exfalso; split at hc <;> simp_all; done)

end
end Go.V
