/- Proved: Rows.PlanBackSaid, the statement PlanBack, of the given program at the commit; no conditions beyond those in the statement. -/
import Derived.Test.YtbngdhlmggdaaaaC4x10
import Derived.Lib.TrailingZeros
import Derived.KernelRfl
set_option autoImplicit false
set_option linter.unusedVariables false
namespace Go.V
open Go

/-- the least place of a word; -1: there is none -/
def nx (w : BitVec 64) : Int := if w = 0#64 then -1 else (Lib.ctz 64 w.toNat : Nat)
/-- the word of all places below i -/
def bel (i : Int) : BitVec 64 := if i ≤ 0 then 0#64 else if 64 ≤ i then ~~~0#64 else 1#64 <<< i.toNat - 1#64

theorem nx_bits (w : BitVec 64) : (w = 0#64 ∧ nx w = -1) ∨ (∃ c : Nat, nx w = c ∧ c < 64 ∧ w.getLsbD c = true ∧ ∀ j, j < c → w.getLsbD j = false) := by
  by_cases h : w = 0#64
  · exact .inl ⟨h, if_pos h⟩
  · right
    have h0 : 0 < w.toNat := by
      rcases Nat.eq_zero_or_pos w.toNat with e | e
      · exact absurd (BitVec.eq_of_toNat_eq (by simpa using e)) h
      · exact e
    obtain ⟨m, h1, h2⟩ := Lib.ctzFrom_spec 64 w.toNat h0 w.isLt
    have hc : Lib.ctz 64 w.toNat = Lib.ctzFrom 64 w.toNat := by unfold Lib.ctz; rw [if_neg (by omega)]
    have hn : nx w = (Lib.ctzFrom 64 w.toNat : Nat) := by unfold nx; rw [if_neg h, hc]
    generalize Lib.ctzFrom 64 w.toNat = c at h1 h2 hn
    refine ⟨c, hn, h2, ?_, fun j hj => ?_⟩
    · rw [← BitVec.testBit_toNat, h1, Nat.testBit_two_pow_mul]
      simp
    · rw [← BitVec.testBit_toNat, h1, Nat.testBit_two_pow_mul]
      simp; omega

theorem bel_bit (k j : Nat) : (bel k).getLsbD j = (decide (j < k) && decide (j < 64)) := by
  unfold bel
  by_cases h0 : (k : Int) ≤ 0
  · rw [if_pos h0]
    have : k = 0 := by omega
    subst this; simp
  · rw [if_neg h0]
    by_cases h1 : (64 : Int) ≤ k
    · rw [if_pos h1]
      rw [BitVec.getLsbD_not]
      by_cases hj : j < 64
      · have : j < k := by omega
        rw [decide_eq_true hj, decide_eq_true this, BitVec.getLsbD_zero]; rfl
      · rw [decide_eq_false hj, Bool.and_false, Bool.false_and]
    · rw [if_neg h1]
      have hk : k < 64 := by omega
      rw [← BitVec.testBit_toNat, BitVec.toNat_sub, BitVec.toNat_shiftLeft]
      have e1 : (1 : Nat) <<< k % 2 ^ 64 = 2 ^ k := by
        rw [Nat.shiftLeft_eq, Nat.one_mul]
        exact Nat.mod_eq_of_lt (Nat.pow_lt_pow_right (by omega) hk)
      have e2 : (2 ^ 64 - (1#64).toNat + 1 <<< k % 2 ^ 64) % 2 ^ 64 = 2 ^ k - 1 := by
        rw [e1]
        have : 0 < 2 ^ k := Nat.two_pow_pos k
        have : 2 ^ k < 2 ^ 64 := Nat.pow_lt_pow_right (by omega) hk
        simp only [BitVec.toNat_ofNat]
        omega
      have e3 : (1#64).toNat <<< (k : Int).toNat = 1 <<< k := by simp
      rw [e3, e2, Nat.testBit_two_pow_sub_one]
      by_cases hj : j < k
      · have : j < 64 := by omega
        simp [hj, this]
      · simp [hj]

/-- the places of a word from k on, rising -/
def pl (w : BitVec 64) (k : Nat) : List Nat := (List.range' k (64 - k)).filter w.getLsbD

theorem pl_step (w : BitVec 64) (k : Nat) : pl w k = if k < 64 then (if w.getLsbD k = true then k :: pl w (k + 1) else pl w (k + 1)) else [] := by
  unfold pl
  by_cases h : k < 64
  · rw [if_pos h]
    have : 64 - k = (64 - (k + 1)) + 1 := by omega
    rw [this, List.range'_succ, List.filter_cons]
  · rw [if_neg h]
    have : 64 - k = 0 := by omega
    rw [this]; rfl

theorem pl_skip (w : BitVec 64) : ∀ (n k : Nat), (∀ j, k ≤ j → j < k + n → w.getLsbD j = false) → pl w k = pl w (k + n)
  | 0, k, _ => rfl
  | n + 1, k, h => by
    rw [pl_step, h k (by omega) (by omega)]
    have := pl_skip w n (k + 1) (fun j h1 h2 => h j (by omega) (by omega))
    rw [this, show k + 1 + n = k + (n + 1) from by omega]
    split
    · rfl
    · rename_i hk
      rw [pl_step, if_neg (by omega)]

theorem pl_next (w : BitVec 64) (k : Nat) : (nx (w &&& ~~~bel k) = -1 ∧ pl w k = []) ∨ (∃ c : Nat, nx (w &&& ~~~bel k) = c ∧ k ≤ c ∧ c < 64 ∧ w.getLsbD c = true ∧ pl w k = c :: pl w (c + 1)) := by
  have hb : ∀ j, j < 64 → (w &&& ~~~bel k).getLsbD j = (w.getLsbD j && decide (k ≤ j)) := by
    intro j hj
    rw [BitVec.getLsbD_and, BitVec.getLsbD_not, bel_bit]
    by_cases h : j < k
    · simp [hj, h, show ¬ k ≤ j from by omega]
    · simp [hj, h, show k ≤ j from by omega]
  rcases nx_bits (w &&& ~~~bel k) with ⟨h1, h2⟩ | ⟨c, h1, h2, h3, h4⟩
  · refine .inl ⟨h2, ?_⟩
    have : ∀ j, k ≤ j → j < k + (64 - k) → w.getLsbD j = false := by
      intro j hj hj2
      by_cases h64 : j < 64
      · have := hb j h64
        rw [h1] at this
        simp [hj] at this
        exact this
      · exact BitVec.getLsbD_of_ge _ _ (by omega)
    rw [pl_skip w _ k this, pl_step, if_neg (by omega)]
  · refine .inr ⟨c, h1, ?_⟩
    rw [hb c h2] at h3
    simp only [Bool.and_eq_true, decide_eq_true_eq] at h3
    refine ⟨h3.2, h2, h3.1, ?_⟩
    have : ∀ j, k ≤ j → j < k + (c - k) → w.getLsbD j = false := by
      intro j hj hj2
      have := h4 j (by omega)
      rw [hb j (by omega)] at this
      simpa [hj] using this
    rw [pl_skip w _ k this, show k + (c - k) = c from by omega, pl_step, if_pos h2, if_pos h3.1]

theorem pl_next' (w : BitVec 64) (k : Nat) : (nx (w &&& ~~~bel k) = -1 ∧ pl w k = []) ∨ ∃ c : Nat, nx (w &&& ~~~bel k) = c ∧ c < 64 ∧ pl w k = c :: pl w (c + 1) := by
  rcases pl_next w k with h | ⟨c, h1, _, h3, _, h5⟩
  · exact .inl h
  · exact .inr ⟨c, h1, h3, h5⟩
end Go.V

set_option autoImplicit false
set_option linter.unusedVariables false
set_option maxRecDepth 100000
namespace Go.Proofs.Ytbngdhlmggdaaaa.VT
open Go Go.V Go.RowKit

theorem mixed : Try.prog.follows .mixedOrders = true := by kernel_rfl

noncomputable def cfg : Cfg := { T := tys, meth := fun _ _ => none, fn := fun f => Try.prog.funcs[f]? }

theorem cfgOk {w0 : World} : CfgOk Try.prog cfg w0 where
  mixed := mixed
  tys := tysOk
  fns f fn hf := ⟨hf, names_ok (by kernel_rfl) hf⟩
  meths t name f h := by cases h

/-- the worlds in which the statements begin -/
structure SW where
  w : World

noncomputable def psys (x : SW) : V.Sys := ⟨Try.prog, cfg, x.w, cfgOk⟩
end Go.Proofs.Ytbngdhlmggdaaaa.VT

set_option autoImplicit false
set_option linter.unusedVariables false
namespace Go.V
open Go Go.RowKit

section
variable {S : Sys} {H0 H : VHeap} {rd : Option Nat} {env : VEnv} {Q : Post}

/-- what an iterator tells: the values one after the other, till yield says no -/
def Iter (S : Sys) (l : Nat) : List VVal → VHeap → (VHeap → Prop) → Prop
  | [], G, R => R G
  | x :: xs, G, R => Fv S (.yield l) [x] G fun v G' => ∃ b, v = .bool b ∧ if b = true then Iter S l xs G' R else R G'

/-- a range over what tells the list xs: k is the loop's record, s the rest of the heap -/
theorem B_rangeL {f1 : FuncId} {caps : List VVal} {g : Operand} {ps : Array Nat} {asg body : Code} (xs : List VVal) (hrd : ∀ l0, rd = some l0 → ∃ st p fn tmps ps asg body, H[l0]? = some (.loop st p fn tmps ps asg body)) (hg : env.eval g = .func f1 [] caps)
    (hAll : ∀ (l : Nat) (G : VHeap) (R : VHeap → Prop), Iter S l xs G R → F S f1 ([.yield l] ++ caps) G fun v G' => R G')
    {σ : Type} (hp : VBlk → σ → VHeap) (s0 : σ) (h0 : ∀ k, H ++ [k] = hp k s0) (hget : ∀ k s, (hp k s)[H.length]? = some k) (hset : ∀ k k' s, (hp k s).set H.length k' = hp k' s)
    (inv : List VVal → σ → Prop) (hi : inv [] s0) (X : Code → List VVal → VVal → σ → Prop) (hps : ps.toList.length = 1)
    (round : ∀ pre c post s, xs = pre ++ c :: post → inv pre s → ∀ (kr kb : VBlk), kr = .loop .ready none 0 env ps.toList asg body → kb = .loop .busy none 0 env ps.toList asg body →
      B S (hp kr s) (some H.length) asg (setParams env ps.toList [c]) (hp kr s) (fun ex env1 H1 => ex = .normal ∧ ∃ s1, H1 = hp kr s1 ∧ B S (hp kr s) (some H.length) body env1 (hp kb s1)
        (fun ex2 _ H2 => ∃ s2, H2 = hp kb s2 ∧ ((ex2 = .normal ∧ inv (pre ++ [c]) s2) ∨ (∃ j, jumpOf ex2 = some (some j) ∧ X j pre c s2)))))
    (done : ∀ s k, k = VBlk.loop .exhausted none 0 env ps.toList asg body → inv xs s → Q .normal env (hp k s))
    (stop : ∀ j pre c post s k, k = VBlk.loop .exhausted (some j) 0 env ps.toList asg body → xs = pre ++ c :: post → X j pre c s → jumpTo (some j) env (hp k s) Q) : B S H0 rd (.rangeFunc g ps asg body) env H Q := by
  let rec' : LoopState → Option Code → VBlk := fun st p => .loop st p 0 env ps.toList asg body
  let Rf : VHeap → Prop := fun G => (∃ s, G = hp (rec' .ready none) s ∧ inv xs s) ∨ ∃ j pre c post s, G = hp (rec' .done (some j)) s ∧ xs = pre ++ c :: post ∧ X j pre c s
  have key : ∀ (ys pre : List VVal) (s : σ), xs = pre ++ ys → inv pre s → Iter S H.length ys (hp (rec' .ready none) s) Rf := by
    intro ys
    induction ys with
    | nil =>
      intro pre s hx hs
      rw [List.append_nil] at hx
      exact .inl ⟨s, rfl, hx ▸ hs⟩
    | cons c ys ih =>
      intro pre s hx hs
      have hr := round pre c ys s hx hs _ _ rfl rfl
      refine Fv_yield (p := none) (fn := 0) (tmps := env) (ps := ps.toList) (body := body) (hget _ s) (by simp [hps]) _ rfl (hr.mono ?_)
      rintro ex env1 H1 ⟨rfl, s1, rfl, hb⟩
      refine ⟨rfl, none, 0, env, ps.toList, asg, body, hget _ s1, ?_⟩
      rw [hset]
      refine hb.mono ?_
      rintro ex2 env2 H2 ⟨s2, rfl, h2⟩
      rcases h2 with ⟨rfl, h2⟩ | ⟨j, hj, h2⟩
      · refine ⟨none, rfl, .busy, none, 0, env, ps.toList, asg, body, hget _ s2, true, rfl, ?_⟩
        rw [if_pos rfl, hset]
        exact ih (pre ++ [c]) s2 (by rw [hx]; simp) h2
      · refine ⟨some j, hj, .busy, none, 0, env, ps.toList, asg, body, hget _ s2, false, rfl, ?_⟩
        rw [if_neg (by simp), hset]
        exact .inr ⟨j, pre, c, ys, s2, rfl, hx, h2⟩
  refine B_range hrd hg (hAll H.length _ Rf (by rw [h0]; exact key xs [] s0 rfl hi)) ?_
  rintro v H2 (⟨s, rfl, hs⟩ | ⟨j, pre, c, post, s, rfl, hx, hX⟩)
  · refine ⟨.ready, none, 0, env, ps.toList, asg, body, hget _ s, by simp, ?_⟩
    rw [hset]
    exact done s _ rfl hs
  · refine ⟨.done, some j, 0, env, ps.toList, asg, body, hget _ s, by simp, ?_⟩
    rw [hset]
    exact stop j pre c post s _ rfl hx hX

/-- .. that tells the images of xs -/
theorem B_rangeM {f1 : FuncId} {caps : List VVal} {g : Operand} {ps : Array Nat} {asg body : Code} {β : Type} (fv : β → VVal) (xs : List β) (hrd : ∀ l0, rd = some l0 → ∃ st p fn tmps ps asg body, H[l0]? = some (.loop st p fn tmps ps asg body)) (hg : env.eval g = .func f1 [] caps)
    (hAll : ∀ (l : Nat) (G : VHeap) (R : VHeap → Prop), Iter S l (xs.map fv) G R → F S f1 ([.yield l] ++ caps) G fun v G' => R G')
    {σ : Type} (hp : VBlk → σ → VHeap) (s0 : σ) (h0 : ∀ k, H ++ [k] = hp k s0) (hget : ∀ k s, (hp k s)[H.length]? = some k) (hset : ∀ k k' s, (hp k s).set H.length k' = hp k' s)
    (inv : List β → σ → Prop) (hi : inv [] s0) (X : Code → List β → β → σ → Prop) (hps : ps.toList.length = 1)
    (round : ∀ pre c post s, xs = pre ++ c :: post → inv pre s → ∀ (kr kb : VBlk), kr = .loop .ready none 0 env ps.toList asg body → kb = .loop .busy none 0 env ps.toList asg body →
      B S (hp kr s) (some H.length) asg (setParams env ps.toList [fv c]) (hp kr s) (fun ex env1 H1 => ex = .normal ∧ ∃ s1, H1 = hp kr s1 ∧ B S (hp kr s) (some H.length) body env1 (hp kb s1)
        (fun ex2 _ H2 => ∃ s2, H2 = hp kb s2 ∧ ((ex2 = .normal ∧ inv (pre ++ [c]) s2) ∨ (∃ j, jumpOf ex2 = some (some j) ∧ X j pre c s2)))))
    (done : ∀ s k, k = VBlk.loop .exhausted none 0 env ps.toList asg body → inv xs s → Q .normal env (hp k s))
    (stop : ∀ j pre c post s k, k = VBlk.loop .exhausted (some j) 0 env ps.toList asg body → xs = pre ++ c :: post → X j pre c s → jumpTo (some j) env (hp k s) Q) : B S H0 rd (.rangeFunc g ps asg body) env H Q := by
  refine B_rangeL (xs.map fv) hrd hg hAll hp s0 h0 hget hset (fun pre s => ∃ p q, pre = p.map fv ∧ xs = p ++ q ∧ inv p s) ⟨[], xs, rfl, rfl, hi⟩ (fun j pre c s => ∃ p b q, pre = p.map fv ∧ c = fv b ∧ xs = p ++ b :: q ∧ X j p b s) hps ?_ ?_ ?_
  · rintro pre c post s hx ⟨p, q, rfl, rfl, hI⟩ kr kb hkr hkb
    rw [List.map_append, List.append_cancel_left_eq] at hx
    cases q with
    | nil => simp at hx
    | cons b q =>
      simp only [List.map_cons, List.cons.injEq] at hx
      obtain ⟨rfl, rfl⟩ := hx
      refine (round p b q s rfl hI kr kb hkr hkb).mono ?_
      rintro ex env1 H1 ⟨h1, s1, h2, h3⟩
      refine ⟨h1, s1, h2, h3.mono ?_⟩
      rintro ex2 env2 H2 ⟨s2, h4, h5⟩
      refine ⟨s2, h4, ?_⟩
      rcases h5 with ⟨h5, h6⟩ | ⟨j, h5, h6⟩
      · exact .inl ⟨h5, p ++ [b], q, by simp, by simp, h6⟩
      · exact .inr ⟨j, h5, p, b, q, rfl, rfl, rfl, h6⟩
  · rintro s k hk ⟨p, q, hp', rfl, hI⟩
    have hq : q = [] := by
      have := congrArg List.length hp'
      simp at this
      exact this
    subst hq
    rw [List.append_nil] at *
    exact done s k hk hI
  · rintro j pre c post s k hk hx ⟨p, b, q, rfl, rfl, hxs, hX⟩
    exact stop j p b q s k hk hxs hX

abbrev cI (c : Nat) : VVal := .int .i64 (c : Int)
end
end Go.V

set_option autoImplicit false
set_option linter.unusedVariables false
namespace Go.V
open Go Go.RowKit

def vidx : VVal → Option Nat
  | .slice (some (b, _)) _ _ _ _ => some b
  | _ => none

/-- a list that was made by appends alone: nil, or a slice of an own block that nobody else has; X: the own blocks, behind h others -/
def LV (h es : Nat) (X : VHeap) (v : VVal) (cs : List VVal) (len : Nat) : Prop :=
  cs.length = len * es ∧ ((len = 0 ∧ v = .slice none 0 0 true 0) ∨ (0 < len ∧ ∃ b, v = .slice (some (h + b, 0)) len len false es ∧ X[b]? = some (.cells cs true)))

theorem LV.nil (h es : Nat) (X : VHeap) : LV h es X (.slice none 0 0 true 0) [] 0 := ⟨by simp, .inl ⟨rfl, rfl⟩⟩
theorem LV.frame {h es : Nat} {X X' : VHeap} {v : VVal} {cs : List VVal} {len : Nat} (l : LV h es X v cs len) (hf : ∀ i, vidx v = some (h + i) → X'[i]? = X[i]?) : LV h es X' v cs len := by
  refine ⟨l.1, ?_⟩
  rcases l.2 with h1 | ⟨h1, b, rfl, h2⟩
  · exact .inl h1
  · exact .inr ⟨h1, b, rfl, by rw [hf b rfl]; exact h2⟩
theorem LV.app {h es : Nat} {X : VHeap} {v : VVal} {cs : List VVal} {len : Nat} (l : LV h es X v cs len) (Y : VHeap) : LV h es (X ++ Y) v cs len := by
  refine ⟨l.1, ?_⟩
  rcases l.2 with h1 | ⟨h1, b, rfl, h2⟩
  · exact .inl h1
  · exact .inr ⟨h1, b, rfl, get_append h2⟩
theorem LV.one {h es : Nat} {X : VHeap} {v : VVal} {cs : List VVal} {len : Nat} (l : LV h es X v cs len) : v.one = true := by
  rcases l.2 with ⟨_, rfl⟩ | ⟨_, b, rfl, _⟩ <;> rfl
theorem LV.cells {h es : Nat} {X : VHeap} {v : VVal} {cs : List VVal} {len : Nat} (l : LV h es X v cs len) : v.cells = some [v] := by
  rcases l.2 with ⟨_, rfl⟩ | ⟨_, b, rfl, _⟩ <;> rfl

section
variable {T : TypeId → Option VTy} {ρ : Operand → VVal} {H : VHeap} {op : Op}

theorem v_len {T : TypeId → Option VTy} {ρ : Operand → VVal} {H : VHeap} {op : Op} {h es : Nat} {X : VHeap} {v : VVal} {cs : List VVal} {len : Nat} {a : Operand} {t : TypeId} {y : VTy} {e : TypeId} (ho : op = .call { callee := .builtin .len, args := #[a], argTypes := #[t] }) (ha : ρ a = v) (hy : T t = some y) (hd : y.desc = .slice e) (l : LV h es X v cs len) : vop T ρ H op = some (iI len, H) := by
  rw [ho]
  rcases l.2 with ⟨rfl, rfl⟩ | ⟨_, b, rfl, _⟩
  · simp [vop, vbuiltin, vlen, ha, hy, hd]
  · simp [vop, vbuiltin, vlen, ha, hy, hd]

/-- an append of what was built just before -/
theorem v_appB {s x : Operand} {ats : Array TypeId} {t u e : TypeId} {z : VTy} {du : TypeDesc} {v : VVal} {Y : VHeap} {cs new : List VVal} {len k : Nat} {kx : Nat}
    (ho : op = .call { callee := .builtin .append, args := #[s, x], argTypes := ats }) (hat : ats = #[t, u]) (hz : velem T t = some (e, z)) (hu : (T u).map (·.desc) = some du) (hdu : isSeq du = true)
    (hs : ρ s = v) (hx : ρ x = .slice (some (H.length + Y.length, 0)) k kx true z.size) (l : LV H.length z.size Y v cs len) (hn : new.length = k * z.size) (h1 : new.all VVal.one = true) (hp : 0 < z.size)
    (hb : (len + k) * z.bytes ≤ 140737488355328 ∧ len + k ≤ 140737488355328) (hk : 0 < k) :
    ∃ Y1, vop T ρ (H ++ (Y ++ [.cells new true])) op = some (.slice (some (H.length + (Y.length + 1), 0)) (len + k) (len + k) false z.size, H ++ (Y1 ++ [.cells new true, .cells (cs ++ new) true])) ∧ Y1.length = Y.length ∧ (∀ i, vidx v ≠ some (H.length + i) → Y1[i]? = Y[i]?) ∧
      LV H.length z.size (Y1 ++ [.cells new true, .cells (cs ++ new) true]) (.slice (some (H.length + (Y.length + 1), 0)) (len + k) (len + k) false z.size) (cs ++ new) (len + k) := by
  have hsrc : srcCells (H ++ (Y ++ [.cells new true])) z.size k (ρ x) = some new := by
    rw [hx]
    simp only [srcCells]
    rw [get_app rfl (x := .cells new true) (by simp)]
    simp only [cellsAt]
    rw [if_pos (by omega), List.drop_zero, List.take_of_length_le (by omega)]
  have hlen : (H ++ (Y ++ [VBlk.cells new true])).length = H.length + (Y.length + 1) := by simp
  have hcl : (cs ++ new).length = (len + k) * z.size := by rw [List.length_append, l.1, hn, Nat.add_mul]
  have hlast : ∀ Y1 : VHeap, Y1.length = Y.length → (Y1 ++ [VBlk.cells new true, .cells (cs ++ new) true])[Y.length + 1]? = some (.cells (cs ++ new) true) := by
    intro Y1 h
    rw [List.getElem?_append_right (by omega), h, show Y.length + 1 - Y.length = 1 from by omega]; rfl
  rcases l.2 with ⟨rfl, rfl⟩ | ⟨hl, b, rfl, hg⟩
  · have hcs : cs = [] := List.eq_nil_of_length_eq_zero (by have := l.1; omega)
    subst hcs
    refine ⟨Y, ?_, rfl, fun _ _ => rfl, hcl, .inr ⟨by omega, _, rfl, hlast Y rfl⟩⟩
    rw [ho, hat]
    have hk' : srcLen (ρ x) = some k := by rw [hx]; rfl
    simp only [vop, vbuiltin, List.map_cons, List.map_nil, vappend, hz, hs, hu, hk']
    rw [hsrc]
    simp only
    rw [if_pos ⟨hn, h1, hp, hb.1, hb.2, hdu⟩]
    rw [if_neg (by omega), if_neg (by omega), if_neg (by simp), hlen]
    simp
  · have hbY : b < Y.length := (List.getElem?_eq_some_iff.1 hg).1
    refine ⟨Y.set b .dead, ?_, by simp, fun i hi => ?_, hcl, .inr ⟨by omega, _, rfl, hlast _ (by simp)⟩⟩
    · rw [ho, hat]
      have hk' : srcLen (ρ x) = some k := by rw [hx]; rfl
      simp only [vop, vbuiltin, List.map_cons, List.map_nil, vappend, hz, hs, hu, hk']
      rw [hsrc]
      simp only
      rw [if_pos ⟨hn, h1, hp, hb.1, hb.2, hdu⟩]
      rw [if_pos trivial, get_app rfl (x := .cells cs true) (get_append hg)]
      simp only
      rw [if_neg (by omega)]
      have hca : cellsAt cs 0 (len * z.size) = some cs := by
        unfold cellsAt; rw [if_pos (by have := l.1; omega), List.drop_zero, List.take_of_length_le (by have := l.1; omega)]
      rw [hca]
      simp only
      rw [if_neg (by simp), if_pos trivial, hlen, set_app rfl, List.set_append_left _ _ hbY]
      simp
    · rw [List.getElem?_set_ne]
      rintro rfl
      exact hi rfl
end

section
variable {S : Sys} {H0 H : VHeap}
/-- such a list frozen -/
theorem Gh.freezeLV {vs vs' : List VVal} {X : VHeap} {es : Nat} {v : VVal} {cs : List VVal} {len : Nat} (i : Nat) (l : LV H.length es X v cs len) (hv : vs[i]? = some v) (he : vs.set i (.fsl cs len es false) = vs') :
    ∃ X', Gh S H0 vs (H ++ X) vs' (H ++ X') ∧ X'.length = X.length ∧ ∀ j, vidx v ≠ some (H.length + j) → X'[j]? = X[j]? := by
  rcases l.2 with ⟨rfl, rfl⟩ | ⟨hl, b, rfl, hg⟩
  · have hcs : cs = [] := List.eq_nil_of_length_eq_zero (by have := l.1; omega)
    subst hcs
    exact ⟨X, Gh.freezeNil i hv he, rfl, fun _ _ => rfl⟩
  · refine ⟨X.set b .dead, Gh.freezeL i b hv hg ?_ (Nat.le_refl _) he, by simp, fun j hj => ?_⟩
    · unfold cellsAt; rw [if_pos (by have := l.1; omega), List.drop_zero, List.take_of_length_le (by have := l.1; omega)]
    · rw [List.getElem?_set_ne]
      rintro rfl
      exact hj rfl
/-- the answer is such a list: frozen, all else forgotten -/
theorem Gh.ansLV {B X : VHeap} {es : Nat} {v : VVal} {cs : List VVal} {len : Nat} (hB : BaseOk H B) (l : LV B.length es X v cs len) (hu : VVal.underL H.length cs = true) : Gh S H [v] (B ++ X) [.fsl cs len es false] B := by
  obtain ⟨X', g, _⟩ := Gh.freezeLV (S := S) (H0 := H) (vs := [v]) 0 l rfl rfl
  exact Gh.trans g (Gh.back hB (by simp [VVal.underL, VVal.under, hu]))
end
end Go.V
namespace Go.V
open Go Go.RowKit
section
variable {S : Sys} {H0 H : VHeap} {ops : Array Oper} {o : Oper} {l : List Oper} {env : VEnv} {K : VEnv → VHeap → Prop}
/-- an operation of which a law tells what it comes to -/
theorem L_opX {R : VVal → VHeap → Prop} (hg : vwanted ops env o.guard = some true) (hc : calleeOf S.C.meth env.eval o.op = none) (hv : ∃ v G, vop S.C.T env.eval H o.op = some (v, G) ∧ R v G)
    (h : ∀ v G, R v G → WL S H0 ops l (env.put o.dst v) G K) : WL S H0 ops (o :: l) env H K := by
  obtain ⟨v, G, h1, h2⟩ := hv
  exact L_op hg hc h1 rfl (h v G h2)
end
section
variable {S : Sys} {H : VHeap} {ops : Array Oper} {bef : Array Nat} {i : Nat} {li : List Nat} {o : Oper} {env : VEnv} {tk tk' : List (Nat × Tr)} {K : VEnv → VHeap → Prop}
theorem O_opX {R : VVal → VHeap → Prop} (c : Cls) (ho : ops[i]? = some o) (hg : vwanted ops env o.guard = some true) (hc : calleeOf S.C.meth env.eval o.op = none)
    (hv : ∃ v G, vop S.C.T env.eval H o.op = some (v, G) ∧ R v G) (hk : clsOf S.C.T o.op = c) (ht : tk ++ [(i, .k c)] = tk') (h : ∀ v G, R v G → WO S ops bef li (env.put o.dst v) G tk' K) : WO S ops bef (i :: li) env H tk K := by
  obtain ⟨v, G, h1, h2⟩ := hv
  exact O_op ho hg hc h1 hk rfl ht (h v G h2)
theorem O_env {env' : VEnv} (he : env = env') (h : WO S ops bef li env' H tk K) : WO S ops bef li env H tk K := he ▸ h
end
section
variable {T : TypeId → Option VTy} {ρ : Operand → VVal} {H : VHeap} {op : Op}
/-- v_appB, told as a law -/
theorem v_appX {s x : Operand} {ats : Array TypeId} {t u e : TypeId} {z : VTy} {du : TypeDesc} {v : VVal} {Y : VHeap} {cs new : List VVal} {len k : Nat} {kx : Nat}
    (ho : op = .call { callee := .builtin .append, args := #[s, x], argTypes := ats }) (hat : ats = #[t, u]) (hz : velem T t = some (e, z)) (hu : (T u).map (·.desc) = some du) (hdu : isSeq du = true)
    (hs : ρ s = v) (hx : ρ x = .slice (some (H.length + Y.length, 0)) k kx true z.size) (l : LV H.length z.size Y v cs len) (hn : new.length = k * z.size) (h1 : new.all VVal.one = true) (hp : 0 < z.size)
    (hb : (len + k) * z.bytes ≤ 140737488355328 ∧ len + k ≤ 140737488355328) (hk : 0 < k) :
    ∃ u G, vop T ρ (H ++ (Y ++ [.cells new true])) op = some (u, G) ∧ ∃ Y1, u = .slice (some (H.length + (Y.length + 1), 0)) (len + k) (len + k) false z.size ∧ G = H ++ (Y1 ++ [.cells new true, .cells (cs ++ new) true]) ∧ Y1.length = Y.length ∧ (∀ i, vidx v ≠ some (H.length + i) → Y1[i]? = Y[i]?) ∧
      LV H.length z.size (Y1 ++ [.cells new true, .cells (cs ++ new) true]) (.slice (some (H.length + (Y.length + 1), 0)) (len + k) (len + k) false z.size) (cs ++ new) (len + k) := by
  obtain ⟨Y1, h1', h2, h3, h4⟩ := v_appB (ρ := ρ) (H := H) (op := op) ho hat hz hu hdu hs hx l hn h1 hp hb hk
  exact ⟨_, _, h1', Y1, rfl, rfl, h2, h3, h4⟩
end
end Go.V
namespace Go.V
open Go Go.RowKit
section
variable {T : TypeId → Option VTy} {ρ : Operand → VVal} {H : VHeap} {op : Op}
/-- an append of a list that nobody writes any more to a fresh slice of nothing -/
theorem v_appE {s x : Operand} {ats : Array TypeId} {t u e : TypeId} {z : VTy} {du : TypeDesc} {L : VHeap} {cs : List VVal} {j k : Nat} {ex : Bool}
    (ho : op = .call { callee := .builtin .append, args := #[s, x], argTypes := ats }) (hat : ats = #[t, u]) (hz : velem T t = some (e, z)) (hu : (T u).map (·.desc) = some du) (hdu : isSeq du = true)
    (hs : ρ s = .slice (some (H.length + j, 0)) 0 0 true z.size) (hj : L[j]? = some (.cells [] true)) (hx : ρ x = .fsl cs k z.size ex) (hn : cs.length = k * z.size) (h1 : cs.all VVal.one = true) (hp : 0 < z.size)
    (hb : k * z.bytes ≤ 140737488355328 ∧ k ≤ 140737488355328) :
    ∃ v G, vop T ρ (H ++ L) op = some (v, G) ∧ ∃ Z i, G = H ++ (L ++ Z) ∧ v = .slice (some (H.length + i, 0)) k k (decide (k = 0)) z.size ∧ (L ++ Z)[i]? = some (.cells cs true) := by
  have hk' : srcLen (ρ x) = some k := by rw [hx]; rfl
  have hsrc : srcCells (H ++ L) z.size k (ρ x) = some cs := by
    rw [hx]
    show cellsAt cs 0 (k * z.size) = some cs
    unfold cellsAt; rw [if_pos (by omega), List.drop_zero, List.take_of_length_le (by omega)]
  by_cases h0 : k = 0
  · subst h0
    have hcs : cs = [] := List.eq_nil_of_length_eq_zero (by omega)
    subst hcs
    refine ⟨_, _, ?_, [], j, by rw [List.append_nil], rfl, by rw [List.append_nil]; exact hj⟩
    rw [ho, hat]
    simp only [vop, vbuiltin, List.map_cons, List.map_nil, vappend, hz, hs, hu, hk']
    rw [hsrc]
    simp only
    rw [if_pos ⟨hn, h1, hp, by simp, by simp, hdu⟩]
    rw [if_pos trivial, get_app rfl (x := .cells [] true) hj]
    rfl
  · refine ⟨.slice (some (H.length + L.length, 0)) k k false z.size, H ++ (L ++ [.cells cs true]), ?_, [.cells cs true], L.length, rfl, ?_, by simp⟩
    · rw [ho, hat]
      simp only [vop, vbuiltin, List.map_cons, List.map_nil, vappend, hz, hs, hu, hk']
      rw [hsrc]
      simp only
      rw [if_pos ⟨hn, h1, hp, by simpa using hb.1, by simpa using hb.2, hdu⟩]
      rw [if_pos trivial, get_app rfl (x := .cells [] true) hj]
      simp only
      rw [if_neg (by omega)]
      simp [cellsAt]
    · rw [decide_eq_false h0]
end
end Go.V
namespace Go.V
theorem LV.ne {h es n : Nat} {X : VHeap} {v : VVal} {cs : List VVal} {len : Nat} (l : LV h es X v cs len) (hn : X.length ≤ n) : vidx v ≠ some (h + n) := by
  rcases l.2 with ⟨_, rfl⟩ | ⟨_, b, rfl, hb⟩
  · simp [vidx]
  · have := (List.getElem?_eq_some_iff.1 hb).1
    simp only [vidx, ne_eq, Option.some.injEq]; omega
end Go.V
namespace Go.V
open Go Go.RowKit
/-- the arguments seen otherwise -/
theorem F.pre {S : Sys} {f : FuncId} {args args' : List VVal} {H H' : VHeap} {R : VVal → VHeap → Prop} (g : Gh S H args H args' H') (h : F S f args' H' R) : F S f args H R := by
  intro n w ι xs s r
  obtain ⟨gl, g2⟩ := g (Nat.le_refl _)
  obtain ⟨ι1, e1, s1, r1⟩ := g2 w ι xs.toList (Base.self s) s r
  obtain ⟨a, b⟩ := h n w ι1 xs s1 r1
  refine ⟨a, CallsIn.mono b ?_⟩
  rintro e w' ⟨x, v, G, ι', h1, h2, h3, h4, h5, h6⟩
  exact ⟨x, v, G, ι', h1, Inj.ex_trans e1 h2 gl, Nat.le_trans gl h3, h4, h5, h6⟩
section
variable {T : TypeId → Option VTy} {ρ : Operand → VVal} {H : VHeap} {op : Op}
/-- an append of a list that nobody writes any more to an own slice without spare room -/
theorem v_appO {s x : Operand} {ats : Array TypeId} {t u e : TypeId} {z : VTy} {du : TypeDesc} {L : VHeap} {cs fs : List VVal} {j n k : Nat} {ex ex2 : Bool}
    (ho : op = .call { callee := .builtin .append, args := #[s, x], argTypes := ats }) (hat : ats = #[t, u]) (hz : velem T t = some (e, z)) (hu : (T u).map (·.desc) = some du) (hdu : isSeq du = true)
    (hs : ρ s = .slice (some (H.length + j, 0)) n n ex z.size) (hj : L[j]? = some (.cells cs true)) (hcs : cs.length = n * z.size) (hx : ρ x = .fsl fs k z.size ex2) (hn : fs.length = k * z.size) (h1 : fs.all VVal.one = true) (hp : 0 < z.size)
    (hb : (n + k) * z.bytes ≤ 140737488355328 ∧ n + k ≤ 140737488355328) :
    ∃ v G, vop T ρ (H ++ L) op = some (v, G) ∧ ∃ Z i c ex', G = H ++ Z ∧ v = .slice (some (H.length + i, 0)) (n + k) c ex' z.size ∧ n + k ≤ c ∧ Z[i]? = some (.cells (cs ++ fs) true) := by
  have hk' : srcLen (ρ x) = some k := by rw [hx]; rfl
  have hsrc : srcCells (H ++ L) z.size k (ρ x) = some fs := by
    rw [hx]
    show cellsAt fs 0 (k * z.size) = some fs
    unfold cellsAt; rw [if_pos (by omega), List.drop_zero, List.take_of_length_le (by omega)]
  have hca : cellsAt cs 0 (n * z.size) = some cs := by
    unfold cellsAt; rw [if_pos (by omega), List.drop_zero, List.take_of_length_le (by omega)]
  have start : ∀ r, (vop T ρ (H ++ L) op = some r ↔ (if n + k ≤ n then (if k = 0 then some (.slice (some (H.length + j, 0)) n n ex z.size, H ++ L) else if true = true ∧ 0 + n * z.size ≤ cs.length then some (.slice (some (H.length + j, 0)) (n + k) n ex z.size, (H ++ L).set (H.length + j) (.cells (splice cs (0 + n * z.size) fs) true)) else none)
      else if ex = true then some (.slice (some ((H ++ L).length, 0)) (n + k) (n + k) false z.size, (H ++ L) ++ [.cells (cs ++ fs) true]) else some (.slice (some ((H ++ L).length, 0)) (n + k) (n + k) false z.size, (H ++ L).set (H.length + j) .dead ++ [.cells (cs ++ fs) true])) = some r) := by
    intro r
    rw [ho, hat]
    simp only [vop, vbuiltin, List.map_cons, List.map_nil, vappend, hz, hs, hu, hk']
    rw [hsrc]
    simp only
    rw [if_pos ⟨hn, h1, hp, hb.1, hb.2, hdu⟩, if_pos trivial, get_app rfl (x := .cells cs true) hj]
    simp only [hca, if_true]
  by_cases h0 : k = 0
  · subst h0
    have hfs : fs = [] := List.eq_nil_of_length_eq_zero (by omega)
    subst hfs
    refine ⟨_, _, (start _).2 (by rw [if_pos (by omega), if_pos rfl]; rfl), L, j, n, ex, rfl, rfl, by omega, by rw [List.append_nil]; exact hj⟩
  · cases ex with
    | true => exact ⟨_, _, (start _).2 (by rw [if_neg (by omega), if_pos rfl]), L ++ [.cells (cs ++ fs) true], L.length, n + k, false, by rw [List.append_assoc], by rw [List.length_append], Nat.le_refl _, by simp⟩
    | false => exact ⟨_, _, (start _).2 (by rw [if_neg (by omega), if_neg (by simp)]), L.set j .dead ++ [.cells (cs ++ fs) true], L.length, n + k, false, by rw [set_app rfl, List.append_assoc], by rw [List.length_append], Nat.le_refl _, by
        rw [List.getElem?_append_right (by simp)]; simp⟩
end
end Go.V
namespace Go.V
open Go Go.RowKit
section
variable {T : TypeId → Option VTy} {ρ : Operand → VVal} {H : VHeap} {op : Op}
/-- the first k of a list that nobody writes any more -/
theorem v_sliceHi {t e : TypeId} {x hi : Operand} {y z : VTy} {cs : List VVal} {len es k : Nat} {ex : Bool} {kd : IntKind} (ho : op = .slice t x none (some hi) none) (hy : T t = some y) (hd : y.desc = .slice e) (hz : T e = some z) (hs : z.size = es) (hx : ρ x = .fsl cs len es ex) (hh : ρ hi = .int kd (k : Nat)) (hk : k ≤ len)
    (hl : cs.length = len * es) : vop T ρ H op = some (.fsl (cs.take (k * es)) k es (ex && k == len), H) := by
  have hle : k * es ≤ len * es := Nat.mul_le_mul_right _ hk
  rw [ho]
  have hc : cellsAt cs 0 (k * es) = some (cs.take (k * es)) := by unfold cellsAt; rw [if_pos (by omega), List.drop_zero]
  have hb : vbounds len len none (some (.int kd (k : Nat))) none = some (0, k, len) := by
    simp only [vbounds]
    rw [if_pos (by omega)]
    simp
  simp [vop, vslice, hy, hd, hx, hz, hs, hh, hb, hc]
/-- .. what comes behind them -/
theorem v_sliceLo {t e : TypeId} {x lo : Operand} {y z : VTy} {cs : List VVal} {len es k : Nat} {ex : Bool} {kd : IntKind} (ho : op = .slice t x (some lo) none none) (hy : T t = some y) (hd : y.desc = .slice e) (hz : T e = some z) (hs : z.size = es) (hx : ρ x = .fsl cs len es ex) (hh : ρ lo = .int kd (k : Nat)) (hk : k ≤ len)
    (hl : cs.length = len * es) : vop T ρ H op = some (.fsl (cs.drop (k * es)) (len - k) es ex, H) := by
  have hle : k * es ≤ len * es := Nat.mul_le_mul_right _ hk
  rw [ho]
  have hc : cellsAt cs (k * es) ((len - k) * es) = some (cs.drop (k * es)) := by
    unfold cellsAt; rw [if_pos (by rw [Nat.sub_mul]; omega), List.take_of_length_le (by rw [List.length_drop, Nat.sub_mul]; omega)]
  have hb : vbounds len len (some (.int kd (k : Nat))) none none = some (k, len, len) := by
    simp only [vbounds]
    rw [if_pos (by omega)]
    simp
  simp [vop, vslice, hy, hd, hx, hz, hs, hh, hb, hc]
end
end Go.V
namespace Go.V
open Go Go.RowKit
theorem O_opXI {S : Sys} {H : VHeap} {ops : Array Oper} {bef : Array Nat} {i : Nat} {li : List Nat} {o : Oper} {env : VEnv} {tk : List (Nat × Tr)} {K : VEnv → VHeap → Prop} {R : VVal → VHeap → Prop} (x : VVal → VHeap → Item') (ho : ops[i]? = some o) (hg : vwanted ops env o.guard = some true) (hc : calleeOf S.C.meth env.eval o.op = none)
    (hv : ∃ v G, vop S.C.T env.eval H o.op = some (v, G) ∧ R v G) (hx : ∀ v G, itemOf S.C.T o.op env.eval v H G = x v G) (h : ∀ v G, R v G → WO S ops bef li (env.put o.dst v) G (tk ++ [(i, .it (x v G))]) K) : WO S ops bef (i :: li) env H tk K := by
  obtain ⟨v, G, h1, h2⟩ := hv
  exact O_opI ho hg hc h1 (hx v G) rfl rfl (h v G h2)
end Go.V
namespace Go.V
open Go Go.RowKit
theorem v_is {T : TypeId → Option VTy} {ρ : Operand → VVal} {H : VHeap} {op : Op} {t : Bool} (b : Bool) (h : vop T ρ H op = some (.bool t, H)) (e : t = b) : vop T ρ H op = some (.bool b, H) := e ▸ h
theorem v_val {T : TypeId → Option VTy} {ρ : Operand → VVal} {H : VHeap} {op : Op} {v u : VVal} (h : vop T ρ H op = some (v, H)) (e : v = u) : vop T ρ H op = some (u, H) := e ▸ h
end Go.V

set_option autoImplicit false
set_option linter.unusedVariables false
namespace Go.V
open Go

/-! ### Words -/
/-- the word of the places below k that p holds of -/
def wdn (p : Nat → Bool) : Nat → BitVec 64
  | 0 => 0#64
  | k + 1 => if p k = true then wdn p k ||| 1#64 <<< k else wdn p k
def wd (p : Nat → Bool) : BitVec 64 := wdn p 64

theorem shl_bit (k i : Nat) : (1#64 <<< k).getLsbD i = (decide (i = k) && decide (i < 64)) := by
  rw [BitVec.getLsbD_shiftLeft]
  by_cases h : i < 64
  · by_cases h1 : i < k
    · simp [h, h1]; omega
    · by_cases h2 : i = k
      · subst h2; simp [h]
      · have : ¬ (i - k = 0) := by omega
        simp [h, h1, h2, this]
  · simp [h]
theorem or_bit (w : BitVec 64) (k i : Nat) : (w ||| 1#64 <<< k).getLsbD i = (w.getLsbD i || (decide (i = k) && decide (i < 64))) := by
  rw [BitVec.getLsbD_or, shl_bit]
theorem wdn_bit (p : Nat → Bool) : ∀ (k i : Nat), (wdn p k).getLsbD i = (decide (i < k) && decide (i < 64) && p i)
  | 0, i => by simp [wdn]
  | k + 1, i => by
    unfold wdn
    split
    · rename_i hp
      rw [or_bit, wdn_bit p k i]
      by_cases h1 : i = k
      · subst h1; simp [hp]
      · by_cases h2 : i < k
        · have h3 : i < k + 1 := by omega
          simp [h1, h2, h3]
        · have h3 : ¬ i < k + 1 := by omega
          simp [h1, h2, h3]
    · rename_i hp
      rw [wdn_bit p k i]
      by_cases h1 : i = k
      · subst h1; simp at hp; simp [hp]
      · by_cases h2 : i < k
        · have h3 : i < k + 1 := by omega
          simp [h2, h3]
        · have h3 : ¬ i < k + 1 := by omega
          simp [h2, h3]
theorem wd_bit (p : Nat → Bool) (i : Nat) : (wd p).getLsbD i = (decide (i < 64) && p i) := by
  unfold wd; rw [wdn_bit]; simp
theorem word_ext {a b : BitVec 64} (h : ∀ i, i < 64 → a.getLsbD i = b.getLsbD i) : a = b := BitVec.eq_of_getLsbD_eq h
theorem wd_eq {p : Nat → Bool} {w : BitVec 64} (h : ∀ i, i < 64 → w.getLsbD i = p i) : w = wd p := word_ext fun i hi => by rw [wd_bit, h i hi]; simp [hi]
theorem wd_congr {p q : Nat → Bool} (h : ∀ i, i < 64 → p i = q i) : wd p = wd q := wd_eq fun i hi => by rw [wd_bit, h i hi]; simp [hi]
theorem wdn_wd (p : Nat → Bool) (k : Nat) : wdn p k = wd fun i => decide (i < k) && p i := wd_eq fun i hi => by rw [wdn_bit]; simp [hi]
theorem andNot_zero {a b : BitVec 64} : a &&& ~~~b = 0#64 ↔ ∀ i, i < 64 → a.getLsbD i = true → b.getLsbD i = true := by
  constructor
  · intro h i hi ha
    have := congrArg (fun w => w.getLsbD i) h
    simp only [BitVec.getLsbD_and, BitVec.getLsbD_not, ha, hi, decide_true, Bool.true_and, BitVec.getLsbD_zero, Bool.not_eq_false'] at this
    exact this
  · intro h
    refine word_ext fun i hi => ?_
    rw [BitVec.getLsbD_and, BitVec.getLsbD_not, BitVec.getLsbD_zero]
    cases ha : a.getLsbD i with
    | false => rfl
    | true => simp [h i hi ha]
theorem and_zero {a b : BitVec 64} : a &&& b = 0#64 ↔ ∀ i, i < 64 → a.getLsbD i = true → b.getLsbD i = false := by
  constructor
  · intro h i hi ha
    have := congrArg (fun w => w.getLsbD i) h
    simpa only [BitVec.getLsbD_and, ha, Bool.true_and, BitVec.getLsbD_zero] using this
  · intro h
    refine word_ext fun i hi => ?_
    rw [BitVec.getLsbD_and, BitVec.getLsbD_zero]
    cases ha : a.getLsbD i with
    | false => rfl
    | true => simp [h i hi ha]
theorem mem_pl {w : BitVec 64} {k c : Nat} : c ∈ pl w k ↔ k ≤ c ∧ c < 64 ∧ w.getLsbD c = true := by
  unfold pl
  rw [List.mem_filter, List.mem_range'_1]
  constructor
  · rintro ⟨⟨h1, h2⟩, h3⟩; exact ⟨h1, by omega, h3⟩
  · rintro ⟨h1, h2, h3⟩; exact ⟨⟨h1, by omega⟩, h3⟩
theorem pl_contains {p : Nat → Bool} {b : Nat} (h : b < 64) : (pl (wd p) 0).contains b = p b := by
  cases hp : p b with
  | true =>
    have : b ∈ pl (wd p) 0 := mem_pl.2 ⟨Nat.zero_le _, h, by rw [wd_bit, hp]; simp [h]⟩
    simpa using this
  | false =>
    have : ¬ b ∈ pl (wd p) 0 := fun hm => by
      have := (mem_pl.1 hm).2.2
      rw [wd_bit, hp] at this; simp at this
    simpa using this
theorem word_zero {a : BitVec 64} : a = 0#64 ↔ ∀ i, i < 64 → a.getLsbD i = false := by
  constructor
  · rintro rfl i _; simp
  · intro h; exact word_ext fun i hi => by rw [h i hi]; simp

/-! ### What is reached: by ways whose places between are below k -/
def rv (E : Nat → Nat → Bool) : Nat → Nat → Nat → Bool
  | 0, a, b => E a b
  | k + 1, a, b => rv E k a b || (rv E k a k && rv E k k b)

theorem rv_row (E : Nat → Nat → Bool) (k b : Nat) : rv E (k + 1) k b = rv E k k b := by
  simp only [rv]; cases rv E k k b <;> simp
theorem rv_col (E : Nat → Nat → Bool) (k a : Nat) : rv E (k + 1) a k = rv E k a k := by
  simp only [rv]; cases rv E k a k <;> simp
theorem rv_step {E : Nat → Nat → Bool} {k a b : Nat} (h : rv E k a b = true) : rv E (k + 1) a b = true := by simp [rv, h]
theorem rv_mono {E : Nat → Nat → Bool} {k m a b : Nat} (h : k ≤ m) (hr : rv E k a b = true) : rv E m a b = true := by
  induction h with
  | refl => exact hr
  | step _ ih => exact rv_step ih

/-- places below k may be put between -/
theorem rv_trans {E : Nat → Nat → Bool} : ∀ {k a b c : Nat}, c < k → rv E k a c = true → rv E k c b = true → rv E k a b = true
  | k + 1, a, b, c, hc, h1, h2 => by
    simp only [rv, Bool.or_eq_true, Bool.and_eq_true] at h1 h2 ⊢
    by_cases hck : c = k
    · subst hck
      right
      refine ⟨?_, ?_⟩
      · rcases h1 with h1 | h1
        · exact h1
        · exact h1.1
      · rcases h2 with h2 | h2
        · exact h2
        · exact h2.2
    · have hlt : c < k := by omega
      rcases h1 with h1 | ⟨h1, h1'⟩ <;> rcases h2 with h2 | ⟨h2, h2'⟩
      · exact .inl (rv_trans hlt h1 h2)
      · exact .inr ⟨rv_trans hlt h1 h2, h2'⟩
      · exact .inr ⟨h1, rv_trans hlt h1' h2⟩
      · exact .inr ⟨h1, h2'⟩

/-- .. the least that may -/
theorem rv_least {E : Nat → Nat → Bool} {R : Nat → Nat → Prop} (hE : ∀ a b, E a b = true → R a b) : ∀ {k : Nat}, (∀ a b c, c < k → R a c → R c b → R a b) → ∀ {a b : Nat}, rv E k a b = true → R a b
  | 0, _, a, b, h => hE a b h
  | k + 1, hT, a, b, h => by
    simp only [rv, Bool.or_eq_true, Bool.and_eq_true] at h
    have hT' : ∀ a b c, c < k → R a c → R c b → R a b := fun a b c hc => hT a b c (by omega)
    rcases h with h | ⟨h1, h2⟩
    · exact rv_least hE hT' h
    · exact hT a b k (by omega) (rv_least hE hT' h1) (rv_least hE hT' h2)
end Go.V

set_option autoImplicit false
set_option linter.unusedVariables false
namespace Go.V
open Go

theorem rmap_getD {α : Type} {m i : Nat} {f : Nat → α} {d : α} (h : i < m) : ((List.range m).map f).getD i d = f i := by
  simp [List.getD_eq_getElem?_getD, h]
theorem rmap_set {α : Type} {m a : Nat} {f : Nat → α} {v : α} : ((List.range m).map f).set a v = (List.range m).map fun i => if i = a then v else f i := by
  apply List.ext_getElem?
  intro i
  rw [List.getElem?_set]
  by_cases h : a = i
  · subst h
    by_cases hm : a < m <;> simp [hm]
  · have h' : ¬ i = a := fun e => h e.symm
    by_cases hm : i < m <;> simp [hm, h, h']
theorem rmap_congr {α : Type} {m : Nat} {f g : Nat → α} (h : ∀ i, i < m → f i = g i) : (List.range m).map f = (List.range m).map g :=
  List.map_congr_left fun i hi => h i (List.mem_range.1 hi)
theorem rmap_len {α : Type} {m : Nat} {f : Nat → α} : ((List.range m).map f).length = m := by simp

theorem wd_or {p q : Nat → Bool} : wd p ||| wd q = wd fun i => p i || q i := wd_eq fun i hi => by rw [BitVec.getLsbD_or, wd_bit, wd_bit]; simp [hi]
theorem wd_orShl {p : Nat → Bool} {k : Nat} : wd p ||| 1#64 <<< k = wd fun i => p i || decide (i = k) := wd_eq fun i hi => by rw [or_bit, wd_bit]; simp [hi]

section
variable (E : Nat → Nat → Bool)
/-- the rows as phase k has come to row a -/
def mixR (k a m : Nat) : List (BitVec 64) := (List.range m).map fun i => wd (if i < a then rv E (k + 1) i else rv E k i)
def rowsR (k m : Nat) : List (BitVec 64) := (List.range m).map fun i => wd (rv E k i)
variable {E}
theorem mix0 {k m : Nat} : mixR E k 0 m = rowsR E k m := rmap_congr fun i _ => by simp
theorem mixEnd {k m : Nat} : mixR E k m m = rowsR E (k + 1) m := rmap_congr fun i hi => by simp [hi]
theorem mix_len {k a m : Nat} : (mixR E k a m).length = m := by simp [mixR]
theorem rowsR_len {k m : Nat} : (rowsR E k m).length = m := by simp [rowsR]
theorem mix_row {k a m : Nat} (h : a < m) : (mixR E k a m).getD a 0 = wd (rv E k a) := by
  unfold mixR; rw [rmap_getD h]; simp
theorem mix_via {k a m : Nat} (h : k < m) : (mixR E k a m).getD k 0 = wd (rv E k k) := by
  unfold mixR; rw [rmap_getD h]
  split
  · exact wd_congr fun i _ => rv_row E k i
  · rfl
theorem mix_yes {k a m : Nat} (ha : a < m) (hk : k < m) (h : (wd (rv E k a)).getLsbD k = true) : (mixR E k a m).set a ((mixR E k a m).getD a 0 ||| (mixR E k a m).getD k 0) = mixR E k (a + 1) m := by
  rw [mix_row ha, mix_via hk, wd_or]
  rw [wd_bit] at h
  simp only [Bool.and_eq_true, decide_eq_true_eq] at h
  unfold mixR
  rw [rmap_set]
  refine rmap_congr fun i hi => ?_
  by_cases h1 : i = a
  · subst h1
    rw [if_pos rfl, if_pos (by omega)]
    refine wd_congr fun b _ => ?_
    simp [rv, h.2]
  · rw [if_neg h1]
    by_cases h2 : i < a
    · rw [if_pos h2, if_pos (by omega)]
    · rw [if_neg h2, if_neg (by omega)]
theorem mix_no {k a m : Nat} (ha : a < m) (hk : k < 64) (h : (wd (rv E k a)).getLsbD k = false) : mixR E k a m = mixR E k (a + 1) m := by
  rw [wd_bit] at h
  have h : rv E k a k = false := by simpa [hk] using h
  unfold mixR
  refine rmap_congr fun i hi => ?_
  by_cases h1 : i = a
  · subst h1
    rw [if_neg (by omega), if_pos (by omega)]
    refine wd_congr fun b _ => ?_
    simp [rv, h]
  · by_cases h2 : i < a
    · rw [if_pos h2, if_pos (by omega)]
    · rw [if_neg h2, if_neg (by omega)]
end

/-! pairs of places -/
def edg (l : List (Int × Int)) (a b : Nat) : Bool := l.any fun p => p.1 == (a : Int) && p.2 == (b : Int)
def inR (n : Int) (p : Int × Int) : Bool := decide (0 ≤ p.1 ∧ p.1 < n) && decide (0 ≤ p.2 ∧ p.2 < n)
def iniR (l : List (Int × Int)) (m : Nat) : List (BitVec 64) := (List.range m).map fun a => wd (edg l a)
theorem ini_len {l : List (Int × Int)} {m : Nat} : (iniR l m).length = m := by simp [iniR]
theorem ini_nil {m : Nat} : iniR [] m = List.replicate m 0#64 := by
  unfold iniR
  rw [show (fun a => wd (edg [] a)) = fun _ => 0#64 from by
    funext a
    exact word_ext fun i hi => by rw [wd_bit]; simp [edg]]
  rw [List.map_const', List.length_range]
theorem ini_step {l : List (Int × Int)} {m : Nat} {p : Int × Int} (h : inR m p = true) (hm : m ≤ 64) : (iniR l m).set p.1.toNat ((iniR l m).getD p.1.toNat 0 ||| 1#64 <<< p.2.toNat) = iniR (l ++ [p]) m := by
  simp only [inR, Bool.and_eq_true, decide_eq_true_eq] at h
  unfold iniR
  rw [rmap_getD (by omega), wd_orShl, rmap_set]
  refine rmap_congr fun i hi => ?_
  by_cases h1 : i = p.1.toNat
  · rw [if_pos h1, h1]
    refine wd_congr fun b hb => ?_
    simp only [edg, List.any_append, List.any_cons, List.any_nil, Bool.or_false]
    congr 1
    have : (p.1 == ((p.1.toNat : Nat) : Int)) = true := by simp; omega
    rw [this, Bool.true_and]
    by_cases h2 : b = p.2.toNat
    · subst h2; simp; omega
    · have : ¬ p.2 = (b : Int) := by omega
      simp [h2, this]
  · rw [if_neg h1]
    refine wd_congr fun b hb => ?_
    have : ¬ p.1 = (i : Int) := by omega
    simp [edg, this]

/-- who reaches whom, by pairs of m places -/
def rch (l : List (Int × Int)) (m : Nat) : Nat → Nat → Bool := rv (edg l) m
def sucL (l : List (Int × Int)) (m : Nat) : List (BitVec 64) := rowsR (edg l) m m
def preL (l : List (Int × Int)) (m : Nat) : List (BitVec 64) := (List.range m).map fun b => wd fun a => decide (a < m) && rch l m a b
theorem rows0 {l : List (Int × Int)} {m : Nat} : rowsR (edg l) 0 m = iniR l m := rfl

/-- the rows of those ahead, as all rows below a have been gone through, and of row a the places in pre -/
def preM (R : Nat → Nat → Bool) (a : Nat) (pre : List Nat) (m : Nat) : List (BitVec 64) := (List.range m).map fun b => wd fun i => (decide (i < a) && R i b) || (decide (i = a) && pre.contains b)
theorem preM_len {R : Nat → Nat → Bool} {a m : Nat} {pre : List Nat} : (preM R a pre m).length = m := by simp [preM]
theorem preM_0 {R : Nat → Nat → Bool} {m : Nat} : preM R 0 [] m = List.replicate m 0#64 := by
  unfold preM
  rw [show (fun b => wd fun i => (decide (i < 0) && R i b) || (decide (i = 0) && ([] : List Nat).contains b)) = fun _ => 0#64 from by
    funext b
    exact word_ext fun i hi => by rw [wd_bit]; simp]
  rw [List.map_const', List.length_range]
theorem preM_put {R : Nat → Nat → Bool} {a m b : Nat} {pre : List Nat} (hb : b < m) (ha : a < 64) : (preM R a pre m).set b ((preM R a pre m).getD b 0 ||| 1#64 <<< a) = preM R a (pre ++ [b]) m := by
  unfold preM
  rw [rmap_getD hb, wd_orShl, rmap_set]
  refine rmap_congr fun i hi => ?_
  by_cases h : i = b
  · subst h
    rw [if_pos rfl]
    refine wd_congr fun j hj => ?_
    by_cases hja : j = a
    · subst hja; simp
    · simp [hja]
  · rw [if_neg h]
    refine wd_congr fun j hj => ?_
    have : (pre ++ [b]).contains i = pre.contains i := by simp [h]
    rw [this]
theorem preM_next {R : Nat → Nat → Bool} {a m : Nat} {pre : List Nat} (h : ∀ b, b < m → pre.contains b = R a b) : preM R a pre m = preM R (a + 1) [] m := by
  unfold preM
  refine rmap_congr fun b hb => wd_congr fun i hi => ?_
  rw [h b hb]
  by_cases h1 : i = a
  · subst h1; simp
  · by_cases h2 : i < a
    · have : i < a + 1 := by omega
      simp [h1, h2, this]
    · have : ¬ i < a + 1 := by omega
      simp [h1, h2, this]
theorem preM_end {l : List (Int × Int)} {m : Nat} : preM (rch l m) m [] m = preL l m := by
  unfold preM preL
  exact rmap_congr fun b hb => wd_congr fun i hi => by simp

theorem edg_range {l : List (Int × Int)} {m a b : Nat} (hl : ∀ p, p ∈ l → inR m p = true) (h : edg l a b = true) : a < m ∧ b < m := by
  simp only [edg, List.any_eq_true, Bool.and_eq_true, beq_iff_eq] at h
  obtain ⟨p, hp, h1, h2⟩ := h
  have := hl p hp
  simp only [inR, Bool.and_eq_true, decide_eq_true_eq] at this
  omega
theorem rv_range {E : Nat → Nat → Bool} {m : Nat} (hE : ∀ a b, E a b = true → a < m ∧ b < m) : ∀ {k a b : Nat}, rv E k a b = true → a < m ∧ b < m
  | 0, a, b, h => hE a b h
  | k + 1, a, b, h => by
    simp only [rv, Bool.or_eq_true, Bool.and_eq_true] at h
    rcases h with h | ⟨h1, h2⟩
    · exact rv_range hE h
    · exact ⟨(rv_range hE h1).1, (rv_range hE h2).2⟩
theorem rch_range {l : List (Int × Int)} {m a b : Nat} (hl : ∀ p, p ∈ l → inR m p = true) (h : rch l m a b = true) : a < m ∧ b < m := rv_range (fun a b => edg_range hl) h
theorem sucL_len {l : List (Int × Int)} {m : Nat} : (sucL l m).length = m := rowsR_len
theorem preL_len {l : List (Int × Int)} {m : Nat} : (preL l m).length = m := by simp [preL]
theorem sucL_get {l : List (Int × Int)} {m a : Nat} (h : a < m) : (sucL l m).getD a 0 = wd (rch l m a) := by unfold sucL rowsR; rw [rmap_getD h]; rfl
theorem preL_get {l : List (Int × Int)} {m b : Nat} (h : b < m) : (preL l m).getD b 0 = wd fun a => decide (a < m) && rch l m a b := by unfold preL; rw [rmap_getD h]
end Go.V

set_option autoImplicit false
set_option linter.unusedVariables false
set_option linter.unusedSimpArgs false
set_option linter.unusedVariables false
namespace Go.V
open Go

theorem sh0 {d : BitVec 64} {k : Nat} : d >>> k &&& 1#64 = 0#64 ↔ d.getLsbD k = false := by
  have h := bit1 d k
  constructor
  · intro e; rw [e] at h; rw [← h]; decide
  · intro e
    rw [e] at h
    refine word_ext fun i hi => ?_
    rw [BitVec.getLsbD_and, BitVec.getLsbD_ushiftRight]
    by_cases h0 : i = 0
    · subst h0; simp [e]
    · have : (1#64).getLsbD i = false := by
        rw [show (1#64) = 1#64 <<< 0 from by decide, shl_bit]; simp [h0]
      rw [this, Bool.and_false]; simp
theorem sh1 {d : BitVec 64} {k : Nat} : d >>> k &&& 1#64 = 1#64 ↔ d.getLsbD k = true := by
  rw [← bit1 d k]; simp
theorem sh1n {d : BitVec 64} {k : Nat} : ¬ d >>> k &&& 1#64 = 1#64 ↔ d.getLsbD k = false := by
  rw [sh1]; simp

/-- the places below k all of whose words' bits are in d -/
def rdyN (ps : List (BitVec 64)) (d : BitVec 64) (k : Nat) : BitVec 64 := wd fun a => decide (a < k) && (ps.getD a 0 &&& ~~~d == 0#64)
def readyW (ps : List (BitVec 64)) (d : BitVec 64) : BitVec 64 := rdyN ps d ps.length &&& ~~~d
theorem rdyN_0 (ps : List (BitVec 64)) (d : BitVec 64) : rdyN ps d 0 = 0#64 := word_ext fun i _ => by simp [rdyN, wd_bit]
theorem rdyN_yes {ps : List (BitVec 64)} {d : BitVec 64} {k : Nat} (h : ps.getD k 0 &&& ~~~d = 0#64) : rdyN ps d k ||| 1#64 <<< k = rdyN ps d (k + 1) := by
  unfold rdyN
  rw [wd_orShl]
  refine wd_congr fun i hi => ?_
  by_cases h1 : i = k
  · subst h1
    have e : (ps.getD i 0 &&& ~~~d == 0#64) = true := by rw [h]; rfl
    rw [e]; simp
  · by_cases h2 : i < k
    · have : i < k + 1 := by omega
      simp [h1, h2, this]
    · have : ¬ i < k + 1 := by omega
      simp [h1, h2, this]
theorem rdyN_no {ps : List (BitVec 64)} {d : BitVec 64} {k : Nat} (h : ¬ ps.getD k 0 &&& ~~~d = 0#64) : rdyN ps d k = rdyN ps d (k + 1) := by
  unfold rdyN
  refine wd_congr fun i hi => ?_
  by_cases h1 : i = k
  · subst h1
    have : (ps.getD i 0 &&& ~~~d == 0#64) = false := by simpa using h
    simp only [this, Bool.and_false]
  · by_cases h2 : i < k
    · have : i < k + 1 := by omega
      simp [h2, this]
    · have : ¬ i < k + 1 := by omega
      simp [h2, this]
theorem readyW_bit {ps : List (BitVec 64)} {d : BitVec 64} {a : Nat} (ha : a < 64) : (readyW ps d).getLsbD a = (decide (a < ps.length) && (ps.getD a 0 &&& ~~~d == 0#64) && !d.getLsbD a) := by
  unfold readyW rdyN
  rw [BitVec.getLsbD_and, wd_bit, BitVec.getLsbD_not]; simp [ha]

def downA (ps : List (BitVec 64)) (s : BitVec 64) (a : Nat) : Bool := decide (a < ps.length) && (ps.getD a 0 &&& ~~~s == 0#64)
def downW (ps : List (BitVec 64)) (s : BitVec 64) : Bool := (pl s 0).all (downA ps s)
theorem downW_iff {ps : List (BitVec 64)} {s : BitVec 64} : downW ps s = true ↔ ∀ a, a < 64 → s.getLsbD a = true → a < ps.length ∧ ∀ b, b < 64 → (ps.getD a 0).getLsbD b = true → s.getLsbD b = true := by
  unfold downW
  rw [List.all_eq_true]
  constructor
  · intro h a ha hs
    have := h a (mem_pl.2 ⟨Nat.zero_le _, ha, hs⟩)
    simp only [downA, Bool.and_eq_true, decide_eq_true_eq, beq_iff_eq] at this
    exact ⟨this.1, andNot_zero.1 this.2⟩
  · intro h a ha
    obtain ⟨_, h1, h2⟩ := mem_pl.1 ha
    obtain ⟨h3, h4⟩ := h a h1 h2
    simp only [downA, Bool.and_eq_true, decide_eq_true_eq, beq_iff_eq]
    exact ⟨h3, andNot_zero.2 h4⟩

theorem downA_yes {ps : List (BitVec 64)} {s : BitVec 64} {a : Nat} (h : a < ps.length) (h2 : ps.getD a 0 &&& ~~~s = 0#64) : downA ps s a = true := by
  simp only [downA, Bool.and_eq_true, decide_eq_true_eq, beq_iff_eq]; exact ⟨h, h2⟩
theorem downW_no {ps : List (BitVec 64)} {s : BitVec 64} {a : Nat} (hc : a ∈ pl s 0) (h : ¬ (a < ps.length ∧ ps.getD a 0 &&& ~~~s = 0#64)) : downW ps s = false := by
  unfold downW
  rw [List.all_eq_false]
  refine ⟨a, hc, ?_⟩
  simp only [downA, Bool.and_eq_true, decide_eq_true_eq, beq_iff_eq]; exact h

/-! ### Counting -/
theorem countP_lt {α : Type} {p q : α → Bool} : ∀ {l : List α}, (∀ x, x ∈ l → p x = true → q x = true) → (∃ x, x ∈ l ∧ q x = true ∧ p x = false) → l.countP p < l.countP q
  | [], _, ⟨x, hx, _⟩ => by cases hx
  | y :: l, h, ⟨x, hx, h1, h2⟩ => by
    have hle : l.countP p ≤ l.countP q := List.countP_mono_left fun z hz => h z (List.mem_cons_of_mem _ hz)
    rcases List.mem_cons.1 hx with rfl | hx
    · rw [List.countP_cons_of_pos h1, List.countP_cons_of_neg (by simp [h2])]; omega
    · have ih := countP_lt (fun z hz => h z (List.mem_cons_of_mem _ hz)) ⟨x, hx, h1, h2⟩
      rw [List.countP_cons, List.countP_cons]
      have := h y (List.mem_cons_self ..)
      by_cases hp : p y = true
      · simp [hp, this hp]; omega
      · have hp' : p y = false := by simpa using hp
        cases hq : q y <;> simp [hp', hq] <;> omega
theorem countP_set {m a : Nat} {p q : Nat → Bool} (ha : a < m) (h0 : p a = false) (h1 : q a = true) (h : ∀ i, i < m → i ≠ a → p i = q i) : (List.range m).countP q = (List.range m).countP p + 1 := by
  induction m with
  | zero => omega
  | succ m ih =>
    rw [List.range_succ, List.countP_append, List.countP_append, List.countP_singleton, List.countP_singleton]
    by_cases hm : a = m
    · subst hm
      have : (List.range a).countP q = (List.range a).countP p := List.countP_congr fun i hi => by rw [h i (by have := List.mem_range.1 hi; omega) (by have := List.mem_range.1 hi; omega)]
      rw [this, h0, h1]; simp
    · rw [ih (by omega) (fun i hi hne => h i (by omega) hne), h m (by omega) (fun e => hm e.symm)]
      split <;> omega

/-- an order by words -/
structure Ord (m : Nat) (R : Nat → Nat → Bool) (ps ss : List (BitVec 64)) : Prop where
  le : m ≤ 64
  pl : ps.length = m
  sl : ss.length = m
  pg : ∀ a, a < m → ∀ b, (ps.getD a 0).getLsbD b = R b a
  sg : ∀ a, a < m → ∀ b, (ss.getD a 0).getLsbD b = R a b
  rg : ∀ a b, R a b = true → a < m ∧ b < m
  ir : ∀ a, R a a = false
  tr : ∀ a b c, R a b = true → R b c = true → R a c = true
theorem ord_of {l : List (Int × Int)} {m : Nat} (hm : m ≤ 64) (hl : ∀ p, p ∈ l → inR m p = true) (hc : ∀ i, i < m → rch l m i i = false) : Ord m (rch l m) (preL l m) (sucL l m) := by
  have hr : ∀ a b, rch l m a b = true → a < m ∧ b < m := fun a b h => rch_range hl h
  refine ⟨hm, preL_len, sucL_len, fun a ha b => ?_, fun a ha b => ?_, hr, fun a => ?_, fun a b c h1 h2 => rv_trans (hr _ _ h1).2 h1 h2⟩
  · rw [preL_get ha, wd_bit, Bool.eq_iff_iff]
    simp only [Bool.and_eq_true, decide_eq_true_eq]
    exact ⟨fun h => h.2.2, fun h => ⟨by have := hr _ _ h; omega, (hr _ _ h).1, h⟩⟩
  · rw [sucL_get ha, wd_bit, Bool.eq_iff_iff]
    simp only [Bool.and_eq_true, decide_eq_true_eq]
    exact ⟨fun h => h.2, fun h => ⟨by have := hr _ _ h; omega, h⟩⟩
  · by_cases h : a < m
    · exact hc a h
    · cases h2 : rch l m a a with
      | false => rfl
      | true => exact absurd (hr _ _ h2).1 h

section
variable {m : Nat} {R : Nat → Nat → Bool} {ps ss : List (BitVec 64)}
/-- what has come: closed downwards -/
structure Come (m : Nat) (R : Nat → Nat → Bool) (d : BitVec 64) : Prop where
  rg : ∀ a, d.getLsbD a = true → a < m
  dn : ∀ a b, R a b = true → d.getLsbD b = true → d.getLsbD a = true
theorem Come.nil : Come m R 0#64 := ⟨fun a h => by simp at h, fun a b _ h => by simp at h⟩
theorem Ord.pred (o : Ord m R ps ss) {a : Nat} (ha : a < m) {d : BitVec 64} : ps.getD a 0 &&& ~~~d = 0#64 ↔ ∀ b, R b a = true → d.getLsbD b = true := by
  rw [andNot_zero]
  have hm := o.le
  exact ⟨fun h b hb => h b (by have := (o.rg _ _ hb).1; omega) (by rw [o.pg a ha]; exact hb), fun h b _ hb => h b (by rw [o.pg a ha] at hb; exact hb)⟩
theorem Ord.ready (o : Ord m R ps ss) {d : BitVec 64} {a : Nat} : (readyW ps d).getLsbD a = true ↔ a < m ∧ (∀ b, R b a = true → d.getLsbD b = true) ∧ d.getLsbD a = false := by
  have hm := o.le
  by_cases h : a < 64
  · rw [readyW_bit h]
    simp only [Bool.and_eq_true, decide_eq_true_eq, beq_iff_eq, Bool.not_eq_true', o.pl]
    constructor
    · rintro ⟨⟨h1, h2⟩, h3⟩; exact ⟨h1, (o.pred h1).1 h2, h3⟩
    · rintro ⟨h1, h2, h3⟩; exact ⟨⟨h1, (o.pred h1).2 h2⟩, h3⟩
  · constructor
    · intro h2; rw [BitVec.getLsbD_of_ge _ _ (by omega)] at h2; cases h2
    · rintro ⟨h1, _⟩; omega
theorem Ord.down (o : Ord m R ps ss) {d : BitVec 64} : downW ps d = true ↔ Come m R d := by
  have hm := o.le
  rw [downW_iff]
  constructor
  · intro h
    refine ⟨fun a ha => ?_, fun a b hab hb => ?_⟩
    · have h64 : a < 64 := by
        rcases Nat.lt_or_ge a 64 with h1 | h1
        · exact h1
        · rw [BitVec.getLsbD_of_ge _ _ h1] at ha; cases ha
      have := (h a h64 ha).1; rw [o.pl] at this; exact this
    · obtain ⟨h1, h2⟩ := o.rg _ _ hab
      refine (h b (by omega) hb).2 a (by omega) ?_
      rw [o.pg b h2]; exact hab
  · intro c a ha hd
    have := c.rg a hd
    exact ⟨by rw [o.pl]; exact this, fun b _ hb => c.dn b a (by rw [o.pg a this] at hb; exact hb) hd⟩
/-- where not all have come, one may come -/
theorem Ord.some_ready (o : Ord m R ps ss) {d : BitVec 64} (hd : ∃ a, a < m ∧ d.getLsbD a = false) : ∃ a, (readyW ps d).getLsbD a = true := by
  have key : ∀ n a, a < m → d.getLsbD a = false → (List.range m).countP (fun b => R b a && !d.getLsbD b) ≤ n → ∃ a, (readyW ps d).getLsbD a = true := by
    intro n
    induction n with
    | zero =>
      intro a ha hda hn
      refine ⟨a, o.ready.2 ⟨ha, fun b hb => ?_, hda⟩⟩
      cases hbd : d.getLsbD b with
      | true => rfl
      | false =>
        have : 0 < (List.range m).countP (fun b => R b a && !d.getLsbD b) := List.countP_pos_iff.2 ⟨b, List.mem_range.2 (o.rg _ _ hb).1, by simp [hb, hbd]⟩
        omega
    | succ n ih =>
      intro a ha hda hn
      by_cases hex : ∃ b, R b a = true ∧ d.getLsbD b = false
      · obtain ⟨b, hb, hbd⟩ := hex
        refine ih b (o.rg _ _ hb).1 hbd ?_
        have : (List.range m).countP (fun c => R c b && !d.getLsbD c) < (List.range m).countP (fun c => R c a && !d.getLsbD c) := countP_lt (fun c _ h => by
          simp only [Bool.and_eq_true] at h ⊢
          exact ⟨o.tr _ _ _ h.1 hb, h.2⟩) ⟨b, List.mem_range.2 (o.rg _ _ hb).1, by simp [hb, hbd], by simp [o.ir]⟩
        omega
      · refine ⟨a, o.ready.2 ⟨ha, fun b hb => ?_, hda⟩⟩
        cases hbd : d.getLsbD b with
        | true => rfl
        | false => exact absurd ⟨b, hb, hbd⟩ hex
  obtain ⟨a, h1, h2⟩ := hd
  exact key _ a h1 h2 (Nat.le_refl _)
/-- one more has come -/
theorem Come.next (o : Ord m R ps ss) {d : BitVec 64} (c : Come m R d) {a : Nat} (ha : (readyW ps d).getLsbD a = true) : Come m R (d ||| 1#64 <<< a) := by
  obtain ⟨h1, h2, h3⟩ := o.ready.1 ha
  have hm := o.le
  refine ⟨fun b hb => ?_, fun b c2 hbc hc => ?_⟩
  · rw [or_bit] at hb
    rcases Bool.or_eq_true _ _ ▸ hb with h | h
    · exact c.rg b h
    · simp at h; omega
  · rw [or_bit] at hc ⊢
    rcases Bool.or_eq_true _ _ ▸ hc with h | h
    · rw [c.dn b c2 hbc h]; rfl
    · simp only [Bool.and_eq_true, decide_eq_true_eq] at h
      obtain ⟨rfl, _⟩ := h
      rw [h2 b hbc]; rfl
def come (m : Nat) (d : BitVec 64) : Nat := (List.range m).countP d.getLsbD
theorem come_next {d : BitVec 64} {a : Nat} (ha : a < m) (hm : m ≤ 64) (h : d.getLsbD a = false) : come m (d ||| 1#64 <<< a) = come m d + 1 := by
  unfold come
  refine countP_set ha h ?_ fun i hi hne => ?_
  · rw [or_bit]; simp; omega
  · rw [or_bit]; simp [hne]
theorem come_lt {d : BitVec 64} (h : come m d < m) : ∃ a, a < m ∧ d.getLsbD a = false := by
  apply Classical.byContradiction
  intro hn
  have : come m d = (List.range m).length := List.countP_eq_length.2 fun a ha => by
    cases hd : d.getLsbD a with
    | true => rfl
    | false => exact absurd ⟨a, List.mem_range.1 ha, hd⟩ hn
  simp at this; omega
theorem come_all {d : BitVec 64} (h : come m d = m) : ∀ a, a < m → d.getLsbD a = true := by
  have : (List.range m).countP d.getLsbD = (List.range m).length := by simp; exact h
  exact fun a ha => List.countP_eq_length.1 this a (List.mem_range.2 ha)
theorem come_0 : come m 0#64 = 0 := by unfold come; rw [List.countP_eq_zero]; simp
theorem Ord.ready_end (o : Ord m R ps ss) {d : BitVec 64} (h : come m d = m) : readyW ps d = 0#64 := by
  refine word_zero.2 fun i hi => ?_
  cases hr : (readyW ps d).getLsbD i with
  | false => rfl
  | true =>
    obtain ⟨h1, _, h3⟩ := o.ready.1 hr
    rw [come_all h i h1] at h3; cases h3
theorem Ord.ready_and {d : BitVec 64} (o : Ord m R ps ss) : readyW ps d &&& d = 0#64 := and_zero.2 fun i hi h => (o.ready.1 h).2.2
theorem Ord.ready_ne (o : Ord m R ps ss) {d : BitVec 64} (h : come m d < m) : readyW ps d ≠ 0#64 := by
  obtain ⟨a, ha⟩ := o.some_ready (come_lt h)
  intro e; rw [e] at ha; simp at ha
/-- none behind one that may come has come -/
theorem Ord.succ_none (o : Ord m R ps ss) {d : BitVec 64} (c : Come m R d) {a : Nat} (ha : (readyW ps d).getLsbD a = true) : ss.getD a 0 &&& d = 0#64 := by
  obtain ⟨h1, h2, h3⟩ := o.ready.1 ha
  refine and_zero.2 fun i hi h => ?_
  rw [o.sg a h1] at h
  cases hd : d.getLsbD i with
  | false => rfl
  | true => rw [c.dn a i h hd] at h3; cases h3
end

/-- going round by one to a place that is sought -/
def togo (c : Nat) (a : Nat) : Nat := if a ≤ c then c - a else 64 - a + c
theorem togo_next {c a : Nat} (hc : c < 64) (ha : a < 64) (h : a ≠ c) : togo c ((a + 1) % 64) < togo c a := by
  unfold togo
  by_cases h1 : a < c
  · rw [Nat.mod_eq_of_lt (by omega), if_pos (by omega), if_pos (by omega)]; omega
  · by_cases h2 : a = 63
    · subst h2; rw [if_pos (by simp), if_neg (by omega)]; simp
    · rw [Nat.mod_eq_of_lt (by omega), if_neg (by omega), if_neg (by omega)]; omega
end Go.V

set_option autoImplicit false
set_option linter.unusedVariables false
namespace Go.V
open Go Go.RowKit

structure EdgesOk (ops : Array Oper) (bef : Array Nat) : Prop where
  edge : ∀ i o, ops[i]? = some o → ∀ e, e ∈ o.after → Region.binds .any e = true → (bef.getD i 0).testBit e.on = true ∧ e.on < ops.size
  back : ∀ i o, ops[i]? = some o → ∀ m, (bef.getD i 0).testBit m = true → ∃ e, e ∈ o.after ∧ Region.binds .any e = true ∧ (e.on = m ∨ (bef.getD e.on 0).testBit m = true)
theorem edges_ok {ops : Array Oper} {bef : Array Nat} (h : befOk ops bef = true) : EdgesOk ops bef := by
  simp only [befOk, List.all_eq_true, List.mem_range] at h
  have hb : ∀ i o, ops[i]? = some o → bef.getD i 0 = o.after.toList.foldl (fun x e => if Region.binds .any e then x ||| 2 ^ e.on ||| bef.getD e.on 0 else x) 0 ∧ ∀ e, e ∈ o.after → Region.binds .any e = true → e.on < ops.size := by
    intro i o ho
    have := h i (Array.getElem?_eq_some_iff.1 ho).1
    rw [ho] at this
    simp only [Bool.and_eq_true, beq_iff_eq, List.all_eq_true, Bool.or_eq_true, Bool.not_eq_true', decide_eq_true_eq] at this
    refine ⟨this.1, fun e he hbd => ?_⟩
    rcases this.2 e (by simpa using he) with h | h
    · rw [hbd] at h; cases h
    · exact h
  refine ⟨fun i o ho e he hbd => ⟨?_, (hb i o ho).2 e he hbd⟩, fun i o ho m hm => ?_⟩
  · rw [(hb i o ho).1, fold_bits]
    exact .inr ⟨e, by simpa using he, hbd, .inl rfl⟩
  · rw [(hb i o ho).1, fold_bits] at hm
    rcases hm with h | ⟨e, he, hbd, h⟩
    · simp at h
    · exact ⟨e, by simpa using he, hbd, h⟩

def Lst (ops : Array Oper) (listed : Array Bool) (pre : List Nat) : Prop := listed.size = ops.size ∧ ∀ i, i < ops.size → (listed.getD i false = true ↔ i ∈ pre)
def left (ops : Array Oper) (listed : Array Bool) : Nat := (List.range ops.size).countP fun i => !listed.getD i false

/-- with pre done: what is left comes to an end of which K holds -/
def WP (S : Sys) (ops : Array Oper) (pre : List Nat) (env : VEnv) (H : VHeap) (K : VEnv → VHeap → Prop) : Prop :=
  ∀ (ro : Option Nat) (n : Nat) (Q : Exit → Act → World → Prop) (fuel : Nat) (listed : Array Bool) (a : Act) (w : World) (ι : Inj), Lst ops listed pre → left ops listed ≤ fuel → Sim S.w0 ι H w → RelL ι env a.tmps.toList →
    (∀ a' w' ι' env' H', a'.defers = a.defers → Inj.ex H.length ι ι' → H.length ≤ H'.length → Sim S.w0 ι' H' w' → RelL ι' env' a'.tmps.toList → K env' H' → Q .normal a' w') →
    wpAnyIn (WF ro) n S.P .any ops Q fuel listed a w

def closedB (ops : Array Oper) (bef : Array Nat) (pre : List Nat) : Bool := pre.all fun x => (List.range ops.size).all fun m => !(bef.getD x 0).testBit m || pre.contains m
def pivB (ops : Array Oper) (bef : Array Nat) (pre : List Nat) (p : Nat) : Bool :=
  closedB ops bef pre && decide (p < ops.size) && !pre.contains p && (List.range ops.size).all (fun j => pre.contains j || j == p || (bef.getD j 0).testBit p) && (List.range ops.size).all (fun m => !(bef.getD p 0).testBit m || pre.contains m)
def segB (ops : Array Oper) (bef : Array Nat) (pre A : List Nat) : Bool :=
  (List.range ops.size).all (fun i => decide (bef.getD i 0 < 2 ^ ops.size)) && closedB ops bef pre && orderOk bef A && A.all (fun i => decide (i < ops.size) && !pre.contains i) && (List.range ops.size).all (fun j => pre.contains j || A.contains j || A.all fun s => (bef.getD j 0).testBit s) &&
    A.all (fun i => (List.range ops.size).all fun m => !(bef.getD i 0).testBit m || pre.contains m || A.contains m)

section
variable {S : Sys} {H : VHeap} {ops : Array Oper} {bef : Array Nat} {env : VEnv} {K : VEnv → VHeap → Prop} {pre : List Nat}

theorem listed_size {listed : Array Bool} {i : Nat} (h1 : listed.size = ops.size) (h2 : i < ops.size) : listed.getD i true = listed.getD i false := by
  rw [Array.getD_eq_getD_getElem?, Array.getD_eq_getD_getElem?, Array.getElem?_eq_getElem (by omega)]; rfl
theorem listed_set {listed : Array Bool} {i j : Nat} (h1 : listed.size = ops.size) (h2 : i < ops.size) : (listed.setIfInBounds i true).getD j false = (j == i || listed.getD j false) := by
  rw [Array.getD_eq_getD_getElem?, Array.getElem?_setIfInBounds]
  by_cases hj : i = j
  · subst hj; simp [h1, h2]
  · rw [if_neg hj]
    have : (j == i) = false := by simp; exact fun h => hj h.symm
    rw [this, Bool.false_or, Array.getD_eq_getD_getElem?]
theorem left_set {listed : Array Bool} {i : Nat} (h1 : listed.size = ops.size) (h2 : i < ops.size) (h3 : listed.getD i false = false) : left ops (listed.setIfInBounds i true) < left ops listed := by
  unfold left
  refine countP_lt (fun j _ h => ?_) ⟨i, List.mem_range.2 h2, by simp [h3], by rw [listed_set h1 h2]; simp⟩
  rw [listed_set h1 h2] at h
  simp only [Bool.not_eq_true', Bool.or_eq_false_iff] at h ⊢
  exact h.2
theorem left_pos {listed : Array Bool} {i : Nat} (h2 : i < ops.size) (h3 : listed.getD i false = false) : 0 < left ops listed :=
  List.countP_pos_iff.2 ⟨i, List.mem_range.2 h2, by simp [h3]⟩

/-- all is done -/
theorem P_end (hall : (List.range ops.size).all (fun i => pre.contains i) = true) (h : K env H) : WP S ops pre env H K := by
  intro ro n Q fuel listed a w ι hl hf s r hQ
  have hready : Region.ready .any ops listed = [] := by
    cases hr : Region.ready .any ops listed with
    | nil => rfl
    | cons i rest =>
      have hi : i ∈ Region.ready .any ops listed := by rw [hr]; exact List.mem_cons_self ..
      obtain ⟨hun, o, ho, _⟩ := mem_ready.1 hi
      have hlt := (Array.getElem?_eq_some_iff.1 ho).1
      rw [listed_size hl.1 hlt] at hun
      have := (hl.2 i hlt).2 (by simpa using List.all_eq_true.1 hall i (List.mem_range.2 hlt))
      rw [hun] at this; cases this
  have hq := hQ a w ι env H rfl (Inj.ex_refl _ _) (Nat.le_refl _) s r h
  cases fuel with
  | zero => exact ⟨hready, hq⟩
  | succ fuel => exact ⟨fun _ => hq, fun i hi => by rw [hready] at hi; cases hi⟩

/-- the one operation that may come now is a call, of which a law is known -/
theorem P_piv (p : Nat) {o : Oper} {f : VVal} {args : List VVal} {R : VVal → VHeap → Prop} (hb : befOk ops bef = true) (hp : pivB ops bef pre p = true) (ho : ops[p]? = some o) (hg : vwanted ops env o.guard = some true) (hc : calleeOf S.C.meth env.eval o.op = some (f, args)) (hu : f.isUndef = false)
    (hF : Fv S f args H R) (h : ∀ v G, R v G → WP S ops (pre ++ [p]) (env.put o.dst v) G K) : WP S ops pre env H K := by
  have E := edges_ok hb
  simp only [pivB, Bool.and_eq_true, decide_eq_true_eq, Bool.not_eq_true', List.all_eq_true, List.mem_range, Bool.or_eq_true, List.contains_iff_mem, beq_iff_eq, closedB] at hp
  obtain ⟨⟨⟨⟨hcl, hps⟩, hpn⟩, hlate⟩, hself⟩ := hp
  have hpn : p ∉ pre := by simpa using hpn
  have notP : ∀ {x : Nat} {m : Nat} {Z : Prop}, (bef.getD x 0).testBit m = true → ((bef.getD x 0).testBit m = false ∨ Z) → Z := fun h h2 => by
    rcases h2 with h2 | h2
    · rw [h] at h2; cases h2
    · exact h2
  intro ro n Q fuel listed a w ι hl hf s r hQ
  have hpl : listed.getD p false = false := by
    cases hh : listed.getD p false with
    | false => rfl
    | true => exact absurd ((hl.2 p hps).1 hh) hpn
  cases fuel with
  | zero => have := left_pos (ops := ops) hps hpl; omega
  | succ fuel =>
    refine ⟨fun hnil => ?_, fun i hi => ?_⟩
    · exfalso
      have : p ∈ Region.ready .any ops listed := by
        rw [mem_ready]
        refine ⟨by rw [listed_size hl.1 hps]; exact hpl, o, ho, fun e he hbd => ?_⟩
        obtain ⟨h1, h2⟩ := E.edge p o ho e he hbd
        exact (hl.2 _ h2).2 (notP h1 (hself e.on h2))
      rw [hnil] at this; cases this
    · obtain ⟨hun, o', ho', hall⟩ := mem_ready.1 hi
      have hlt := (Array.getElem?_eq_some_iff.1 ho').1
      rw [listed_size hl.1 hlt] at hun
      have hip : i = p := by
        have hni : i ∉ pre := fun hh => by rw [(hl.2 i hlt).2 hh] at hun; cases hun
        rcases hlate i hlt with (h1 | h1) | h1
        · exact absurd h1 hni
        · exact h1
        · obtain ⟨e, he, hbd, h2⟩ := E.back i o' ho' p h1
          have hon := (hl.2 e.on (E.edge i o' ho' e he hbd).2).1 (hall e he hbd)
          rcases h2 with h2 | h2
          · rw [h2] at hon; exact absurd hon hpn
          · exact absurd (notP h2 (hcl e.on hon p hps)) hpn
      subst hip
      have ho2 : o' = o := by rw [ho] at ho'; cases ho'; rfl
      subst ho2
      unfold wpOpIn
      rw [ho]
      refine op_call hg hc (VVal.ne_undef hu) hF s (fun x _ => rel_eval r x) (fun _ _ d _ _ => rel_slot r d) (fun x w1 ι1 v G e1 hl1 s1 r1 hR => ?_)
      refine h v G hR ro n Q fuel _ _ w1 ι1 ⟨by simp [hl.1], fun j hj => ?_⟩ (by have := left_set hl.1 hlt hpl; omega) s1 (rel_put (RelL.mono (s.le e1) _ _ r) _ r1) fun a' w' ι' env' H' d1 d2 d3 d4 d5 d6 => hQ a' w' ι' env' H' (d1.trans (put_defers _ _ _)) (Inj.ex_trans e1 d2 hl1) (by omega) d4 d5 d6
      rw [listed_set hl.1 hlt, Bool.or_eq_true, beq_iff_eq, hl.2 j hj, List.mem_append, List.mem_singleton]
      exact Or.comm

/-- a stretch of operations that comes ahead of all that is left -/
theorem P_seg (A : List Nat) (hb : befOk ops bef = true) (ht : tmpsOk ops bef = true) (hp : segB ops bef pre A = true) (h : WO S ops bef A env H [] fun env1 H1 => WP S ops (pre ++ A) env1 H1 K) : WP S ops pre env H K := by
  have E := edges_ok hb
  simp only [segB, Bool.and_eq_true, decide_eq_true_eq, Bool.not_eq_true', List.all_eq_true, List.mem_range, Bool.or_eq_true, List.contains_iff_mem, closedB] at hp
  obtain ⟨⟨⟨⟨⟨hsm, hcl⟩, hoo⟩, hA⟩, hlate⟩, hin⟩ := hp
  have hA : ∀ i, i ∈ A → i < ops.size ∧ i ∉ pre := fun i hi => ⟨(hA i hi).1, by simpa using (hA i hi).2⟩
  have notP : ∀ {x : Nat} {m : Nat} {Z : Prop}, (bef.getD x 0).testBit m = true → ((bef.getD x 0).testBit m = false ∨ Z) → Z := fun h h2 => by
    rcases h2 with h2 | h2
    · rw [h] at h2; cases h2
    · exact h2
  obtain ⟨call, hv, h⟩ := h
  obtain ⟨envF, HF, tr, hrun, hfine, hN⟩ := h [] .nil
  obtain ⟨Z, hZi, htr, hch⟩ := runOps_chain (fun i => (hv i).len) _ _ _ _ _ _ _ hrun
  simp only [List.nil_append] at htr
  subst htr
  have hord := orderOk_pw hoo
  rw [← hZi] at hord
  have okS : ∀ s, s ∈ Z → StOk S.C call ops s := fun s hs => ((chain_len hch).2.1 s hs).2
  have lt : ∀ s, s ∈ Z → s.i < ops.size := fun s hs => (Array.getElem?_eq_some_iff.1 (okS s hs).1).1
  have inA : ∀ s, s ∈ Z → s.i ∈ A := fun s hs => by rw [← hZi]; exact List.mem_map.2 ⟨s, hs, rfl⟩
  have ofA : ∀ i, i ∈ A → ∃ s, s ∈ Z ∧ s.i = i := fun i hi => by rw [← hZi] at hi; exact List.mem_map.1 hi
  have hp1 := List.pairwise_map.1 hord.1
  have hp2 := List.pairwise_map.1 (fineAll_pw hfine)
  have Rn : Run S.C call ops (fun i => bef.getD i 0) env H Z envF HF := by
    refine ⟨hch, ?_, ?_⟩
    · refine (hp1.and hp2).imp ?_
      intro x y hxy
      exact ⟨hxy.1.1, hxy.2, hxy.1.2⟩
    · intro x hx y hy hne t htt hn
      simp only [tmpsOk, List.all_eq_true, List.mem_range] at ht
      have := ht y.i (lt y hy) x.i (lt x hx)
      rw [(okS x hx).1, (okS y hy).1] at this
      simp only [Option.bind_some, htt, Bool.or_eq_true, beq_iff_eq, Bool.not_eq_true'] at this
      rcases this with h | h | h
      · exact absurd h hne
      · have : (namesOf ops y.o).contains t = true := by simpa using hn
        rw [h] at this; cases this
      · rcases Nat.lt_or_gt_of_ne hne with hlt | hlt
        · rw [Nat.max_eq_right (by omega), Nat.min_eq_left (by omega)] at h
          exact .inl h
        · rw [Nat.max_eq_left (by omega), Nat.min_eq_right (by omega)] at h
          exact .inr h
  intro ro n Q fuel listed a w ι hl hf s r hQ
  have key : ∀ (fuel : Nat) (listed : Array Bool) (a1 : Act) (w : World), listed.size = ops.size → (∀ i, i < ops.size → listed.getD i false = true → i ∈ pre ∨ i ∈ A) → (∀ i, i ∈ pre → i < ops.size → listed.getD i false = true) → left ops listed ≤ fuel →
      Inv S.w0 ι a.defers env H Z (fun i => listed.getD i false) a1 w → Cl (fun i => bef.getD i 0) Z (fun i => listed.getD i false) → wpAnyIn (WF ro) n S.P .any ops Q fuel listed a1 w := by
    intro fuel
    induction fuel with
    | zero =>
      intro listed a1 w hsz h1 h2 hcnt hI hc
      have hall : ∀ s, s ∈ Z → listed.getD s.i false = true := by
        intro s hs
        cases hh : listed.getD s.i false with
        | true => rfl
        | false => have := left_pos (ops := ops) (lt s hs) hh; omega
      obtain ⟨ι', hex, hsim, hrel, hds, _⟩ := hI
      obtain ⟨e1, e2⟩ := hp_end Rn.chain (D := fun i => listed.getD i false) hall
      rw [e1] at hsim
      rw [e2] at hrel
      exact hN ro n Q 0 listed a1 w ι' ⟨hsz, fun i hi => ⟨fun hh => List.mem_append.2 (h1 i hi hh), fun hh => by
        rcases List.mem_append.1 hh with hh | hh
        · exact h2 i hh hi
        · obtain ⟨u, hu, rfl⟩ := ofA i hh; exact hall u hu⟩⟩ hcnt hsim hrel fun a' w' ι2 env' H' d1 d2 d3 d4 d5 d6 => hQ a' w' ι2 env' H' (d1.trans hds) (Inj.ex_trans hex d2 (chain_len hch).1) (Nat.le_trans (chain_len hch).1 d3) d4 d5 d6
    | succ fuel ih =>
      intro listed a1 w hsz h1 h2 hcnt hI hc
      by_cases hall : ∀ s, s ∈ Z → listed.getD s.i false = true
      · obtain ⟨ι', hex, hsim, hrel, hds, _⟩ := hI
        obtain ⟨e1, e2⟩ := hp_end Rn.chain (D := fun i => listed.getD i false) hall
        rw [e1] at hsim
        rw [e2] at hrel
        exact hN ro n Q _ listed a1 w ι' ⟨hsz, fun i hi => ⟨fun hh => List.mem_append.2 (h1 i hi hh), fun hh => by
          rcases List.mem_append.1 hh with hh | hh
          · exact h2 i hh hi
          · obtain ⟨u, hu, rfl⟩ := ofA i hh; exact hall u hu⟩⟩ hcnt hsim hrel fun a' w' ι2 env' H' d1 d2 d3 d4 d5 d6 => hQ a' w' ι2 env' H' (d1.trans hds) (Inj.ex_trans hex d2 (chain_len hch).1) (Nat.le_trans (chain_len hch).1 d3) d4 d5 d6
      · have hex : ∃ s, s ∈ Z ∧ listed.getD s.i false = false := by
          apply Classical.byContradiction
          intro hn
          refine hall fun s hs => ?_
          cases hh : listed.getD s.i false with
          | true => rfl
          | false => exact absurd ⟨s, hs, hh⟩ hn
        refine ⟨fun hnil => ?_, fun i hi => ?_⟩
        · exfalso
          obtain ⟨B1, u, B2, hZ, hB1, hu⟩ := first_false (D := fun i => listed.getD i false) hex
          have humem : u ∈ Z := by rw [hZ]; exact List.mem_append_right _ (List.mem_cons_self ..)
          have hpw := Rn.pw
          rw [hZ] at hpw
          have hpB := (List.pairwise_cons.1 (List.pairwise_append.1 hpw).2.1).1
          have : u.i ∈ Region.ready .any ops listed := by
            rw [mem_ready]
            refine ⟨by rw [listed_size hsz (lt u humem)]; exact hu, u.o, (okS u humem).1, fun e he hbd => ?_⟩
            obtain ⟨hbit, hlt⟩ := E.edge u.i u.o (okS u humem).1 e he hbd
            rcases hin u.i (inA u humem) e.on hlt with (hx | hx) | hx
            · rw [hbit] at hx; cases hx
            · exact h2 _ hx hlt
            · obtain ⟨x, hx, hxi⟩ := ofA _ hx
              rw [hZ] at hx
              rcases List.mem_append.1 hx with hx | hx
              · rw [← hxi]; exact hB1 x hx
              · rcases List.mem_cons.1 hx with rfl | hx
                · rw [← hxi, hord.2 x.i (List.mem_map.2 ⟨x, humem, rfl⟩)] at hbit; cases hbit
                · rw [← hxi, (hpB x hx).1] at hbit; cases hbit
          rw [hnil] at this; cases this
        · obtain ⟨hun, o, ho, hedge⟩ := mem_ready.1 hi
          have hlt := (Array.getElem?_eq_some_iff.1 ho).1
          rw [listed_size hsz hlt] at hun
          have hbm : ∀ m, (bef.getD i 0).testBit m = true → m < ops.size → listed.getD m false = true := by
            intro m hm hms
            obtain ⟨e, he, hbd, h⟩ := E.back i o ho m hm
            have hon := hedge e he hbd
            have hlon := (E.edge i o ho e he hbd).2
            rcases h with rfl | h
            · exact hon
            · rcases h1 e.on hlon hon with h3 | h3
              · exact h2 m (notP h (hcl e.on h3 m hms)) hms
              · obtain ⟨x, hx, hxi⟩ := ofA _ h3
                exact hc x hx (by rw [hxi]; exact hon) m (by rw [hxi]; exact h)
          obtain ⟨u, hu, hui⟩ : ∃ u, u ∈ Z ∧ u.i = i := by
            rcases hlate i hlt with (h3 | h3) | h3
            · rw [h2 i h3 hlt] at hun; cases hun
            · exact ofA i h3
            · obtain ⟨v, hvz, hvf⟩ := hex
              rw [hbm v.i (h3 v.i (inA v hvz)) (lt v hvz)] at hvf; cases hvf
          subst hui
          have hso : u.o = o := by have := (okS u hu).1; rw [ho] at this; cases this; rfl
          subst hso
          have hball : ∀ m, (bef.getD u.i 0).testBit m = true → listed.getD m false = true := fun m hm => hbm m hm (by
            apply Classical.byContradiction
            intro hge
            rw [Nat.testBit_lt_two_pow (Nat.lt_of_lt_of_le (hsm u.i hlt) (Nat.pow_le_pow_right (by omega) (Nat.le_of_not_lt hge)))] at hm
            cases hm)
          have hfun : (fun i => (listed.setIfInBounds u.i true).getD i false) = mark (fun i => listed.getD i false) u.i := funext fun j => listed_set hsz hlt
          unfold wpOpIn
          rw [ho]
          refine draw_step S.ok hv Rn hI hc hu hun hball (fun a' w' hI' => ?_)
          refine ih _ a' w' (by simp [hsz]) (fun j hj hjl => ?_) (fun j hj hjs => ?_) (by have := left_set hsz hlt hun; omega) (by rw [hfun]; exact hI') ?_
          · rw [listed_set hsz hlt, Bool.or_eq_true, beq_iff_eq] at hjl
            rcases hjl with rfl | hjl
            · exact .inr (inA u hu)
            · exact h1 j hj hjl
          · rw [listed_set hsz hlt, h2 j hj hjs, Bool.or_true]
          · rw [hfun]
            intro v hvz hDv m hm
            by_cases hvi : v.i = u.i
            · simp only [hvi] at hm
              simp [mark, hball m hm]
            · have h0 : listed.getD v.i false = true := by
                simp only [mark, Bool.or_eq_true, beq_iff_eq] at hDv
                rcases hDv with h | h
                · exact absurd h hvi
                · exact h
              have := hc v hvz h0 m hm
              simp only at this
              simp [mark, this]
  have hD0 : ∀ u, u ∈ Z → listed.getD u.i false = false := by
    intro u hu
    cases hh : listed.getD u.i false with
    | false => rfl
    | true => exact absurd ((hl.2 u.i (lt u hu)).1 hh) (hA u.i (inA u hu)).2
  refine key fuel listed a w hl.1 (fun i hi hh => .inl ((hl.2 i hi).1 hh)) (fun i hi his => (hl.2 i his).2 hi) hf ?_ ?_
  · obtain ⟨X, hX⟩ := hp_ext S.ok.tys (D := fun i => listed.getD i false) hch (fun u hu _ => hD0 u hu)
    refine ⟨ι, Inj.ex_refl _ _, ?_, ?_, rfl, ?_⟩
    · rw [hX]; exact s.extend X
    · have : ∀ (T : List St) (e : VEnv), (∀ u, u ∈ T → listed.getD u.i false = false) → ev (fun i => listed.getD i false) T e = e := by
        intro T
        induction T with
        | nil => intro e _; rfl
        | cons u T ih =>
          intro e hT
          unfold ev
          rw [if_neg (by rw [hT u (List.mem_cons_self ..)]; simp)]
          exact ih e fun v hv => hT v (List.mem_cons_of_mem _ hv)
      rw [this Z env hD0]; exact r
    · intro u hu _ id hid
      cases hx : ι id with
      | none => rfl
      | some e =>
        have h1 := s.dom id e hx
        have h2 := ((chain_len hch).2.1 u hu).1
        rcases st_cases (okS u hu) with ⟨_, _, _, e⟩ | ⟨_, _, _, _, e⟩ | ⟨_, _, _, _, e⟩ | ⟨_, _, _, _, e⟩ | e <;> rw [e] at hid <;> cases hid
        omega
  · intro u hu hD
    have hD : listed.getD u.i false = true := hD
    rw [hD0 u hu] at hD; cases hD

/-- a region that draws its order, by stretches and calls between them -/
theorem B_drawP {H0 : VHeap} {rd : Option Nat} {id : Nat} {Q : Post} (bef : Array Nat) (hb : Region.before ops = bef) (h : WP S ops [] env H fun env H => Q .normal env H) : B S H0 rd (.region id ops true) env H Q := by
  intro ro n D0 a w ι g1 g2 g3 g4 g5 g6
  refine wpIn_region_any S.ok.mixed ?_
  refine h ro n _ ops.size (Array.replicate ops.size false) a _ ι ⟨by simp, fun i hi => ?_⟩ ?_ (Sim.drew g4) g5 fun a' w' ι' env' H' d1 d2 d3 d4 d5 d6 => ⟨ι', env', H', d2.go g3, by omega, d4, d5, by rw [d1]; exact g6.df d2.2.2, d6⟩
  · simp [Array.getD_eq_getD_getElem?, hi]
  · exact Nat.le_trans List.countP_le_length (by simp)
end
end Go.V

set_option autoImplicit false
set_option linter.unusedVariables false
namespace Go.V
open Go Go.RowKit

def okPair : Cls → Cls → Bool
  | .calm, _ | _, .calm | .look, .look | .look, .grow | .grow, .look | .grow, .grow => true
  | _, _ => false
def openPos (bef : Array Nat) (ks : List (Nat × Cls)) : List (Nat × Nat) :=
  (List.range ks.length).flatMap fun p => (List.range ks.length).filterMap fun q =>
    match ks[p]?, ks[q]? with
    | some (i, c), some (j, d) => if p < q && !(bef.getD j 0).testBit i && !okPair c d then some (p, q) else none
    | _, _ => none
def kinds (tk : List (Nat × Tr)) : List (Nat × Cls) := tk.map fun p => (p.1, p.2.kind)

structure FineAt (tk : List (Nat × Tr)) (p q : Nat) (i j : Nat) (a b : Item') : Prop where
  l : tk[p]? = some (i, .it a)
  r : tk[q]? = some (j, .it b)
  f : fine a b
def AllF (tk : List (Nat × Tr)) : List (Nat × Nat) → Prop
  | [] => True
  | (p, q) :: l => (∃ i j a b, FineAt tk p q i j a b) ∧ AllF tk l
theorem AllF.mem {tk : List (Nat × Tr)} {p q : Nat} : ∀ {l : List (Nat × Nat)}, AllF tk l → (p, q) ∈ l → ∃ i j a b, FineAt tk p q i j a b
  | [], _, h => by cases h
  | (p', q') :: l, h, hm => by
    rcases List.mem_cons.1 hm with e | hm
    · cases e; exact h.1
    · exact AllF.mem h.2 hm

theorem match2_get {p : Nat} : ∀ {l : List (Nat × Tr)} {m : List (Nat × Item')}, Match2 l m → ∀ {j : Nat} {b : Item'}, m[p]? = some (j, b) → ∃ y, l[p]? = some (j, y) ∧ y.ok b
  | _, _, .nil, _, _, h => by simp at h
  | x :: l, y :: m, .cons h t, j, b, hm => by
    cases p with
    | zero =>
      simp only [List.getElem?_cons_zero, Option.some.injEq] at hm ⊢
      subst hm
      exact ⟨x.2, Prod.ext h.1 rfl, h.2⟩
    | succ p => simp only [List.getElem?_cons_succ] at hm ⊢; exact match2_get t hm

theorem fineAll_pos {bef : Array Nat} : ∀ {m : List (Nat × Item')}, (∀ (p q i : Nat) (a : Item') (j : Nat) (b : Item'), p < q → m[p]? = some (i, a) → m[q]? = some (j, b) → (bef.getD j 0).testBit i = false → fine a b) → fineAll bef m
  | [], _ => trivial
  | (i, a) :: m, h => by
    refine ⟨fun y hy hb => ?_, fineAll_pos fun p q i' a' j b hpq h1 h2 h3 => h (p + 1) (q + 1) i' a' j b (by omega) (by simpa using h1) (by simpa using h2) h3⟩
    obtain ⟨q, hq⟩ := List.getElem?_of_mem hy
    exact h 0 (q + 1) i a y.1 y.2 (by omega) rfl (by simpa using hq) hb

theorem fine_ok {a b : Item'} (h : okPair (kindOf a) (kindOf b) = true) : fine a b := by
  cases a <;> cases b <;> simp [kindOf, okPair, fine] at h ⊢

theorem gA {l : List (Nat × Tr)} {x y : Nat × Tr} {p : Nat} (h : l[p]? = some y) : (l ++ [x])[p]? = some y := by
  rw [List.getElem?_append_left (List.getElem?_eq_some_iff.1 h).1]; exact h
theorem gL {l : List (Nat × Tr)} {x : Nat × Tr} {p : Nat} (h : l.length = p) : (l ++ [x])[p]? = some x := by
  subst h; simp
theorem O_nilP {S : Sys} {ops : Array Oper} {bef : Array Nat} {env : VEnv} {H : VHeap} {tk : List (Nat × Tr)} {K : VEnv → VHeap → Prop} (ps : List (Nat × Nat)) (hn : openPos bef (kinds tk) = ps) (hp : AllF tk ps) (h : K env H) : WO S ops bef [] env H tk K := by
  refine ⟨fun _ => noCall, fun _ => noCall_ok, fun tr htr => ⟨env, H, tr, rfl, fineAll_pos fun p q i a j b hpq h1 h2 h3 => ?_, h⟩⟩
  obtain ⟨x, e1, o1⟩ := match2_get htr h1
  obtain ⟨y, e2, o2⟩ := match2_get htr h2
  by_cases hok : okPair (kindOf a) (kindOf b) = true
  · exact fine_ok hok
  · have hm : (p, q) ∈ ps := by
      rw [← hn]
      have k1 : (kinds tk)[p]? = some (i, x.kind) := by unfold kinds; rw [List.getElem?_map, e1]; rfl
      have k2 : (kinds tk)[q]? = some (j, y.kind) := by unfold kinds; rw [List.getElem?_map, e2]; rfl
      have l1 := (List.getElem?_eq_some_iff.1 k1).1
      have l2 := (List.getElem?_eq_some_iff.1 k2).1
      refine List.mem_flatMap.2 ⟨p, List.mem_range.2 l1, List.mem_filterMap.2 ⟨q, List.mem_range.2 l2, ?_⟩⟩
      simp only [k1, k2, Tr.kind_ok o1, Tr.kind_ok o2, hpq, decide_true, h3, Bool.not_false, Bool.true_and]
      rw [if_pos (by simpa using hok)]
    obtain ⟨i', j', a', b', f⟩ := AllF.mem hp hm
    have g1 := f.l; have g2 := f.r
    rw [e1] at g1; rw [e2] at g2
    simp only [Option.some.injEq, Prod.mk.injEq] at g1 g2
    obtain ⟨_, rfl⟩ := g1
    obtain ⟨_, rfl⟩ := g2
    have h5 : a = a' := o1
    have h6 : b = b' := o2
    rw [h5, h6]; exact f.f
end Go.V

set_option autoImplicit false
set_option linter.unusedVariables false
namespace Go.V
open Go Go.RowKit
section
variable {S : Sys} {H0 H : VHeap} {rd : Option Nat} {env : VEnv} {Q : Post}
/-- the ways behind a piece of code come together -/
theorem B_seqJ {x y : Code} {α : Type} (mask : List Bool) (W : α → List (Nat × VVal)) (inv : α → VHeap → Prop)
    (h1 : B S H0 rd x env H (loopK S H0 (fun e G => ∃ z : α, e = upd (mclear mask env) (W z) ∧ inv z G) Q)) (h2 : ∀ z G, inv z G → B S H0 rd y (upd (mclear mask env) (W z)) G Q) : B S H0 rd (.seq x y) env H Q := by
  refine B_seq (h1.mono ?_)
  intro e v G hq
  cases e
  case normal =>
    obtain ⟨env', H', g, z, rfl, hi⟩ := hq
    exact K_seq (B_gh g (h2 z H' hi))
  all_goals exact hq
/-- a list that grows, frozen, all else left -/
theorem B_ghLV {X : VHeap} {c : Code} {env' : VEnv} {es : Nat} {v : VVal} {cs : List VVal} {len : Nat} (i : Nat) (l : LV H.length es X v cs len) (hv : env[i]? = some v) (he : env.set i (.fsl cs len es false) = env')
    (h : ∀ X', X'.length = X.length → (∀ j, vidx v ≠ some (H.length + j) → X'[j]? = X[j]?) → B S H0 rd c env' (H ++ X') Q) : B S H0 rd c env (H ++ X) Q := by
  obtain ⟨X', g, h1, h2⟩ := Gh.freezeLV i l hv he
  exact B_gh g (h X' h1 h2)
end
section
variable {S : Sys} {H : VHeap} {ops : Array Oper} {bef : Array Nat} {env : VEnv} {K : VEnv → VHeap → Prop} {pre : List Nat}
theorem P_env {env' : VEnv} (he : env = env') (h : WP S ops pre env' H K) : WP S ops pre env H K := he ▸ h
theorem P_call (p : Nat) {o : Oper} {f : FuncId} {first cap args : List VVal} {all : List VVal} {R : VVal → VHeap → Prop} (hb : befOk ops bef = true) (hp : pivB ops bef pre p = true) (ho : ops[p]? = some o) (hg : vwanted ops env o.guard = some true) (hc : calleeOf S.C.meth env.eval o.op = some (.func f first cap, args)) (ha : first ++ args ++ cap = all)
    (hF : F S f all H R) (h : ∀ v G, R v G → WP S ops (pre ++ [p]) (env.put o.dst v) G K) : WP S ops pre env H K :=
  P_piv p hb hp ho hg hc rfl (Fv_fn (ha ▸ hF)) h
end
end Go.V

set_option autoImplicit false
set_option linter.unusedVariables false
set_option linter.unusedSimpArgs false
set_option linter.unusedVariables false
namespace Go.V
open Go Go.RowKit
/-- a frozen slice of nothing: nil, or not -/
theorem F_split0 {S : Sys} {f : FuncId} {H : VHeap} {R : VVal → VHeap → Prop} {es : Nat} {ex : Bool} {rest : List VVal} (h1 : F S f (.slice none 0 0 true 0 :: rest) H R) (h2 : F S f (.slice none 0 0 false 0 :: rest) H R) : F S f (.fsl [] 0 es ex :: rest) H R := by
  intro n w ι args' s r
  obtain ⟨y, ys, e, r1, r2⟩ := r
  simp only [Rel] at r1
  obtain ⟨a, c, xs, rfl, hlc, hcx, hnone, _⟩ := r1
  cases a with
  | none =>
    have := hnone rfl
    subst this
    exact h1 n w ι args' s ⟨_, ys, e, by simp [Rel], r2⟩
  | some ad => exact h2 n w ι args' s ⟨_, ys, e, by simp [Rel], r2⟩
section
variable {T : TypeId → Option VTy} {ρ : Operand → VVal} {H : VHeap} {op : Op}
theorem cells_one {cs : List VVal} {off n : Nat} (h : off + n ≤ cs.length) : cellsAt cs off n = some ((cs.drop off).take n) := by
  unfold cellsAt; rw [if_pos h]
/-- x[lo:hi] of an own slice -/
theorem v_slLH {t e : TypeId} {x : Operand} {lo hi mx : Option Operand} {y z : VTy} {b off len cap l h m : Nat} {ex : Bool} (ho : op = .slice t x lo hi mx) (hy : T t = some y) (hd : y.desc = .slice e) (hz : T e = some z) (hs : z.size = 1) (hx : ρ x = .slice (some (b, off)) len cap ex 1)
    (hb : vbounds len cap (lo.map ρ) (hi.map ρ) (mx.map ρ) = some (l, h, m)) (hmx : (mx.isSome && hi.isNone) = false) (hc : len ≤ cap) (hl : l < m) : vop T ρ H op = some (.slice (some (b, off + l)) (h - l) (m - l) (ex || mx.isSome) 1, H) := by
  rw [ho]
  have h1 : ((mx.map ρ).isSome && (hi.map ρ).isNone) = false := by simpa using hmx
  simp only [vop, vslice, hy, hd, hz, hx, Option.map_some, hb, h1]
  rw [if_neg (by omega), if_pos ⟨hs, .inl hl⟩]
  simp
theorem vb_lo {len cap l : Nat} {kd : IntKind} (h : l ≤ len) (hc : len ≤ cap) : vbounds len cap (some (.int kd l)) none none = some (l, len, cap) := by
  unfold vbounds
  simp only
  rw [if_pos (by omega)]; rfl
theorem vb_hi {len cap h : Nat} {kd : IntKind} (hh : h ≤ cap) : vbounds len cap none (some (.int kd h)) none = some (0, h, cap) := by
  unfold vbounds
  simp only
  rw [if_pos (by omega)]; rfl
theorem vb_lh {len cap l h : Nat} {kd kd2 : IntKind} (hl : l ≤ h) (hh : h ≤ cap) : vbounds len cap (some (.int kd l)) (some (.int kd2 h)) none = some (l, h, cap) := by
  unfold vbounds
  simp only
  rw [if_pos (show (0 : Int) ≤ h ∧ (h : Int) ≤ cap by omega)]
  simp only [Int.toNat_natCast]
  rw [if_pos (by omega)]
theorem vb_lhm {len cap l h m : Nat} {kd kd2 kd3 : IntKind} (hl : l ≤ h) (hh : h ≤ m) (hm : m ≤ cap) : vbounds len cap (some (.int kd l)) (some (.int kd2 h)) (some (.int kd3 m)) = some (l, h, m) := by
  unfold vbounds
  simp only
  rw [if_pos (show (0 : Int) ≤ m ∧ (m : Int) ≤ cap by omega)]
  simp only [Int.toNat_natCast]
  rw [if_pos (show (0 : Int) ≤ h ∧ (h : Int) ≤ m by omega)]
  simp only [Int.toNat_natCast]
  rw [if_pos (by omega)]
/-- x[lo:]: what is behind, as a source -/
theorem v_slTail {t e : TypeId} {x lo : Operand} {y z : VTy} {b n l : Nat} {ex rw' : Bool} {cs : List VVal} {kd : IntKind} (ho : op = .slice t x (some lo) none none) (hy : T t = some y) (hd : y.desc = .slice e) (hz : T e = some z) (hs : z.size = 1) (hx : ρ x = .slice (some (b, 0)) n n ex 1) (hlo : ρ lo = .int kd (l : Nat)) (hl : l ≤ n)
    (hb : H[b]? = some (.cells cs rw')) (hcs : cs.length = n) : ∃ v G, vop T ρ H op = some (v, G) ∧ G = H ∧ srcLen v = some (n - l) ∧ srcCells H 1 (n - l) v = some (cs.drop l) := by
  have hbd : vbounds n n (some (ρ lo)) none none = some (l, n, n) := by rw [hlo]; exact vb_lo hl (Nat.le_refl _)
  by_cases h : l < n
  · have := v_slLH (H := H) (lo := some lo) (hi := none) (mx := none) ho hy hd hz hs hx hbd rfl (Nat.le_refl _) h
    refine ⟨_, _, this, rfl, rfl, ?_⟩
    unfold srcCells
    simp only [Nat.zero_add, hb, Nat.mul_one]
    rw [cells_one (by omega), List.take_of_length_le (by rw [List.length_drop]; omega)]
  · have hln : l = n := by omega
    subst hln
    have hd0 : cs.drop l = [] := List.drop_of_length_le (by omega)
    rw [ho]
    have hb2 : vbounds l l (some (ρ lo)) none none = some (l, l, l) := hbd
    simp only [vop, vslice, hy, hd, hz, hx, Option.map_some, Option.map_none, hb2, Option.isSome_none, Option.isNone_none, Bool.false_and]
    rw [if_neg (by omega)]
    by_cases h0 : l = 0
    · subst h0
      rw [if_pos ⟨hs, .inr ⟨rfl, rfl⟩⟩]
      refine ⟨_, _, rfl, rfl, rfl, ?_⟩
      unfold srcCells
      simp only [Nat.zero_add, hb, Nat.mul_one, Nat.sub_self, Nat.zero_mul]
      rw [cells_one (by omega)]; simp [hd0]
    · rw [if_neg (by omega), if_pos (by simp [hs])]
      simp only [Bool.or_false, Nat.sub_self]
      by_cases hex : ex = true
      · rw [if_pos hex]
        refine ⟨_, _, rfl, rfl, rfl, ?_⟩
        unfold srcCells
        simp only [hb, Nat.zero_mul]
        rw [cells_one (by omega), hd0]; simp
      · rw [if_neg hex]
        refine ⟨_, _, rfl, rfl, rfl, ?_⟩
        unfold srcCells; rw [hd0]
/-- an append in place -/
theorem v_appIn {s x : Operand} {ats : Array TypeId} {t u e : TypeId} {z : VTy} {du : TypeDesc} {cs fs : List VVal} {b n k c : Nat} {ex : Bool}
    (ho : op = .call { callee := .builtin .append, args := #[s, x], argTypes := ats }) (hat : ats = #[t, u]) (hz : velem T t = some (e, z)) (hu : (T u).map (·.desc) = some du) (hdu : isSeq du = true) (hs1 : z.size = 1)
    (hs : ρ s = .slice (some (b, 0)) n c ex 1) (hb : H[b]? = some (.cells cs true)) (hk : srcLen (ρ x) = some k) (hsrc : srcCells H 1 k (ρ x) = some fs) (hn : fs.length = k) (h1 : fs.all VVal.one = true)
    (hby : (n + k) * z.bytes ≤ 140737488355328 ∧ n + k ≤ 140737488355328) (hc : n + k ≤ c) (hl : n ≤ cs.length) : vop T ρ H op = some (.slice (some (b, 0)) (n + k) c ex 1, H.set b (.cells (splice cs n fs) true)) := by
  rw [ho, hat]
  simp only [vop, vbuiltin, List.map_cons, List.map_nil, vappend, hz, hs, hu, hk]
  rw [hs1, hsrc]
  simp only
  rw [if_pos ⟨by omega, h1, by omega, hby.1, hby.2, hdu⟩, if_pos trivial, hb]
  simp only
  rw [if_pos hc]
  by_cases h0 : k = 0
  · subst h0
    rw [if_pos rfl]
    have : fs = [] := List.eq_nil_of_length_eq_zero hn
    subst this
    have hsp : splice cs n [] = cs := by unfold splice; simp
    rw [hsp]
    have : H.set b (.cells cs true) = H := by
      apply List.ext_getElem?
      intro i
      rw [List.getElem?_set]
      by_cases e : b = i
      · subst e; rw [if_pos rfl, hb, if_pos (List.getElem?_eq_some_iff.1 hb).1]
      · rw [if_neg e]
    rw [this]; rfl
  · rw [if_neg h0, if_pos ⟨trivial, by omega⟩]; simp
theorem v_appO2 {s x : Operand} {ats : Array TypeId} {t u e : TypeId} {z : VTy} {du : TypeDesc} {L : VHeap} {cs fs : List VVal} {j n k : Nat} {ex ex2 : Bool}
    (ho : op = .call { callee := .builtin .append, args := #[s, x], argTypes := ats }) (hat : ats = #[t, u]) (hz : velem T t = some (e, z)) (hu : (T u).map (·.desc) = some du) (hdu : isSeq du = true)
    (hs : ρ s = .slice (some (H.length + j, 0)) n n ex z.size) (hj : L[j]? = some (.cells cs true)) (hcs : cs.length = n * z.size) (hx : ρ x = .fsl fs k z.size ex2) (hn : fs.length = k * z.size) (h1 : fs.all VVal.one = true) (hp : 0 < z.size)
    (hb : (n + k) * z.bytes ≤ 140737488355328 ∧ n + k ≤ 140737488355328) :
    ∃ v G, vop T ρ (H ++ L) op = some (v, G) ∧ ∃ Z i ex', G = H ++ Z ∧ v = .slice (some (H.length + i, 0)) (n + k) (n + k) ex' z.size ∧ Z[i]? = some (.cells (cs ++ fs) true) := by
  have hk' : srcLen (ρ x) = some k := by rw [hx]; rfl
  have hsrc : srcCells (H ++ L) z.size k (ρ x) = some fs := by
    rw [hx]
    show cellsAt fs 0 (k * z.size) = some fs
    unfold cellsAt; rw [if_pos (by omega), List.drop_zero, List.take_of_length_le (by omega)]
  have hca : cellsAt cs 0 (n * z.size) = some cs := by
    unfold cellsAt; rw [if_pos (by omega), List.drop_zero, List.take_of_length_le (by omega)]
  have start : ∀ r, (vop T ρ (H ++ L) op = some r ↔ (if n + k ≤ n then (if k = 0 then some (.slice (some (H.length + j, 0)) n n ex z.size, H ++ L) else if true = true ∧ 0 + n * z.size ≤ cs.length then some (.slice (some (H.length + j, 0)) (n + k) n ex z.size, (H ++ L).set (H.length + j) (.cells (splice cs (0 + n * z.size) fs) true)) else none)
      else if ex = true then some (.slice (some ((H ++ L).length, 0)) (n + k) (n + k) false z.size, (H ++ L) ++ [.cells (cs ++ fs) true]) else some (.slice (some ((H ++ L).length, 0)) (n + k) (n + k) false z.size, (H ++ L).set (H.length + j) .dead ++ [.cells (cs ++ fs) true])) = some r) := by
    intro r
    rw [ho, hat]
    simp only [vop, vbuiltin, List.map_cons, List.map_nil, vappend, hz, hs, hu, hk']
    rw [hsrc]
    simp only
    rw [if_pos ⟨hn, h1, hp, hb.1, hb.2, hdu⟩, if_pos trivial, get_app rfl (x := .cells cs true) hj]
    simp only [hca, if_true]
  by_cases h0 : k = 0
  · subst h0
    have hfs : fs = [] := List.eq_nil_of_length_eq_zero (by omega)
    subst hfs
    refine ⟨_, _, (start _).2 (by rw [if_pos (by omega), if_pos rfl]; rfl), L, j, ex, rfl, rfl, by rw [List.append_nil]; exact hj⟩
  · cases ex with
    | true => exact ⟨_, _, (start _).2 (by rw [if_neg (by omega), if_pos rfl]), L ++ [.cells (cs ++ fs) true], L.length, false, by rw [List.append_assoc], by rw [List.length_append], by simp⟩
    | false => exact ⟨_, _, (start _).2 (by rw [if_neg (by omega), if_neg (by simp)]), L.set j .dead ++ [.cells (cs ++ fs) true], L.length, false, by rw [set_app rfl, List.append_assoc], by rw [List.length_append], by
        rw [List.getElem?_append_right (by simp)]; simp⟩
/-- a slice cleared -/
theorem v_clear1 {x : Operand} {ats : Array TypeId} {t e : TypeId} {z : VTy} {b off n c : Nat} {ex : Bool} {cs : List VVal}
    (ho : op = .call { callee := .builtin .clear, args := #[x], argTypes := ats }) (hat : ats = #[t]) (hz : velem T t = some (e, z)) (hs1 : z.size = 1) (h1 : z.size = z.zero.length) (h2 : z.zero.all VVal.one = true) (hx : ρ x = .slice (some (b, off)) n c ex 1) (hb : H[b]? = some (.cells cs true)) (hl : off + n ≤ cs.length) :
    vop T ρ H op = some (.tuple [], H.set b (.cells (splice cs off (repeatCells z.zero n)) true)) := by
  have hlen : (repeatCells z.zero n).length = n := by
    have hz1 : z.zero.length = 1 := by omega
    clear hx hl
    induction n with
    | zero => rfl
    | succ n ih => rw [repeatCells, List.length_append, ih, hz1]; omega
  rw [ho, hat]
  simp only [vop, vbuiltin, List.map_cons, List.map_nil, vclear, hz, hx]
  rw [if_pos ⟨h1, by omega, h2⟩, if_pos hs1.symm]
  unfold vwrite
  simp only [hb]
  rw [if_pos (by rw [hlen]; omega)]
  rfl
end
/-- a list that grows, begun as an empty literal -/
def LVE (h es : Nat) (X : VHeap) (v : VVal) (cs : List VVal) (len : Nat) : Prop := LV h es X v cs len ∨ (len = 0 ∧ cs = [] ∧ ∃ b, v = .slice (some (h + b, 0)) 0 0 true es ∧ X[b]? = some (.cells [] true))
section
variable {h es : Nat} {X : VHeap} {v : VVal} {cs : List VVal} {len : Nat}
theorem LVE.init {b : Nat} (hb : X[b]? = some (.cells [] true)) : LVE h es X (.slice (some (h + b, 0)) 0 0 true es) [] 0 := .inr ⟨rfl, rfl, b, rfl, hb⟩
theorem LVE.frame {X' : VHeap} (l : LVE h es X v cs len) (hf : ∀ i, vidx v = some (h + i) → X'[i]? = X[i]?) : LVE h es X' v cs len := by
  rcases l with l | ⟨h0, h1, b, rfl, h2⟩
  · exact .inl (l.frame hf)
  · exact .inr ⟨h0, h1, b, rfl, by rw [hf b rfl]; exact h2⟩
theorem LVE.app (l : LVE h es X v cs len) (Y : VHeap) : LVE h es (X ++ Y) v cs len := by
  rcases l with l | ⟨h0, h1, b, rfl, h2⟩
  · exact .inl (l.app Y)
  · exact .inr ⟨h0, h1, b, rfl, get_append h2⟩
theorem LVE.ne {n : Nat} (l : LVE h es X v cs len) (hn : X.length ≤ n) : vidx v ≠ some (h + n) := by
  rcases l with l | ⟨h0, h1, b, rfl, h2⟩
  · exact l.ne hn
  · have := (List.getElem?_eq_some_iff.1 h2).1
    simp only [vidx, ne_eq, Option.some.injEq]; omega
theorem LVE.cells (l : LVE h es X v cs len) : v.cells = some [v] := by
  rcases l with l | ⟨_, _, b, rfl, _⟩
  · exact l.cells
  · rfl
theorem LVE.one (l : LVE h es X v cs len) : v.one = true := by
  rcases l with l | ⟨_, _, b, rfl, _⟩
  · exact l.one
  · rfl
end
section
variable {T : TypeId → Option VTy} {ρ : Operand → VVal} {H : VHeap} {op : Op}
theorem v_appXE {s x : Operand} {ats : Array TypeId} {t u e : TypeId} {z : VTy} {du : TypeDesc} {v : VVal} {Y : VHeap} {cs new : List VVal} {len k : Nat} {kx : Nat}
    (ho : op = .call { callee := .builtin .append, args := #[s, x], argTypes := ats }) (hat : ats = #[t, u]) (hz : velem T t = some (e, z)) (hu : (T u).map (·.desc) = some du) (hdu : isSeq du = true)
    (hs : ρ s = v) (hx : ρ x = .slice (some (H.length + Y.length, 0)) k kx true z.size) (l : LVE H.length z.size Y v cs len) (hn : new.length = k * z.size) (h1 : new.all VVal.one = true) (hp : 0 < z.size)
    (hb : (len + k) * z.bytes ≤ 140737488355328 ∧ len + k ≤ 140737488355328) (hk : 0 < k) :
    ∃ u G, vop T ρ (H ++ (Y ++ [.cells new true])) op = some (u, G) ∧ ∃ Y1, u = .slice (some (H.length + (Y.length + 1), 0)) (len + k) (len + k) false z.size ∧ G = H ++ (Y1 ++ [.cells new true, .cells (cs ++ new) true]) ∧ Y1.length = Y.length ∧ (∀ i, vidx v ≠ some (H.length + i) → Y1[i]? = Y[i]?) ∧
      LV H.length z.size (Y1 ++ [.cells new true, .cells (cs ++ new) true]) (.slice (some (H.length + (Y.length + 1), 0)) (len + k) (len + k) false z.size) (cs ++ new) (len + k) := by
  rcases l with l | ⟨rfl, rfl, b, hv, hg⟩
  · exact v_appX ho hat hz hu hdu hs hx l hn h1 hp hb hk
  · have hk' : srcLen (ρ x) = some k := by rw [hx]; rfl
    have hsrc : srcCells (H ++ (Y ++ [.cells new true])) z.size k (ρ x) = some new := by
      rw [hx]
      unfold srcCells
      simp only
      rw [get_app rfl (x := .cells new true) (by simp)]
      simp only
      unfold cellsAt; rw [if_pos (by omega), List.drop_zero, List.take_of_length_le (by omega)]
    refine ⟨.slice (some (H.length + (Y.length + 1), 0)) (0 + k) (0 + k) false z.size, H ++ (Y ++ [.cells new true, .cells ([] ++ new) true]), ?_, Y, rfl, rfl, rfl, fun _ _ => rfl, ?_⟩
    · rw [ho, hat]
      simp only [vop, vbuiltin, List.map_cons, List.map_nil, vappend, hz, hs, hv, hu, hk']
      rw [hsrc]
      simp only
      rw [if_pos ⟨hn, h1, hp, hb.1, hb.2, hdu⟩]
      rw [if_pos trivial, get_app rfl (x := .cells [] true) (get_append hg)]
      simp only
      rw [if_neg (by omega)]
      simp [cellsAt]
    · refine ⟨by simp; exact hn, .inr ⟨by omega, Y.length + 1, rfl, ?_⟩⟩
      rw [List.getElem?_append_right (by omega)]; simp
variable {S : Sys} {H0 : VHeap}
theorem Gh.freezeLVE {vs vs' : List VVal} {X : VHeap} {es : Nat} {v : VVal} {cs : List VVal} {len : Nat} (i : Nat) (l : LVE H.length es X v cs len) (hv : vs[i]? = some v) (he : vs.set i (.fsl cs len es false) = vs') :
    ∃ X', Gh S H0 vs (H ++ X) vs' (H ++ X') ∧ X'.length = X.length ∧ ∀ j, vidx v ≠ some (H.length + j) → X'[j]? = X[j]? := by
  rcases l with l | ⟨rfl, rfl, b, rfl, hg⟩
  · exact Gh.freezeLV i l hv he
  · refine ⟨X.set b .dead, Gh.freezeL i b hv hg (by simp [cellsAt]) (Nat.le_refl _) he, by simp, fun j hj => ?_⟩
    rw [List.getElem?_set_ne]
    rintro rfl
    exact hj rfl
theorem B_ghLVE {H : VHeap} {rd : Option Nat} {env env' : VEnv} {Q : Post} {X : VHeap} {c : Code} {es : Nat} {v : VVal} {cs : List VVal} {len : Nat} (i : Nat) (l : LVE H.length es X v cs len) (hv : env[i]? = some v) (he : env.set i (.fsl cs len es false) = env')
    (h : ∀ X', X'.length = X.length → (∀ j, vidx v ≠ some (H.length + j) → X'[j]? = X[j]?) → B S H0 rd c env' (H ++ X') Q) : B S H0 rd c env (H ++ X) Q := by
  obtain ⟨X', g, h1, h2⟩ := Gh.freezeLVE i l hv he
  exact B_gh g (h X' h1 h2)
end
end Go.V

set_option autoImplicit false
set_option linter.unusedVariables false
set_option linter.unusedSimpArgs false
namespace Go.V
open Go Go.RowKit

theorem get_end {X : VHeap} {k : VBlk} : (X ++ [k])[X.length]? = some k := by simp
theorem set_end {X : VHeap} {k k' : VBlk} : (X ++ [k]).set X.length k' = X ++ [k'] := by simp
theorem get_cons {X Y : VHeap} {k : VBlk} : (X ++ k :: Y)[X.length]? = some k := by simp
/-- a block behind the list X -/
theorem getE {H X Y : VHeap} {n j i : Nat} {k : VBlk} (hn : H.length = n) (hj : X.length + i = j) (h : Y[i]? = some k) : (H ++ (X ++ Y))[n + j]? = some k := by
  subst hn; subst hj
  rw [List.getElem?_append_right (by omega), List.getElem?_append_right (by omega), show H.length + (X.length + i) - H.length - X.length = i by omega]; exact h
theorem setE {H X Y : VHeap} {n j i : Nat} {k : VBlk} (hn : H.length = n) (hj : X.length + i = j) : (H ++ (X ++ Y)).set (n + j) k = H ++ (X ++ Y.set i k) := by
  subst hn; subst hj
  rw [List.set_append_right _ _ (by omega), List.set_append_right _ _ (by omega), show H.length + (X.length + i) - H.length - X.length = i by omega]
theorem setE0 {H X Y : VHeap} {n j : Nat} {k0 k : VBlk} (hn : H.length = n) (hj : X.length = j) : (H ++ (X ++ k0 :: Y)).set (n + j) k = H ++ (X ++ k :: Y) := by
  rw [setE hn (i := 0) (by omega)]; rfl
theorem getE0 {H X Y : VHeap} {n j : Nat} {k : VBlk} (hn : H.length = n) (hj : X.length = j) : (H ++ (X ++ k :: Y))[n + j]? = some k := getE hn (i := 0) (by omega) rfl
theorem fgetN {α : Type} {f : α → VVal} {l : List α} {k : Nat} (d : α) (h : k < l.length) : (l.map f)[((k : Nat) : Int).toNat * 1]? = some (f (l.getD k d)) := by
  have := fget (f := f) (l := l) (n := (k : Int)) d (by omega)
  rw [Int.toNat_natCast] at this ⊢; exact this
theorem fm_nat {α : Type} {f : α → List VVal} {m : Nat} (hf : ∀ a, (f a).length = m) : ∀ (l : List α) (n : Nat) (d : α), n < l.length → cellsAt (l.flatMap f) (n * m) m = some (f (l.getD n d))
  | a :: l, 0, d, _ => by
    unfold cellsAt
    have h1 := hf a
    rw [if_pos (by rw [List.flatMap_cons, List.length_append]; omega), List.flatMap_cons, Nat.zero_mul, List.drop_zero, List.take_left' h1]; rfl
  | a :: l, n + 1, d, h => by
    have h1 := hf a
    have := fm_nat hf l n d (by simpa using h)
    unfold cellsAt at this ⊢
    have e : (n + 1) * m = m + n * m := by rw [Nat.add_mul, Nat.one_mul, Nat.add_comm]
    rw [List.flatMap_cons, List.length_append, h1, e, ← List.drop_drop, List.drop_left' h1]
    by_cases hh : n * m + m ≤ (l.flatMap f).length
    · rw [if_pos hh] at this; rw [if_pos (by omega)]; exact this
    · rw [if_neg hh] at this; cases this
theorem fm_len {α : Type} {f : α → List VVal} {m : Nat} (hf : ∀ a, (f a).length = m) : ∀ (l : List α), (l.flatMap f).length = l.length * m
  | [] => by simp
  | a :: l => by rw [List.flatMap_cons, List.length_append, hf a, fm_len hf l, List.length_cons, Nat.add_mul, Nat.one_mul, Nat.add_comm]
theorem fm_under {α : Type} {f : α → List VVal} {n : Nat} (hf : ∀ a, VVal.underL n (f a) = true) : ∀ l : List α, VVal.underL n (l.flatMap f) = true
  | [] => rfl
  | a :: l => by rw [List.flatMap_cons]; exact VVal.underL_app (hf a) (fm_under hf l)
theorem fm_one {α : Type} {f : α → List VVal} (hf : ∀ a, (f a).all VVal.one = true) : ∀ l : List α, (l.flatMap f).all VVal.one = true
  | [] => rfl
  | a :: l => by rw [List.flatMap_cons, List.all_append, hf a, fm_one hf l]; rfl
theorem bool_f {b : Bool} (h : ¬ b = true) : b = false := by cases b <;> simp_all
theorem mapI_under (n : Nat) (l : List Int) : VVal.underL n (l.map iI) = true := VVal.underL_map fun _ => rfl
theorem mapW_under (n : Nat) (l : List (BitVec 64)) : VVal.underL n (l.map iW) = true := VVal.underL_map fun _ => rfl
theorem fzI_under (n : Nat) (l : List Int) : (fzI l).under n = true := VVal.underL_map fun _ => rfl
theorem fzW_under (n : Nat) (l : List (BitVec 64)) : (fzW l).under n = true := VVal.underL_map fun _ => rfl
theorem mapI_one (l : List Int) : (l.map iI).all VVal.one = true := by rw [List.all_map]; exact List.all_eq_true.2 fun _ _ => rfl
theorem mapW_one (l : List (BitVec 64)) : (l.map iW).all VVal.one = true := by rw [List.all_map]; exact List.all_eq_true.2 fun _ _ => rfl
theorem map_all {α : Type} {f : α → VVal} {l : List α} : cellsAt (l.map f) 0 (l.length * 1) = some (l.map f) := by
  unfold cellsAt; rw [if_pos (by rw [List.length_map]; omega), List.drop_zero, List.take_of_length_le (by rw [List.length_map]; omega)]
theorem LV.appI {h : Nat} {X : VHeap} {v : VVal} {l : List Int} {w : Int} {n : Nat} (r : LV h 1 X v (l.map iI ++ [iI w]) n) : LV h 1 X v ((l ++ [w]).map iI) n := by rw [List.map_append]; exact r
theorem LV.appW {h : Nat} {X : VHeap} {v : VVal} {l : List (BitVec 64)} {w : BitVec 64} {n : Nat} (r : LV h 1 X v (l.map iW ++ [iW w]) n) : LV h 1 X v ((l ++ [w]).map iW) n := by rw [List.map_append]; exact r
theorem LV.pushI {h : Nat} {X : VHeap} {v : VVal} {l : List Int} {w : Int} (r : LV h 1 X v (l.map iI ++ [iI w]) (l.length + 1)) : LV h 1 X v ((l ++ [w]).map iI) (l ++ [w]).length := by rw [List.map_append, List.length_append]; exact r
theorem LV.pushW {h : Nat} {X : VHeap} {v : VVal} {l : List (BitVec 64)} {w : BitVec 64} (r : LV h 1 X v (l.map iW ++ [iW w]) (l.length + 1)) : LV h 1 X v ((l ++ [w]).map iW) (l ++ [w]).length := by rw [List.map_append, List.length_append]; exact r
/-- pieces of more than one cell -/
theorem LV.pushF {α : Type} {f : α → List VVal} {h es : Nat} {X : VHeap} {v : VVal} {l : List α} {a : α} (r : LV h es X v (l.flatMap f ++ f a) (l.length + 1)) : LV h es X v ((l ++ [a]).flatMap f) (l ++ [a]).length := by
  rw [List.flatMap_append, List.length_append]; simpa using r
theorem mem_getI {l : List Int} {k : Nat} (h : k < l.length) : l.getD k 0 ∈ l := by
  rw [List.getD_eq_getElem?_getD, List.getElem?_eq_getElem h]; simp
theorem mem_getX {α : Type} {l : List α} {k : Nat} {d : α} (h : k < l.length) : l.getD k d ∈ l := by
  rw [List.getD_eq_getElem?_getD, List.getElem?_eq_getElem h]; simp
theorem take_at {α : Type} {l : List α} {k : Nat} {d : α} (h : k < l.length) : l.take (k + 1) = l.take k ++ [l.getD k d] := by
  rw [List.take_add_one, List.getD_eq_getElem?_getD, List.getElem?_eq_getElem h]; simp
theorem eq_getD {α : Type} {l r : List α} {d : α} (hl : l.length = r.length) (h : ∀ j, j < l.length → l.getD j d = r.getD j d) : l = r := by
  apply List.ext_getElem hl
  intro j h1 h2
  have := h j h1
  simpa [List.getD_eq_getElem?_getD, h1, h2] using this
theorem set_keep {L : VHeap} {p : Nat} {k : VBlk} (h : L[p]? = some k) : L = L.set p k := by
  apply List.ext_getElem?
  intro i
  rw [List.getElem?_set]
  by_cases e : p = i
  · subst e; rw [h]; rw [if_pos rfl, if_pos (List.getElem?_eq_some_iff.1 h).1]
  · rw [if_neg e]
theorem v_lenM {T : TypeId → Option VTy} {ρ : Operand → VVal} {H : VHeap} {op : Op} {a : Operand} {t kt et : TypeId} {y : VTy} {b : Nat} {es : List (VVal × VVal)} (ho : op = .call { callee := .builtin .len, args := #[a], argTypes := #[t] }) (ha : ρ a = .map (some b)) (hy : T t = some y) (hd : y.desc = .map kt et) (hb : H[b]? = some (.map es)) : vop T ρ H op = some (iI es.length, H) := by
  rw [ho]; simp [vop, vbuiltin, vlen, ha, hy, hd, hb]
/-! short names for what every walk uses -/
theorem qB : (∀ (p : Prop) [Decidable p], (decide p = true) = p) ∧ (∀ (p : Prop) (x : Decidable p), decide p = false ↔ ¬p) ∧ (∀ b : Bool, ((!b) = true) = (b = false)) ∧ (∀ b : Bool, ((!b) = false) = (b = true)) ∧
    (∀ (α : Type) [BEq α] [LawfulBEq α] (a b : α), (a != b) = true ↔ a ≠ b) ∧ (∀ (α : Type) [BEq α] [LawfulBEq α] (a b : α), (a == b) = true ↔ a = b) ∧ (∀ a b : Bool, ((a && b) = true) = (a = true ∧ b = true)) ∧ (∀ a b : Bool, ((a || b) = true) = (a = true ∨ b = true)) ∧
    (∀ b : Bool, (¬b = true) = (b = false)) ∧ (∀ (α : Type) [LE α] (x y : α), x ≥ y ↔ y ≤ x) ∧ (∀ (α : Type) [LT α] (x y : α), x > y ↔ y < x) ∧ (∀ a b : Int, ¬a ≤ b ↔ b < a) ∧ (∀ a b : Int, ¬a < b ↔ b ≤ a) ∧
    (∀ (α : Type) [BEq α] [LawfulBEq α] (a b : α), (a == b) = false ↔ a ≠ b) ∧ (∀ (α : Type) [BEq α] [LawfulBEq α] (a b : α), (a != b) = false ↔ a = b) ∧ (∀ (α : Type) (a b : α), (a ≠ b) = ¬a = b) ∧ (∀ (p : Prop) [Decidable p], ¬¬p ↔ p) ∧
    (∀ a : BitVec 64, (a.toNat : Int) = 0 ↔ a = 0#64) ∧ (∀ a : BitVec 64, (a.toNat : Int) = 1 ↔ a = 1#64) ∧ (∀ a b : BitVec 64, (a.toNat : Int) = b.toNat ↔ a = b) :=
  ⟨fun _ _ => decide_eq_true_eq, fun _ _ => decide_eq_false_iff_not, Bool.not_eq_true', Bool.not_eq_false', fun _ _ _ _ _ => bne_iff_ne, fun _ _ _ _ _ => beq_iff_eq, Bool.and_eq_true, Bool.or_eq_true, Bool.not_eq_true, fun _ _ _ _ => ge_iff_le, fun _ _ _ _ => gt_iff_lt, fun _ _ => Int.not_le, fun _ _ => Int.not_lt,
    fun _ _ _ _ _ => beq_eq_false_iff_ne, fun _ _ _ _ _ => bne_eq_false_iff_eq, fun _ _ _ => ne_eq _ _, fun _ _ => Decidable.not_not, fun _ => wd_zero, fun _ => wd_one, fun _ _ => wd_inj⟩
theorem qN : ∀ n : Nat, (n : Int).toNat = n := Int.toNat_natCast
/-- a mask out of a number -/
def mk : Nat → Nat → List Bool
  | 0, _ => []
  | n + 1, k => Nat.beq (k % 2) 1 :: mk n (k / 2)
/-- what stands at an address: of cells that nobody writes any more, or of a block -/
def LdOk (H : VHeap) (p v : VVal) : Prop := (∃ cs off, p = .fptr cs off ∧ cs[off]? = some v) ∨ ∃ b off cs rw, p = .ptr (some (b, off)) ∧ H[b]? = some (.cells cs rw) ∧ cs[off]? = some v
def LdOkA (H : VHeap) (p : VVal) (n : Nat) (vs : List VVal) : Prop := (∃ cs off, p = .fptr cs off ∧ cellsAt cs off n = some vs) ∨ ∃ b off cs rw, p = .ptr (some (b, off)) ∧ H[b]? = some (.cells cs rw) ∧ cellsAt cs off n = some vs
section
variable {T : TypeId → Option VTy} {ρ : Operand → VVal} {H : VHeap} {op : Op}
theorem v_ld {t : TypeId} {a : Operand} {y : VTy} {p v : VVal} (ho : op = .load t a) (ha : ρ a = p) (hy : T t = some y) (hd : isAggDesc y.desc = false) (h : LdOk H p v) : vop T ρ H op = some (v, H) := by
  rcases h with ⟨cs, off, rfl, h⟩ | ⟨b, off, cs, rw', rfl, h1, h2⟩
  · exact v_loadF ho ha hy hd h
  · exact v_load ho ha hy hd h1 h2
theorem v_ldA {t : TypeId} {a : Operand} {y : VTy} {p : VVal} {n : Nat} {vs : List VVal} (ho : op = .load t a) (ha : ρ a = p) (hy : T t = some y) (hd : isAggDesc y.desc = true) (hn : y.size = n) (h : LdOkA H p n vs) : vop T ρ H op = some (.agg vs, H) := by
  subst hn
  rcases h with ⟨cs, off, rfl, h⟩ | ⟨b, off, cs, rw', rfl, h1, h2⟩
  · exact v_loadFA ho ha hy hd h
  · exact v_loadA ho ha hy hd h1 h2
/-- a place of a slice -/
def IxOk (p : VVal) (es : Nat) (n : Int) (v : VVal) : Prop := (∃ cs len ex, p = .fsl cs len es ex ∧ (0 ≤ n ∧ n < len) ∧ v = .fptr cs (n.toNat * es)) ∨ ∃ b off len cap ex, p = .slice (some (b, off)) len cap ex es ∧ (0 ≤ n ∧ n < len) ∧ v = .ptr (some (b, off + n.toNat * es))
theorem v_ix {t e : TypeId} {x i : Operand} {y z : VTy} {k : IntKind} {n : Int} {p v : VVal} {es : Nat} (ho : op = .indexAddr t x i) (hx : ρ x = p) (hi : ρ i = .int k n) (hy : T t = some y) (hd : y.desc = .slice e) (hz : T e = some z) (hs : z.size = es) (h : IxOk p es n v) : vop T ρ H op = some (v, H) := by
  rcases h with ⟨cs, len, ex, rfl, hn, rfl⟩ | ⟨b, off, len, cap, ex, rfl, hn, rfl⟩
  · exact v_idxF ho hx hi hy hd hz hs hn
  · exact v_idx ho hx hi hy hd hz hs hn
end
section
variable {S : Sys} {H0 H H' : VHeap} {ops : Array Oper} {o : Oper} {l : List Oper} {env : VEnv} {K : VEnv → VHeap → Prop} {v : VVal}
theorem Lo (env' : VEnv) (hv : vop S.C.T env.eval H o.op = some (v, H')) (h : WL S H0 ops l env' H' K) (hg : vwanted ops env o.guard = some true := by rfl) (hc : calleeOf S.C.meth env.eval o.op = none := by rfl) (he : env.put o.dst v = env' := by rfl) : WL S H0 ops (o :: l) env H K := L_op hg hc hv he h
theorem Lf (env' : VEnv) (h : WL S H0 ops l env' H K) (hg : vwanted ops env o.guard = some false := by rfl) (he : env.put o.dst .skip = env' := by rfl) : WL S H0 ops (o :: l) env H K := L_off hg he h
theorem Le (env' : VEnv) (h : WL S H0 ops l env' H K) (he : env = env' := by rfl) : WL S H0 ops l env H K := L_env he h
end
section
variable {S : Sys} {H H' : VHeap} {ops : Array Oper} {bef : Array Nat} {i : Nat} {li : List Nat} {o : Oper} {env : VEnv} {tk tk' : List (Nat × Tr)} {K : VEnv → VHeap → Prop} {v : VVal}
theorem Oo (env' : VEnv) (c : Cls) (ho : ops[i]? = some o) (hv : vop S.C.T env.eval H o.op = some (v, H')) (h : WO S ops bef li env' H' tk' K) (hg : vwanted ops env o.guard = some true := by rfl) (hc : calleeOf S.C.meth env.eval o.op = none := by rfl) (hk : clsOf S.C.T o.op = c := by rfl) (he : env.put o.dst v = env' := by rfl) (ht : tk ++ [(i, .k c)] = tk' := by rfl) : WO S ops bef (i :: li) env H tk K := O_op ho hg hc hv hk he ht h
theorem Of (env' : VEnv) (ho : ops[i]? = some o) (h : WO S ops bef li env' H tk' K) (hg : vwanted ops env o.guard = some false := by rfl) (he : env.put o.dst .skip = env' := by rfl) (ht : tk ++ [(i, .k .calm)] = tk' := by rfl) : WO S ops bef (i :: li) env H tk K := O_off ho hg he ht h
end
end Go.V

set_option autoImplicit false
set_option linter.unusedVariables false
set_option linter.unusedSimpArgs false
namespace Go.V
open Go Go.RowKit
/-- how many bits a word has, but the zeros ahead -/
def ln (w : BitVec 64) : Nat := if w.toNat = 0 then 0 else Nat.log2 w.toNat + 1
theorem ln_le {w : BitVec 64} {m : Nat} : ln w ≤ m ↔ w.toNat < 2 ^ m := by
  unfold ln
  by_cases h : w.toNat = 0
  · rw [if_pos h, h]; simp [Nat.two_pow_pos]
  · rw [if_neg h]
    constructor
    · intro e; exact (Nat.log2_lt h).1 (by omega)
    · intro e; have := (Nat.log2_lt h).2 e; omega
theorem le_ext2 {a b : Nat} (h : ∀ k, a ≤ k ↔ b ≤ k) : a = b := Nat.le_antisymm ((h b).2 (Nat.le_refl _)) ((h a).1 (Nat.le_refl _))
theorem ln_shr {w : BitVec 64} {k : Nat} (h : 2 ^ k ≤ w.toNat) : ln w = k + ln (w >>> k) := by
  apply le_ext2
  intro m
  rw [ln_le]
  by_cases hm : m < k
  · have : 2 ^ m < 2 ^ k := Nat.pow_lt_pow_right (by omega) hm
    omega
  · have e : 2 ^ m = 2 ^ k * 2 ^ (m - k) := by rw [← Nat.pow_add]; congr 1; omega
    have : (k + ln (w >>> k) ≤ m ↔ ln (w >>> k) ≤ m - k) := by omega
    rw [this, ln_le, BitVec.toNat_ushiftRight, Nat.shiftRight_eq_div_pow, Nat.div_lt_iff_lt_mul (Nat.two_pow_pos k), e, Nat.mul_comm]
theorem ln_64 (w : BitVec 64) : ln w ≤ 64 := ln_le.2 w.isLt
theorem ln_high {w : BitVec 64} {u : Int} (h : 0 ≤ u) : u ≤ (ln w : Int) - 1 ↔ ¬ w >>> u.toNat = 0#64 := by
  have h1 : (u ≤ (ln w : Int) - 1) ↔ ¬ ln w ≤ u.toNat := by omega
  rw [h1, ln_le]
  refine not_congr ?_
  rw [← BitVec.toNat_inj, BitVec.toNat_ushiftRight, Nat.shiftRight_eq_div_pow]
  show _ ↔ _ = 0
  rw [Nat.div_eq_zero_iff]
  have := Nat.two_pow_pos u.toNat
  omega
/-- the table of lengths of bytes -/
def l8 : ByteArray := ⟨((List.range 256).map fun n => UInt8.ofNat (if n = 0 then 0 else Nat.log2 n + 1)).toArray⟩
theorem l8_at {n : Nat} (h : n < 256) : l8[n]? = some (UInt8.ofNat (if n = 0 then 0 else Nat.log2 n + 1)) := by
  show (ByteArray.mk _)[n]? = _
  have hs : l8.size = 256 := by simp [l8, ByteArray.size]
  rw [show (ByteArray.mk ((List.range 256).map fun n => UInt8.ofNat (if n = 0 then 0 else Nat.log2 n + 1)).toArray) = l8 from rfl]
  rw [getElem?_pos l8 n (by rw [hs]; exact h)]
  congr 1
  show l8.data[n]'_ = _
  simp [l8]
theorem wrap_u8 {n : Nat} : IntKind.u8.wrap (n : Int) = ((n % 256 : Nat) : Int) := by
  simp [IntKind.wrap, IntKind.bits, IntKind.signed]
section
variable {T : TypeId → Option VTy} {ρ : Operand → VVal} {H : VHeap} {op : Op}
theorem v_l8 {t : TypeId} {x i : Operand} {s : ByteArray} {w : BitVec 64} {y : VTy} (ho : op = .index t x i) (hx : ρ x = .str s) (hs : s = l8) (hi : ρ i = .int .u8 (IntKind.u8.wrap (w.toNat : Int))) (hy : T t = some y) (hd : y.desc = .string) (hw : w.toNat < 256) : vop T ρ H op = some (.int .u8 (ln w : Nat), H) := by
  subst hs
  rw [ho]
  simp only [vop, hx, hi, vindex, hy, hd]
  rw [wrap_u8, Nat.mod_eq_of_lt hw, if_pos (by omega), Int.toNat_natCast, l8_at hw]
  simp only [Option.map_some]
  congr 1; congr 1; congr 1
  unfold ln
  by_cases h : w.toNat = 0
  · simp [h]
  · simp only [if_neg h]
    have h8 : w.toNat.log2 < 8 := (Nat.log2_lt h).2 hw
    simp only [UInt8.toNat_ofNat']
    rw [Nat.mod_eq_of_lt (by omega)]
end
end Go.V

set_option autoImplicit false
set_option linter.unusedVariables false
set_option linter.unusedSimpArgs false
namespace Go.V
open Go Go.RowKit
abbrev iB (b : UInt8) : VVal := .int .u8 (b.toNat : Int)
def fzB (l : List UInt8) : VVal := .fsl (l.map iB) l.length 1 false
theorem mapB_under (n : Nat) (l : List UInt8) : VVal.underL n (l.map iB) = true := VVal.underL_map fun _ => rfl
theorem fzB_under (n : Nat) (l : List UInt8) : (fzB l).under n = true := VVal.underL_map fun _ => rfl
theorem mapB_one (l : List UInt8) : (l.map iB).all VVal.one = true := by rw [List.all_map]; exact List.all_eq_true.2 fun _ _ => rfl
/-- the lowest byte of a number -/
def bI (n : Int) : UInt8 := UInt8.ofNat (n % 256).toNat
def bW (w : BitVec 64) : UInt8 := UInt8.ofNat w.toNat
theorem wrap_bI (n : Int) : IntKind.u8.wrap n = ((bI n).toNat : Int) := by
  have : 0 ≤ n % 256 := Int.emod_nonneg _ (by decide)
  have h2 : n % 256 < 256 := Int.emod_lt_of_pos _ (by decide)
  have e : IntKind.u8.wrap n = n % 256 := by simp [IntKind.wrap, IntKind.bits, IntKind.signed]
  rw [e, bI, UInt8.toNat_ofNat', Nat.mod_eq_of_lt (by omega)]; omega
theorem wrap_bW (w : BitVec 64) : IntKind.u8.wrap (w.toNat : Int) = ((bW w).toNat : Int) := by
  rw [wrap_u8, bW, UInt8.toNat_ofNat']
theorem wrap_ofInt (n : Int) : IntKind.u64.wrap n = ((BitVec.ofInt 64 n).toNat : Int) := by
  have e : IntKind.u64.wrap n = n % 18446744073709551616 := by simp [IntKind.wrap, IntKind.bits, IntKind.signed]
  rw [e, BitVec.toNat_ofInt]
  show n % 18446744073709551616 = ((n % 18446744073709551616).toNat : Int)
  have : 0 ≤ n % 18446744073709551616 := Int.emod_nonneg _ (by decide)
  omega
section
variable {T : TypeId → Option VTy} {ρ : Operand → VVal} {H : VHeap} {op : Op} {s d : TypeId} {x : Operand} {ys yd : VTy} {k : IntKind} {n : Int}
theorem v_cv {j : IntKind} (ho : op = .convert s d x) (hx : ρ x = .int k n) (hs : T s = some ys) (hd : T d = some yd) (hj : yd.desc = .int j) : vop T ρ H op = some (.int j (j.wrap n), H) := by
  rw [ho]; simp only [vop, vconvert, hx, hs, hd, hj]
theorem v_cvI (ho : op = .convert s d x) (hx : ρ x = .int k n) (hs : T s = some ys) (hd : T d = some yd) (hj : yd.desc = .int .i64) (h : -9223372036854775808 ≤ n ∧ n < 9223372036854775808) : vop T ρ H op = some (iI n, H) := by
  rw [v_cv ho hx hs hd hj, wrap_i n h]
theorem v_cvW (ho : op = .convert s d x) (hx : ρ x = .int k n) (hs : T s = some ys) (hd : T d = some yd) (hj : yd.desc = .int .u64) : vop T ρ H op = some (iW (BitVec.ofInt 64 n), H) := by
  rw [v_cv ho hx hs hd hj, wrap_ofInt]
theorem v_cvB (ho : op = .convert s d x) (hx : ρ x = .int k n) (hs : T s = some ys) (hd : T d = some yd) (hj : yd.desc = .int .u8) : vop T ρ H op = some (iB (bI n), H) := by
  rw [v_cv ho hx hs hd hj, wrap_bI]
theorem v_cvWB {w : BitVec 64} (ho : op = .convert s d x) (hx : ρ x = iW w) (hs : T s = some ys) (hd : T d = some yd) (hj : yd.desc = .int .u8) : vop T ρ H op = some (iB (bW w), H) := by
  rw [v_cv ho hx hs hd hj, wrap_bW]
theorem v_cvBW {b : UInt8} (ho : op = .convert s d x) (hx : ρ x = iB b) (hs : T s = some ys) (hd : T d = some yd) (hj : yd.desc = .int .u64) : vop T ρ H op = some (iW (BitVec.ofNat 64 b.toNat), H) := by
  rw [v_cv ho hx hs hd hj]
  have e : IntKind.u64.wrap (b.toNat : Int) = (b.toNat : Int) % 18446744073709551616 := by simp [IntKind.wrap, IntKind.bits, IntKind.signed]
  have := b.toNat_lt
  rw [e]
  have e2 : (BitVec.ofNat 64 b.toNat).toNat = b.toNat := by rw [BitVec.toNat_ofNat]; exact Nat.mod_eq_of_lt (by omega)
  show some (VVal.int .u64 _, H) = some (VVal.int .u64 _, H)
  rw [e2, Int.emod_eq_of_lt (by omega) (by omega)]
/-- a slice of bytes as a slice of bytes of another name -/
theorem v_cvSl {e : TypeId} {z : VTy} {b off len cap es : Nat} {ex : Bool} {cs : List VVal} (ho : op = .convert s s x) (hx : ρ x = .slice (some (b, off)) len cap ex es) (hs : T s = some ys) (hd : ys.desc = .slice e) (hz : T e = some z) (hu : z.desc = .int .u8) (hb : H[b]? = some (.cells cs true)) : vop T ρ H op = some (.slice (some (b, off)) len cap ex es, H) := by
  rw [ho]; simp [vop, vconvert, hx, hs, hd, hz, hu, hb]
theorem v_shrN {t ty : TypeId} {x y : Operand} {a : BitVec 64} (m : Nat) (ho : op = .binOp .shr t x y ty) (hx : ρ x = .int .u64 a.toNat) (hy : ρ y = .int k (m : Nat)) : vop T ρ H op = some (iW (a >>> m), H) := by
  have := v_shrW (T := T) (H := H) ho hx hy (by omega)
  rwa [Int.toNat_natCast] at this
theorem bytesOf_map : ∀ l : List UInt8, bytesOf (l.map iB) = some l
  | [] => rfl
  | b :: l => by
    have := b.toNat_lt
    rw [List.map_cons, bytesOf, bytesOf_map l]
    simp
/-- frozen bytes as a text -/
theorem v_cvS {e : TypeId} {z : VTy} {l : List UInt8} (ho : op = .convert s d x) (hx : ρ x = fzB l) (hs : T s = some ys) (hd : T d = some yd) (h1 : ys.desc = .slice e) (h2 : yd.desc = .string) (hz : T e = some z) (hu : z.desc = .int .u8) : vop T ρ H op = some (.str ⟨l.toArray⟩, H) := by
  rw [ho]; simp only [vop, vconvert, hx, fzB, hs, hd, h1, h2, hz, hu]
  have := map_all (f := iB) (l := l)
  rw [Nat.mul_one] at this
  simp only [this, bytesOf_map, Option.map_some]
theorem v_cvS0 {e : TypeId} {z : VTy} {n c : Nat} {ex : Bool} {es : Nat} (ho : op = .convert s d x) (hx : ρ x = .slice none n c ex es) (hs : T s = some ys) (hd : T d = some yd) (h1 : ys.desc = .slice e) (h2 : yd.desc = .string) (hz : T e = some z) (hu : z.desc = .int .u8) : vop T ρ H op = some (.str ⟨([] : List UInt8).toArray⟩, H) := by
  rw [ho]; simp only [vop, vconvert, hx, hs, hd, h1, h2, hz, hu]; rfl
end
/-- what was exactly so long may be longer -/
theorem Gh.loosen {S : Sys} {H0 H : VHeap} {vs vs' : List VVal} (i : Nat) {b off len cap es : Nat} (hv : vs[i]? = some (.slice (some (b, off)) len cap true es)) (he : vs.set i (.slice (some (b, off)) len cap false es) = vs') : Gh S H0 vs H vs' H := by
  subst he
  intro h
  refine ⟨h, fun w ι xs hb s r => ?_⟩
  obtain ⟨x, hx, rx⟩ := r.get i _ hv
  refine ⟨ι, Inj.ex_refl _ _, s, ?_⟩
  have rx' : Rel ι (.slice (some (b, off)) len cap false es) x := by
    simp only [Rel] at rx ⊢
    obtain ⟨e, c, h1, h2, h3, h4, h5⟩ := rx
    exact ⟨e, c, h1, h2, (fun hf => absurd hf (by decide)), h4, h5⟩
  have := RelL.set i r rx'
  rwa [set_same hx] at this
/-- a list that grows behind a pointer: block j holds it; b blocks lie ahead of these -/
structure RG (b es : Nat) (X : VHeap) (j : Nat) (v : VVal) (cs : List VVal) (n : Nat) : Prop where
  c : X[j]? = some (.cells [v] true)
  l : LV b es X v cs n
  n : vidx v ≠ some (b + j)
/-- what stands in other blocks stays -/
def Kp (b j : Nat) (X : VHeap) (v : VVal) (X' : VHeap) (v' : VVal) : Prop := ∀ i k, X[i]? = some k → i ≠ j → vidx v ≠ some (b + i) → X'[i]? = some k ∧ vidx v' ≠ some (b + i)
theorem Kp.refl (b j : Nat) (X : VHeap) (v : VVal) : Kp b j X v X v := fun _ _ h _ h2 => ⟨h, h2⟩
theorem Kp.trans {b j : Nat} {X X1 X2 : VHeap} {v v1 v2 : VVal} (h1 : Kp b j X v X1 v1) (h2 : Kp b j X1 v1 X2 v2) : Kp b j X v X2 v2 := fun i k h3 h4 h5 => by
  obtain ⟨a, c⟩ := h1 i k h3 h4 h5
  exact h2 i k a h4 c
theorem RG.push {b es : Nat} {X : VHeap} {j : Nat} {v : VVal} {cs new : List VVal} {n k : Nat} (r : RG b es X j v cs n) {Y1 : VHeap} (h1 : Y1.length = X.length) (h2 : ∀ i, vidx v ≠ some (b + i) → Y1[i]? = X[i]?) {m m2 : Nat}
    (h3 : LV b es (Y1 ++ [VBlk.cells new true, VBlk.cells (cs ++ new) true]) (.slice (some (b + (X.length + 1), 0)) m m2 false es) (cs ++ new) k) :
    RG b es ((Y1 ++ [VBlk.cells new true, VBlk.cells (cs ++ new) true]).set j (VBlk.cells [VVal.slice (some (b + (X.length + 1), 0)) m m2 false es] true)) j (.slice (some (b + (X.length + 1), 0)) m m2 false es) (cs ++ new) k ∧
      Kp b j X v ((Y1 ++ [VBlk.cells new true, VBlk.cells (cs ++ new) true]).set j (VBlk.cells [VVal.slice (some (b + (X.length + 1), 0)) m m2 false es] true)) (.slice (some (b + (X.length + 1), 0)) m m2 false es) := by
  have hj : j < X.length := lt_of_get r.c
  refine ⟨⟨?_, ?_, ?_⟩, ?_⟩
  · exact List.getElem?_set_self (by simp; omega)
  · refine LV.frame h3 fun i hi => ?_
    simp only [vidx, Option.some.injEq] at hi
    rw [List.getElem?_set_ne (by omega)]
  · simp only [vidx, ne_eq, Option.some.injEq]; omega
  · intro i k hk hij hv
    have hi : i < X.length := lt_of_get hk
    refine ⟨?_, ?_⟩
    · rw [List.getElem?_set_ne (Ne.symm hij), List.getElem?_append_left (by omega), h2 i hv]; exact hk
    · simp only [vidx, ne_eq, Option.some.injEq]; omega
end Go.V

set_option autoImplicit false
set_option linter.unusedVariables false
set_option linter.unusedSimpArgs false
namespace Go.V
open Go Go.RowKit
theorem setB {H L X : VHeap} {n j : Nat} {k : VBlk} (hn : H.length = n) (hj : j < L.length) : ((H ++ L) ++ X).set (n + j) k = (H ++ L.set j k) ++ X := by
  subst hn
  rw [List.set_append_left _ _ (by simp; omega), List.set_append_right _ _ (by omega), Nat.add_sub_cancel_left]
theorem getB {H L X : VHeap} {n j : Nat} {k : VBlk} (hn : H.length = n) (hj : L[j]? = some k) : ((H ++ L) ++ X)[n + j]? = some k := get_append (get_app hn hj)
section
variable {T : TypeId → Option VTy} {ρ : Operand → VVal} {B : VHeap} {op : Op}
theorem v_appXh {h : Nat} {s x : Operand} {ats : Array TypeId} {t u e : TypeId} {z : VTy} {du : TypeDesc} {v : VVal} {Y : VHeap} {cs new : List VVal} {len k : Nat} {kx : Nat}
    (ho : op = .call { callee := .builtin .append, args := #[s, x], argTypes := ats }) (hat : ats = #[t, u]) (hz : velem T t = some (e, z)) (hu : (T u).map (·.desc) = some du) (hdu : isSeq du = true)
    (hs : ρ s = v) (hx : ρ x = .slice (some (B.length + Y.length, 0)) k kx true z.size) (hh : B.length = h) (l : LV h z.size Y v cs len) (hn : new.length = k * z.size) (h1 : new.all VVal.one = true) (hp : 0 < z.size)
    (hb : (len + k) * z.bytes ≤ 140737488355328 ∧ len + k ≤ 140737488355328) (hk : 0 < k) :
    ∃ u G, vop T ρ (B ++ (Y ++ [.cells new true])) op = some (u, G) ∧ ∃ Y1, u = .slice (some (h + (Y.length + 1), 0)) (len + k) (len + k) false z.size ∧ G = B ++ (Y1 ++ [.cells new true, .cells (cs ++ new) true]) ∧ Y1.length = Y.length ∧ (∀ i, vidx v ≠ some (h + i) → Y1[i]? = Y[i]?) ∧
      LV h z.size (Y1 ++ [.cells new true, .cells (cs ++ new) true]) (.slice (some (h + (Y.length + 1), 0)) (len + k) (len + k) false z.size) (cs ++ new) (len + k) := by
  subst hh
  exact v_appX ho hat hz hu hdu hs hx l hn h1 hp hb hk
end
section
variable {S : Sys} {H0 : VHeap}
/-- a list that grows, in a cell of another block: frozen -/
theorem Gh.cellLV {vs : List VVal} {H L X : VHeap} {c j h es : Nat} {cs2 cs : List VVal} {v : VVal} {len : Nat} (hc : L[c]? = some (.cells cs2 true)) (hj : cs2[j]? = some v) (hh : (H ++ L).length = h) (l : LV h es X v cs len) :
    ∃ X', Gh S H0 vs ((H ++ L) ++ X) vs ((H ++ L.set c (.cells (cs2.set j (.fsl cs len es false)) true)) ++ X') ∧ X'.length = X.length ∧ ∀ i, vidx v ≠ some (h + i) → X'[i]? = X[i]? := by
  have hcl : c < L.length := lt_of_get hc
  have hc' : ((H ++ L) ++ X)[H.length + c]? = some (.cells cs2 true) := getB rfl hc
  rcases l.2 with ⟨rfl, rfl⟩ | ⟨h0, b, rfl, hb⟩
  · refine ⟨X, ?_, rfl, fun _ _ => rfl⟩
    have hcs : cs = [] := List.eq_nil_of_length_eq_zero (by rw [l.1]; omega)
    subst hcs
    have := Gh.cellNil (S := S) (H0 := H0) (vs := vs) (es' := es) _ j hc' hj
    rwa [setB rfl hcl] at this
  · refine ⟨X.set b .dead, ?_, by simp, fun i hi => by rw [List.getElem?_set_ne (fun e => hi (by subst e; rfl))]⟩
    have hbl : b < X.length := lt_of_get hb
    have hg : ((H ++ L) ++ X)[h + b]? = some (.cells cs true) := by subst hh; exact get_app rfl hb
    have hlen : (H ++ L).length = H.length + L.length := by simp
    have hl : cellsAt cs 0 (len * es) = some cs := by
      unfold cellsAt; rw [if_pos (by rw [l.1]; omega), List.drop_zero, List.take_of_length_le (by rw [l.1]; omega)]
    have := Gh.cell (S := S) (H0 := H0) (vs := vs) _ j hc' hj (by omega) hg hl (Nat.le_refl _)
    rw [show ((H ++ L) ++ X).set (h + b) .dead = (H ++ L) ++ X.set b .dead by subst hh; exact set_app rfl, setB rfl hcl] at this
    exact this
theorem B_ghCell {rd : Option Nat} {env : VEnv} {Q : Post} {H L X : VHeap} {c1 : Code} (c j : Nat) {h es : Nat} {cs2 cs : List VVal} {v : VVal} {len : Nat} (l : LV h es X v cs len) (hc : L[c]? = some (.cells cs2 true)) (hj : cs2[j]? = some v) (hh : (H ++ L).length = h)
    (k : ∀ X', X'.length = X.length → (∀ i, vidx v ≠ some (h + i) → X'[i]? = X[i]?) → B S H0 rd c1 env ((H ++ L.set c (.cells (cs2.set j (.fsl cs len es false)) true)) ++ X') Q) : B S H0 rd c1 env ((H ++ L) ++ X) Q := by
  obtain ⟨X', g, h1, h2⟩ := Gh.cellLV (S := S) (H0 := H0) (vs := env) hc hj hh l
  exact B_gh g (k X' h1 h2)
/-- .. in a slot -/
theorem B_ghLVh {rd : Option Nat} {env env' : VEnv} {Q : Post} {B0 X : VHeap} {c : Code} {h es : Nat} {v : VVal} {cs : List VVal} {len : Nat} (i : Nat) (l : LV h es X v cs len) (hh : B0.length = h) (hv : env[i]? = some v) (he : env.set i (.fsl cs len es false) = env')
    (k : ∀ X', X'.length = X.length → (∀ j, vidx v ≠ some (h + j) → X'[j]? = X[j]?) → B S H0 rd c env' (B0 ++ X') Q) : B S H0 rd c env (B0 ++ X) Q := by
  subst hh; exact B_ghLV i l hv he k
/-- a pointer to the last block: nobody writes it any more -/
theorem Gh.freezeEnd {vs vs' : List VVal} {B0 X : VHeap} {cs : List VVal} (i : Nat) (hv : vs[i]? = some (.ptr (some (B0.length + X.length, 0)))) (he : vs.set i (.fptr cs 0) = vs') : Gh S H0 vs (B0 ++ (X ++ [.cells cs true])) vs' (B0 ++ (X ++ [.dead])) := by
  have := Gh.freezePtrL (S := S) (H0 := H0) (H := B0) (L := X ++ [.cells cs true]) i X.length hv get_end he
  rwa [set_end] at this
end
section
variable {T : TypeId → Option VTy} {ρ : Operand → VVal} {H : VHeap} {op : Op} {t e : TypeId} {x : Operand} {y z : VTy} {k : Nat} {kd : IntKind}
theorem v_iHi {hi : Operand} {l : List Int} (ho : op = .slice t x none (some hi) none) (hy : T t = some y) (hd : y.desc = .slice e) (hz : T e = some z) (hs : z.size = 1) (hx : ρ x = fzI l) (hh : ρ hi = .int kd (k : Nat)) (hk : k ≤ l.length) : vop T ρ H op = some (fzI (l.take k), H) := by
  rw [v_sliceHi ho hy hd hz hs hx hh hk (by rw [List.length_map]; omega)]
  simp [fzI, Nat.min_eq_left hk, List.map_take]
theorem v_bHi {hi : Operand} {l : List UInt8} (ho : op = .slice t x none (some hi) none) (hy : T t = some y) (hd : y.desc = .slice e) (hz : T e = some z) (hs : z.size = 1) (hx : ρ x = fzB l) (hh : ρ hi = .int kd (k : Nat)) (hk : k ≤ l.length) : vop T ρ H op = some (fzB (l.take k), H) := by
  rw [v_sliceHi ho hy hd hz hs hx hh hk (by rw [List.length_map]; omega)]
  simp [fzB, Nat.min_eq_left hk, List.map_take]
theorem v_bLo {lo : Operand} {l : List UInt8} (ho : op = .slice t x (some lo) none none) (hy : T t = some y) (hd : y.desc = .slice e) (hz : T e = some z) (hs : z.size = 1) (hx : ρ x = fzB l) (hh : ρ lo = .int kd (k : Nat)) (hk : k ≤ l.length) : vop T ρ H op = some (fzB (l.drop k), H) := by
  rw [v_sliceLo ho hy hd hz hs hx hh hk (by rw [List.length_map]; omega)]
  simp [fzB, List.map_drop]
end
theorem LV.keep {h es : Nat} {X Y1 : VHeap} {v s : VVal} {cs : List VVal} {len : Nat} (l : LV h es X v cs len) (hd : ∀ n, vidx v = some n → vidx s ≠ some n) (hY : ∀ i, vidx s ≠ some (h + i) → Y1[i]? = X[i]?) : LV h es Y1 v cs len :=
  LV.frame l fun i hi => hY i (hd _ hi)
theorem LV.lt {h es : Nat} {X : VHeap} {v : VVal} {cs : List VVal} {len : Nat} (l : LV h es X v cs len) : ∀ n, vidx v = some n → n < h + X.length := fun n hn => by
  rcases l.2 with ⟨_, rfl⟩ | ⟨_, b, rfl, hb⟩
  · cases hn
  · simp only [vidx, Option.some.injEq] at hn
    have := lt_of_get hb; omega
/-- a list and a new block -/
theorem LV.far {h es m : Nat} {X : VHeap} {v : VVal} {cs : List VVal} {len : Nat} (l : LV h es X v cs len) (hm : X.length ≤ m) {o : Nat} {n c e2 : Nat} {ex : Bool} : ∀ k, vidx v = some k → vidx (.slice (some (h + m, o)) n c ex e2) ≠ some k := fun k hk e => by
  have := l.lt k hk
  simp only [vidx, Option.some.injEq] at e; omega
/-- two lists have nothing in common -/
def Dj (v s : VVal) : Prop := ∀ n, vidx v = some n → vidx s ≠ some n
theorem Dj.symm {v s : VVal} (d : Dj v s) : Dj s v := fun n h e => d n e h
theorem Dj.nil (v : VVal) {es : Nat} : Dj v (.slice none 0 0 true es) := fun n _ e => by cases e
/-- the one has grown: the other one stays, and has nothing in common with it -/
theorem LV.keepN {h es e2 n n2 : Nat} {X Y1 Z : VHeap} {w v1 v2 : VVal} {cs cs2 : List VVal} (hY3 : LV h es (Y1 ++ Z) w cs n) (l2 : LV h e2 X v2 cs2 n2) (d : Dj v2 v1) (hY2 : ∀ i, vidx v1 ≠ some (h + i) → Y1[i]? = X[i]?) : LV h e2 (Y1 ++ Z) v2 cs2 n2 := (LV.keep l2 d hY2).app Z
theorem LV.djN {h es e2 a b n n2 : Nat} {X X' : VHeap} {v2 : VVal} {cs cs2 : List VVal} (hY3 : LV h es X' (.slice (some (h + (X.length + 1), 0)) a b false es) cs n) (l2 : LV h e2 X v2 cs2 n2) : Dj v2 (.slice (some (h + (X.length + 1), 0)) a b false es) := LV.far l2 (Nat.le_succ _)
end Go.V

set_option autoImplicit false
set_option linter.unusedVariables false
set_option linter.unusedSimpArgs false
set_option maxHeartbeats 4000000
set_option maxRecDepth 100000
namespace Go.Proofs.Ytbngdhlmggdaaaa.VT
open Go Go.V

abbrev uS1n6 {a0 a1 a2 a3 a4 a5 : VVal} : VEnv := a0 :: a1 :: a2 :: a3 :: a4 :: a5 :: []
abbrev uS1n7 {a0 a1 a2 a3 a4 a5 a6 : VVal} : VEnv := a0 :: a1 :: a2 :: a3 :: a4 :: a5 :: a6 :: []
abbrev uS1n13 {a0 a1 a2 a3 a4 a5 a6 a7 a8 a9 a10 a11 a12 : VVal} : VEnv := a0 :: a1 :: a2 :: a3 :: a4 :: a5 :: a6 :: a7 :: a8 :: a9 :: a10 :: a11 :: a12 :: []
abbrev uS1n16 {a0 a1 a2 a3 a4 a5 a6 a7 a8 a9 a10 a11 a12 a13 a14 a15 : VVal} : VEnv := a0 :: a1 :: a2 :: a3 :: a4 :: a5 :: a6 :: a7 :: a8 :: a9 :: a10 :: a11 :: a12 :: a13 :: a14 :: a15 :: []
abbrev uS1n35 {a0 a1 a2 a3 a4 a5 a6 a7 a8 a9 a10 a11 a12 a13 a14 a15 a16 a17 a18 a19 a20 a21 a22 a23 a24 a25 a26 a27 a28 a29 a30 a31 a32 a33 a34 : VVal} : VEnv := a0 :: a1 :: a2 :: a3 :: a4 :: a5 :: a6 :: a7 :: a8 :: a9 :: a10 :: a11 :: a12 :: a13 :: a14 :: a15 :: a16 :: a17 :: a18 :: a19 :: a20 :: a21 :: a22 :: a23 :: a24 :: a25 :: a26 :: a27 :: a28 :: a29 :: a30 :: a31 :: a32 :: a33 :: a34 :: []

theorem wS1n0 {S : V.Sys} {H : VHeap} {fn : Func} {ex : Exit} {env : VEnv} {B L : VHeap} {v : VVal} {R : VVal → VHeap → Prop} (hx : ex = .normal ∨ ex = .ret) (hv : vresults S.C.T env (B ++ L) fn.results = some v) (h : R v B) (hB : BaseOk H B := by first | exact BaseOk.refl _ | exact BaseOk.set (BaseOk.refl _) _ rfl) (hu : v.under H.length = true := by first | rfl | simp [VVal.under, VVal.underL, *]) : fnK S fn H R ex env (B ++ L) := E_app hx hv hB hu h
theorem wS1n1 {T : TypeId → Option VTy} {H : VHeap} {op : Op} {ρ : Operand → VVal} {t : TypeId} {a : Operand} {y : VTy} {p : VVal} {n : Nat} {vs : List VVal} (ho : op = .load t a) (ha : ρ a = p) (hy : T t = some y) (hd : isAggDesc y.desc = true) (hn : y.size = n) (h : LdOkA H p n vs := by first | exact .inl ⟨_, _, rfl, by first | rfl | assumption | exact fget (α := BitVec 64) 0 (by omega) | exact fget (α := Int) 0 (by omega) | exact fget0 (α := BitVec 64) 0 (by omega) | exact fget0 (α := Int) 0 (by omega) | exact fget (α := Bool) false (by omega) | exact fget0 (α := Bool) false (by omega) | (simp [*]; done)⟩ | exact .inr ⟨_, _, _, _, rfl, by first | exact get_app rfl rfl | exact get_out (by assumption) | exact getE0 rfl rfl | exact get_out (get_app rfl rfl) | exact get_app rfl (by assumption) | assumption | (simp only [List.append_assoc, List.singleton_append, List.cons_append, List.nil_append]; refine getE (i := 0) rfl ?_ rfl; simp; done) | (simp only [List.append_assoc, List.singleton_append, List.cons_append, List.nil_append]; refine getE (i := 1) rfl ?_ rfl; simp; done) | (simp only [List.append_assoc, List.singleton_append, List.cons_append, List.nil_append]; refine getE (i := 2) rfl ?_ rfl; simp; done) | (simp only [List.append_assoc, List.singleton_append, List.cons_append, List.nil_append]; refine getE (i := 3) rfl ?_ rfl; simp; done) | (simp [*]; done), by first | rfl | assumption | exact fget (α := BitVec 64) 0 (by omega) | exact fget (α := Int) 0 (by omega) | exact fget0 (α := BitVec 64) 0 (by omega) | exact fget0 (α := Int) 0 (by omega) | exact fget (α := Bool) false (by omega) | exact fget0 (α := Bool) false (by omega) | (simp [*]; done)⟩) : vop T ρ H op = some (.agg vs, H) := v_ldA ho ha hy hd hn h
theorem wS1n2 {T : TypeId → Option VTy} {H : VHeap} {op : Op} {ρ : Operand → VVal} {t : TypeId} {a : Operand} {y : VTy} {p v : VVal} (ho : op = .load t a) (ha : ρ a = p) (hy : T t = some y) (hd : isAggDesc y.desc = false) (h : LdOk H p v := by first | exact .inl ⟨_, _, rfl, by first | rfl | assumption | exact fget (α := BitVec 64) 0 (by omega) | exact fget (α := Int) 0 (by omega) | exact fget0 (α := BitVec 64) 0 (by omega) | exact fget0 (α := Int) 0 (by omega) | exact fget (α := Bool) false (by omega) | exact fget0 (α := Bool) false (by omega) | (simp [*]; done)⟩ | exact .inr ⟨_, _, _, _, rfl, by first | exact get_app rfl rfl | exact get_out (by assumption) | exact getE0 rfl rfl | exact get_out (get_app rfl rfl) | exact get_app rfl (by assumption) | assumption | (simp only [List.append_assoc, List.singleton_append, List.cons_append, List.nil_append]; refine getE (i := 0) rfl ?_ rfl; simp; done) | (simp only [List.append_assoc, List.singleton_append, List.cons_append, List.nil_append]; refine getE (i := 1) rfl ?_ rfl; simp; done) | (simp only [List.append_assoc, List.singleton_append, List.cons_append, List.nil_append]; refine getE (i := 2) rfl ?_ rfl; simp; done) | (simp only [List.append_assoc, List.singleton_append, List.cons_append, List.nil_append]; refine getE (i := 3) rfl ?_ rfl; simp; done) | (simp [*]; done), by first | rfl | assumption | exact fget (α := BitVec 64) 0 (by omega) | exact fget (α := Int) 0 (by omega) | exact fget0 (α := BitVec 64) 0 (by omega) | exact fget0 (α := Int) 0 (by omega) | exact fget (α := Bool) false (by omega) | exact fget0 (α := Bool) false (by omega) | (simp [*]; done)⟩) : vop T ρ H op = some (v, H) := v_ld ho ha hy hd h
theorem wS1n3 {T : TypeId → Option VTy} {H : VHeap} {op : Op} {ρ : VEnv} {H' : VHeap} {t : TypeId} {a : Operand} {i : Nat} {v : VVal} {y : VTy} {b off : Nat} {cs new : List VVal} (ho : op = .store t a (.tmp i)) (hv : ρ[i]? = some v) (ha : ρ.eval a = .ptr (some (b, off))) (hy : T t = some y) (hx : v.cells = some new) (hn : new.length = y.size) (h1 : new.all VVal.one = true) (hb : H[b]? = some (.cells cs true) := by first | exact get_app rfl rfl | exact get_out (by assumption) | exact getE0 rfl rfl | exact get_out (get_app rfl rfl) | exact get_app rfl (by assumption) | assumption | (simp only [List.append_assoc, List.singleton_append, List.cons_append, List.nil_append]; refine getE (i := 0) rfl ?_ rfl; simp; done) | (simp only [List.append_assoc, List.singleton_append, List.cons_append, List.nil_append]; refine getE (i := 1) rfl ?_ rfl; simp; done) | (simp only [List.append_assoc, List.singleton_append, List.cons_append, List.nil_append]; refine getE (i := 2) rfl ?_ rfl; simp; done) | (simp only [List.append_assoc, List.singleton_append, List.cons_append, List.nil_append]; refine getE (i := 3) rfl ?_ rfl; simp; done) | (simp [*]; done)) (hl : off + new.length ≤ cs.length := by first | exact Nat.le_of_ble_eq_true rfl | (simp only [List.length_map, List.length_cons, List.length_nil]; omega) | omega | (simp; done) | (simp; omega)) (hH : H.set b (.cells (splice cs off new) true) = H' := by first | exact setE0 rfl rfl | (simp only [List.append_assoc, List.singleton_append, List.cons_append, List.nil_append]; refine setE (i := 0) rfl ?_; simp; done) | (simp only [List.append_assoc, List.singleton_append, List.cons_append, List.nil_append]; refine setE (i := 1) rfl ?_; simp; done) | (simp only [List.append_assoc, List.singleton_append, List.cons_append, List.nil_append]; refine setE (i := 2) rfl ?_; simp; done) | (simp only [List.append_assoc, List.singleton_append, List.cons_append, List.nil_append]; refine setE (i := 3) rfl ?_; simp; done) | (refine setB rfl ?_; simp; done) | exact set_app rfl | exact set_out (lt_of_get (by assumption)) | rfl) : vop T ρ.eval H op = some (.skip, H') := v_storeT ho hv ha hy hx hn h1 hb hl hH

theorem Ones_all {x : SW} (H : VHeap) : F (psys x) 69 [.int .u64 ((18446744073709551615#64).toNat : Int)] H fun v G => v = .int .i64 64 ∧ G = H := by
 refine F_body Try.func69 rfl uS1n35 rfl ?_
 refine B_seq (B_region ?_)
 refine Lo uS1n35 (v_const (VVal.int .i64 0) (.inr rfl) rfl) ?_
 refine L_nil (K_seq (B_seq (B_region ?_)))
 refine Lo uS1n35 (v_move (.inl rfl) rfl) ?_
 refine Lo uS1n35 (v_shrW rfl rfl rfl (by first | assumption | omega | (simp [*]; done) | (simp at *; omega))) ?_
 refine Lo uS1n35 (v_andW (b := 6148914691236517205#64) rfl rfl rfl) ?_
 refine Lo uS1n35 (v_move (.inl rfl) rfl) ?_
 refine Lo uS1n35 (v_andW (b := 6148914691236517205#64) rfl rfl rfl) ?_
 refine Lo uS1n35 (v_addW rfl rfl rfl) ?_
 refine Lo uS1n35 (v_move (.inr rfl) rfl) ?_
 refine L_nil (K_seq (B_seq (B_region ?_)))
 refine Lo uS1n35 (v_move (.inl rfl) rfl) ?_
 refine Lo uS1n35 (v_shrW rfl rfl rfl (by first | assumption | omega | (simp [*]; done) | (simp at *; omega))) ?_
 refine Lo uS1n35 (v_andW (b := 3689348814741910323#64) rfl rfl rfl) ?_
 refine Lo uS1n35 (v_move (.inl rfl) rfl) ?_
 refine Lo uS1n35 (v_andW (b := 3689348814741910323#64) rfl rfl rfl) ?_
 refine Lo uS1n35 (v_addW rfl rfl rfl) ?_
 refine Lo uS1n35 (v_move (.inr rfl) rfl) ?_
 refine L_nil (K_seq (B_seq (B_region ?_)))
 refine Lo uS1n35 (v_move (.inl rfl) rfl) ?_
 refine Lo uS1n35 (v_shrW rfl rfl rfl (by first | assumption | omega | (simp [*]; done) | (simp at *; omega))) ?_
 refine Lo uS1n35 (v_move (.inl rfl) rfl) ?_
 refine Lo uS1n35 (v_addW rfl rfl rfl) ?_
 refine Lo uS1n35 (v_andW (b := 1085102592571150095#64) rfl rfl rfl) ?_
 refine Lo uS1n35 (v_move (.inr rfl) rfl) ?_
 refine L_nil (K_seq (B_seq (B_region ?_)))
 refine Lo uS1n35 (v_move (.inl rfl) rfl) ?_
 refine Lo uS1n35 (v_move (.inl rfl) rfl) ?_
 refine Lo uS1n35 (v_shrW rfl rfl rfl (by first | assumption | omega | (simp [*]; done) | (simp at *; omega))) ?_
 refine Lo uS1n35 (v_addW rfl rfl rfl) ?_
 refine Lo uS1n35 (v_move (.inr rfl) rfl) ?_
 refine L_nil (K_seq (B_seq (B_region ?_)))
 refine Lo uS1n35 (v_move (.inl rfl) rfl) ?_
 refine Lo uS1n35 (v_move (.inl rfl) rfl) ?_
 refine Lo uS1n35 (v_shrW rfl rfl rfl (by first | assumption | omega | (simp [*]; done) | (simp at *; omega))) ?_
 refine Lo uS1n35 (v_addW rfl rfl rfl) ?_
 refine Lo uS1n35 (v_move (.inr rfl) rfl) ?_
 refine L_nil (K_seq (B_seq (B_region ?_)))
 refine Lo uS1n35 (v_move (.inl rfl) rfl) ?_
 refine Lo uS1n35 (v_move (.inl rfl) rfl) ?_
 refine Lo uS1n35 (v_shrW rfl rfl rfl (by first | assumption | omega | (simp [*]; done) | (simp at *; omega))) ?_
 refine Lo uS1n35 (v_addW rfl rfl rfl) ?_
 refine Lo uS1n35 (v_move (.inr rfl) rfl) ?_
 refine L_nil (K_seq (B_seq (B_region ?_)))
 refine Lo uS1n35 (v_move (.inl rfl) rfl) ?_
 refine Lo uS1n35 (rfl) ?_
 refine Lo uS1n35 (rfl) ?_
 refine Lo uS1n35 (v_move (.inr rfl) rfl) ?_
 refine L_nil (K_seq (B_ret ?_))
 refine wS1n0 (.inr rfl) (vres_tmp rfl rfl) ?_
 exact ⟨rfl, rfl⟩

theorem Width_spec {x : SW} (H : VHeap) (w : BitVec 64) : F (psys x) 66 [.agg [iW w]] H fun v G => v = .int .i64 64 ∧ G = H := by
 refine F_body Try.func66 rfl uS1n6 rfl ?_
 refine B_seq (B_region ?_)
 refine Lo uS1n6 (v_boxT rfl rfl rfl) ?_
 refine Lo uS1n6 (v_const (VVal.int .i64 0) (.inr rfl) rfl) ?_
 refine L_nil (K_seq (B_seq (B_region ?_)))
 refine Lo uS1n6 ((rfl : vop _ _ _ _ = some (VVal.int .u64 (((0#64 : BitVec 64).toNat : Nat) : Int), _))) ?_
 refine Lo uS1n6 (v_xorU rfl rfl) ?_
 refine L_call rfl rfl rfl (by exact Ones_all _) ?_
 rintro _ _ ⟨rfl, rfl⟩
 refine Le uS1n6 ?_
 refine Lo uS1n6 (v_move (.inr rfl) rfl) ?_
 refine L_nil (K_seq (B_ret ?_))
 refine wS1n0 (.inr rfl) (vres_tmp rfl rfl) ?_
 exact ⟨rfl, rfl⟩

theorem within_spec {x : SW} (H : VHeap) (w : BitVec 64) (i : Int) : F (psys x) 54 [.agg [iW w], iI i] H fun v G => v = .bool (decide (0 ≤ i ∧ i < 64)) ∧ G = H := by
 refine F_body Try.func54 rfl uS1n13 rfl ?_
 refine B_seq (B_region ?_)
 refine Lo uS1n13 (v_boxT rfl rfl rfl) ?_
 refine Lo uS1n13 (v_const (VVal.bool false) (.inr rfl) rfl) ?_
 refine L_nil (K_seq (B_seq (B_region ?_)))
 refine Lo uS1n13 (v_move (.inl rfl) rfl) ?_
 refine Lo uS1n13 (rfl) ?_
 refine Lo uS1n13 (v_move (.inl rfl) rfl) ?_
 refine L_split 7 (env1 := uS1n13) (env2 := uS1n13) rfl rfl rfl (fun hg1 => ?_) (fun hg1 => ?_)
 ·try simp only [qB] at hg1
  refine Lo uS1n13 (v_move (.inl rfl) rfl) ?_
  refine Lo uS1n13 (wS1n1 rfl rfl rfl rfl rfl) ?_
  refine L_call rfl rfl rfl (by exact Width_spec _ _) ?_
  rintro _ _ ⟨rfl, rfl⟩
  refine Le uS1n13 ?_
  refine Lo uS1n13 (rfl) ?_
  refine Lo uS1n13 (v_pickT rfl rfl rfl) ?_
  refine Lo uS1n13 (v_move (.inr rfl) rfl) ?_
  refine L_nil (K_seq (B_ret ?_))
  refine wS1n0 (.inr rfl) (vres_tmp rfl rfl) ?_
  exact ⟨by simp [*]; try omega, rfl⟩
 ·try simp only [qB] at hg1
  refine Lf uS1n13 ?_
  refine Lf uS1n13 ?_
  refine Lf uS1n13 ?_
  refine Lf uS1n13 ?_
  refine Lo uS1n13 (v_pickFC (VVal.bool false) rfl rfl rfl) ?_
  refine Lo uS1n13 (v_move (.inr rfl) rfl) ?_
  refine L_nil (K_seq (B_ret ?_))
  refine wS1n0 (.inr rfl) (vres_tmp rfl rfl) ?_
  exact ⟨by simp [*]; try omega, rfl⟩

theorem Has_spec {x : SW} (H : VHeap) (w : BitVec 64) (i : Int) : F (psys x) 33 [.agg [iW w], iI i] H fun v G => v = .bool (decide (0 ≤ i ∧ i < 64) && w.getLsbD i.toNat) ∧ G = H := by
 refine F_body Try.func33 rfl uS1n16 rfl ?_
 refine B_seq (B_region ?_)
 refine Lo uS1n16 (v_boxT rfl rfl rfl) ?_
 refine Lo uS1n16 (v_const (VVal.bool false) (.inr rfl) rfl) ?_
 refine L_nil (K_seq (B_seq (B_region ?_)))
 refine Lo uS1n16 (wS1n1 rfl rfl rfl rfl rfl) ?_
 refine Lo uS1n16 (v_move (.inl rfl) rfl) ?_
 refine L_call rfl rfl rfl (by exact within_spec _ _ _) ?_
 rintro _ _ ⟨rfl, rfl⟩
 refine Le uS1n16 ?_
 refine Lo uS1n16 (v_move (.inl rfl) rfl) ?_
 refine L_split 8 (env1 := uS1n16) (env2 := uS1n16) rfl rfl rfl (fun hg1 => ?_) (fun hg1 => ?_)
 ·try simp only [qB] at hg1
  refine Lo uS1n16 (rfl) ?_
  refine Lo uS1n16 (wS1n2 rfl rfl rfl rfl) ?_
  refine Lo uS1n16 (v_move (.inl rfl) rfl) ?_
  refine Lo uS1n16 (v_shrW rfl rfl rfl (by first | assumption | omega | (simp [*]; done) | (simp at *; omega))) ?_
  refine Lo uS1n16 (v_andW (b := 1#64) rfl rfl rfl) ?_
  refine Lo uS1n16 (rfl) ?_
  refine Lo uS1n16 (v_pickT rfl rfl rfl) ?_
  refine Lo uS1n16 (v_move (.inr rfl) rfl) ?_
  refine L_nil (K_seq (B_ret ?_))
  refine wS1n0 (.inr rfl) (vres_tmp rfl rfl) ?_
  exact ⟨by (first | exact (congrArg VVal.bool (by rw [decide_eq_true hg1, Bool.true_and, ← bit1, ← beq_wd1])) | (rw [decide_eq_false (by omega), Bool.false_and])), rfl⟩
 ·try simp only [qB] at hg1
  refine Lf uS1n16 ?_
  refine Lf uS1n16 ?_
  refine Lf uS1n16 ?_
  refine Lf uS1n16 ?_
  refine Lf uS1n16 ?_
  refine Lf uS1n16 ?_
  refine Lo uS1n16 (v_pickFC (VVal.bool false) rfl rfl rfl) ?_
  refine Lo uS1n16 (v_move (.inr rfl) rfl) ?_
  refine L_nil (K_seq (B_ret ?_))
  refine wS1n0 (.inr rfl) (vres_tmp rfl rfl) ?_
  exact ⟨by (first | exact (congrArg VVal.bool (by rw [decide_eq_true hg1, Bool.true_and, ← bit1, ← beq_wd1])) | (rw [decide_eq_false (by omega), Bool.false_and])), rfl⟩

theorem Of_spec {x : SW} (H : VHeap) (w u : BitVec 64) : F (psys x) 32 [.agg [iW w], iW u] H fun v G => v = .agg [iW u] ∧ G = H := by
 refine F_body Try.func32 rfl uS1n7 rfl ?_
 refine B_seq (B_region ?_)
 refine Lo uS1n7 (v_boxT rfl rfl rfl) ?_
 refine Lo uS1n7 (v_alloc rfl rfl) ?_
 refine L_nil (K_seq (B_seq (B_region ?_)))
 refine Lo uS1n7 (v_move (.inl rfl) rfl) ?_
 refine Lo uS1n7 (rfl) ?_
 refine Lo uS1n7 (wS1n3 rfl rfl rfl rfl rfl rfl rfl) ?_
 refine L_nil (K_seq (B_ret ?_))
 refine wS1n0 (.inr rfl) (vres_cellA rfl rfl rfl rfl (by first | exact get_app rfl rfl | exact get_out (by assumption) | exact getE0 rfl rfl | exact get_out (get_app rfl rfl) | exact get_app rfl (by assumption) | assumption | (simp only [List.append_assoc, List.singleton_append, List.cons_append, List.nil_append]; refine getE (i := 0) rfl ?_ rfl; simp; done) | (simp only [List.append_assoc, List.singleton_append, List.cons_append, List.nil_append]; refine getE (i := 1) rfl ?_ rfl; simp; done) | (simp only [List.append_assoc, List.singleton_append, List.cons_append, List.nil_append]; refine getE (i := 2) rfl ?_ rfl; simp; done) | (simp only [List.append_assoc, List.singleton_append, List.cons_append, List.nil_append]; refine getE (i := 3) rfl ?_ rfl; simp; done) | (simp [*]; done)) (by first | rfl | assumption | exact fget (α := BitVec 64) 0 (by omega) | exact fget (α := Int) 0 (by omega) | exact fget0 (α := BitVec 64) 0 (by omega) | exact fget0 (α := Int) 0 (by omega) | exact fget (α := Bool) false (by omega) | exact fget0 (α := Bool) false (by omega) | (simp [*]; done))) ?_
 exact ⟨rfl, rfl⟩
end Go.Proofs.Ytbngdhlmggdaaaa.VT

set_option autoImplicit false
set_option linter.unusedVariables false
set_option linter.unusedSimpArgs false
set_option maxHeartbeats 4000000
set_option maxRecDepth 100000
namespace Go.Proofs.Ytbngdhlmggdaaaa.VT
open Go Go.V Go.RowKit

abbrev uS2n9 {a0 a1 a2 a3 a4 a5 a6 a7 a8 : VVal} : VEnv := a0 :: a1 :: a2 :: a3 :: a4 :: a5 :: a6 :: a7 :: a8 :: []
abbrev uS2n75 {a0 a1 a2 a3 a4 a5 a6 a7 a8 a9 a10 a11 a12 a13 a14 a15 a16 a17 a18 a19 a20 a21 a22 a23 a24 a25 a26 a27 a28 a29 a30 a31 a32 a33 a34 a35 a36 a37 a38 a39 a40 a41 a42 a43 a44 a45 a46 a47 a48 a49 a50 a51 a52 a53 a54 a55 a56 a57 a58 a59 a60 a61 a62 a63 a64 a65 a66 a67 a68 a69 a70 a71 a72 a73 a74 : VVal} : VEnv := a0 :: a1 :: a2 :: a3 :: a4 :: a5 :: a6 :: a7 :: a8 :: a9 :: a10 :: a11 :: a12 :: a13 :: a14 :: a15 :: a16 :: a17 :: a18 :: a19 :: a20 :: a21 :: a22 :: a23 :: a24 :: a25 :: a26 :: a27 :: a28 :: a29 :: a30 :: a31 :: a32 :: a33 :: a34 :: a35 :: a36 :: a37 :: a38 :: a39 :: a40 :: a41 :: a42 :: a43 :: a44 :: a45 :: a46 :: a47 :: a48 :: a49 :: a50 :: a51 :: a52 :: a53 :: a54 :: a55 :: a56 :: a57 :: a58 :: a59 :: a60 :: a61 :: a62 :: a63 :: a64 :: a65 :: a66 :: a67 :: a68 :: a69 :: a70 :: a71 :: a72 :: a73 :: a74 :: []

theorem wS2n0 {S : V.Sys} {H : VHeap} {fn : Func} {ex : Exit} {env : VEnv} {B L : VHeap} {v : VVal} {R : VVal → VHeap → Prop} (hx : ex = .normal ∨ ex = .ret) (hv : vresults S.C.T env (B ++ L) fn.results = some v) (h : R v B) (hB : BaseOk H B := by first | exact BaseOk.refl _ | exact BaseOk.set (BaseOk.refl _) _ rfl) (hu : v.under H.length = true := by first | rfl | simp [VVal.under, VVal.underL, *]) : fnK S fn H R ex env (B ++ L) := E_app hx hv hB hu h
theorem wS2n1 {P : Prop} (h : P := by first | (exfalso; omega) | exact ⟨by rw [rcE_1 (rck_fit (by first | assumption | omega))], rfl⟩ | exact ⟨by rw [rcE_1 (rck_rise (rise_bad (k := k) (by omega) (by first | exact .inl (by assumption) | exact .inr (by assumption) | omega)))], rfl⟩ | exact ⟨by rw [rcE_1 (rck_knd (by first | exact knd_d (by omega) | exact (knd_a (by omega)).trans (decide_eq_false (by omega)) | exact (knd_b (by omega)).trans (decide_eq_false (by omega)) | exact (knd_c (by omega)).trans (decide_eq_false (by omega))))], rfl⟩ | exact ⟨by rw [rcE_0 (rck_ok (by omega) hrs (by first | exact (knd_a (by omega)).trans (decide_eq_true (by omega)) | exact (knd_b (by omega)).trans (decide_eq_true (by omega)) | exact (knd_c (by omega)).trans (decide_eq_true (by omega))))], rfl⟩) : P := h
theorem wS2n2 {T : TypeId → Option VTy} {H : VHeap} {op : Op} {ρ : Operand → VVal} {t : TypeId} {a : Operand} {y : VTy} {p v : VVal} (ho : op = .load t a) (ha : ρ a = p) (hy : T t = some y) (hd : isAggDesc y.desc = false) (h : LdOk H p v := by first | exact .inl ⟨_, _, rfl, by first | rfl | assumption | exact fget (α := BitVec 64) 0 (by omega) | exact fget (α := Int) 0 (by omega) | exact fget0 (α := BitVec 64) 0 (by omega) | exact fget0 (α := Int) 0 (by omega) | exact fget (α := Bool) false (by omega) | exact fget0 (α := Bool) false (by omega) | (simp [*]; done)⟩ | exact .inr ⟨_, _, _, _, rfl, by first | exact get_app rfl rfl | exact get_out (by assumption) | exact getE0 rfl rfl | exact get_out (get_app rfl rfl) | exact get_app rfl (by assumption) | assumption | (simp only [List.append_assoc, List.singleton_append, List.cons_append, List.nil_append]; refine getE (i := 0) rfl ?_ rfl; simp; done) | (simp only [List.append_assoc, List.singleton_append, List.cons_append, List.nil_append]; refine getE (i := 1) rfl ?_ rfl; simp; done) | (simp only [List.append_assoc, List.singleton_append, List.cons_append, List.nil_append]; refine getE (i := 2) rfl ?_ rfl; simp; done) | (simp only [List.append_assoc, List.singleton_append, List.cons_append, List.nil_append]; refine getE (i := 3) rfl ?_ rfl; simp; done) | (simp [*]; done), by first | rfl | assumption | exact fget (α := BitVec 64) 0 (by omega) | exact fget (α := Int) 0 (by omega) | exact fget0 (α := BitVec 64) 0 (by omega) | exact fget0 (α := Int) 0 (by omega) | exact fget (α := Bool) false (by omega) | exact fget0 (α := Bool) false (by omega) | (simp [*]; done)⟩) : vop T ρ H op = some (v, H) := v_ld ho ha hy hd h
theorem wS2n3 {T : TypeId → Option VTy} {H : VHeap} {op : Op} {ρ : Operand → VVal} {t e : TypeId} {x i : Operand} {y z : VTy} {k : IntKind} {n : Int} {p v : VVal} {es : Nat} (ho : op = .indexAddr t x i) (hx : ρ x = p) (hi : ρ i = .int k n) (hy : T t = some y) (hd : y.desc = .slice e) (hz : T e = some z) (hs : z.size = es) (h : IxOk p es n v := by first | exact .inl ⟨_, _, _, rfl, by first | assumption | omega | (simp [*]; done) | (simp at *; omega), rfl⟩ | exact .inr ⟨_, _, _, _, _, rfl, by first | assumption | omega | (simp [*]; done) | (simp at *; omega), rfl⟩) : vop T ρ H op = some (v, H) := v_ix ho hx hi hy hd hz hs h
theorem wS2n4 {T : TypeId → Option VTy} {H : VHeap} {op : Op} {ρ : Operand → VVal} {t ty : TypeId} {x y : Operand} {n m : Int} (ho : op = .binOp .add t x y ty) (hx : ρ x = .int .i64 n) (hy : ρ y = .int .i64 m) (h : -9223372036854775808 ≤ n + m ∧ n + m < 9223372036854775808 := by first | assumption | omega | (simp [*]; done) | (simp at *; omega)) : vop T ρ H op = some (.int .i64 (n + m), H) := v_addI ho hx hy h

/-! encodings -/
abbrev rlB (r : Rul) : List VVal := [iI r.kind, iI r.k, fzI r.steps]
abbrev r0 : Rul := (0, 0, [], ())
def fzR (l : List Rul) : VVal := .fsl (l.flatMap rlB) l.length 3 false
abbrev pbB (p : Pb) : List VVal := [iI p.users, fzW p.who, fzI p.fixed, fzR p.rules]
abbrev pbV (p : Pb) : VVal := .agg (pbB p)
theorem rul_at {l : List Rul} {n : Int} (h : 0 ≤ n ∧ n < l.length) : cellsAt (l.flatMap rlB) (n.toNat * 3) 3 = some (rlB (l.getD n.toNat r0)) := fm_nat (f := rlB) (m := 3) (fun _ => rfl) l n.toNat r0 (by omega)
/-! rules -/
theorem rise_ok {n : Int} {l : List Int} {k : Nat} (hk : k < l.length) (h1 : rise n (l.take k) = true) (h2 : lst1 (-1) (l.take k) < l.getD k 0) (h3 : l.getD k 0 < n) : rise n (l.take (k + 1)) = true := by
  rw [take_at (d := 0) hk, rise, riseA_app, show riseA n (-1) (l.take k) = true from h1, Bool.true_and, decide_eq_true_eq]; omega
theorem rise_bad {n : Int} {l : List Int} {k : Nat} (hk : k < l.length) (h : l.getD k 0 ≤ lst1 (-1) (l.take k) ∨ n ≤ l.getD k 0) : rise n l = false := by
  have e : l = l.take (k + 1) ++ l.drop (k + 1) := (List.take_append_drop _ _).symm
  rw [e, rise, riseA_split, take_at hk, riseA_app]
  rw [show decide (lst1 (-1) (l.take k) < l.getD k 0 ∧ l.getD k 0 < n) = false from decide_eq_false (by omega), Bool.and_false, Bool.false_and]
theorem rise_last {l : List Int} {k : Nat} (hk : k < l.length) : lst1 (-1) (l.take (k + 1)) = l.getD k 0 := by rw [take_at (d := 0) hk, lst1_app]
abbrev rcE (n : Int) (r : Rul) : Int := if rck n r = true then 0 else 1
theorem rck_fit {n : Int} {r : Rul} (h : ¬ (0 ≤ n ∧ n ≤ 12)) : rck n r = false := by unfold rck; rw [decide_eq_false h, Bool.false_and]
theorem rck_rise {n : Int} {r : Rul} (h : rise n r.steps = false) : rck n r = false := by unfold rck; rw [h, Bool.false_and, Bool.and_false]
theorem rck_knd {n : Int} {r : Rul} (h : knd r = false) : rck n r = false := by unfold rck; rw [h, Bool.and_false, Bool.and_false]
theorem rck_ok {n : Int} {r : Rul} (h : 0 ≤ n ∧ n ≤ 12) (h2 : rise n r.steps = true) (h3 : knd r = true) : rck n r = true := by unfold rck; rw [decide_eq_true h, h2, h3]; rfl
theorem rcE_0 {n : Int} {r : Rul} (h : rck n r = true) : rcE n r = 0 := if_pos h
theorem rcE_1 {n : Int} {r : Rul} (h : rck n r = false) : rcE n r = 1 := if_neg (by rw [h]; decide)
theorem knd_a {r : Rul} (h : r.kind = 1 ∨ r.kind = 2) : knd r = decide (r.k = 0 ∧ 2 ≤ r.steps.length) := if_pos h
theorem knd_b {r : Rul} (h : r.kind = 3 ∨ r.kind = 4) : knd r = decide ((1 ≤ r.k ∧ r.k ≤ 999999999) ∧ 1 ≤ r.steps.length) := by unfold knd; rw [if_neg (by omega), if_pos h]
theorem knd_c {r : Rul} (h : r.kind = 5) : knd r = decide (1 ≤ r.k ∧ r.k ≤ r.steps.length) := by unfold knd; rw [if_neg (by omega), if_neg (by omega), if_pos h]
theorem knd_d {r : Rul} (h : ¬ (1 ≤ r.kind ∧ r.kind ≤ 5)) : knd r = false := by unfold knd; rw [if_neg (by omega), if_neg (by omega), if_neg (by omega)]
/-! a map of counts -/
def ds (L : List Int) : List Int := L.foldl (fun d x => if x ∈ d then d else d ++ [x]) []
theorem ds_app {L : List Int} {x : Int} : ds (L ++ [x]) = if x ∈ ds L then ds L else ds L ++ [x] := by unfold ds; rw [List.foldl_append]; rfl
theorem mem_ds {x : Int} (L : List Int) : x ∈ ds L ↔ x ∈ L := by
  refine rev_ind (P := fun L => ∀ x, x ∈ ds L ↔ x ∈ L) (fun x => Iff.rfl) (fun L y ih x => ?_) L x
  rw [ds_app]
  split
  · rename_i h
    rw [ih, List.mem_append, List.mem_singleton]
    constructor
    · exact .inl
    · rintro (h' | rfl)
      · exact h'
      · exact (ih _).1 h
  · rw [List.mem_append, List.mem_append, ih]
theorem nd_ds (L : List Int) : (ds L).Nodup := by
  refine rev_ind (P := fun L => (ds L).Nodup) List.nodup_nil (fun L y ih => ?_) L
  rw [ds_app]
  split
  · exact ih
  · rename_i h
    rw [List.nodup_append]
    exact ⟨ih, by simp, fun a ha b hb e => h (by rw [List.mem_singleton] at hb; subst hb; subst e; exact ha)⟩
theorem len_ds (L : List Int) : (ds L).length = uq L := by
  refine rev_ind (P := fun L => (ds L).length = uq L) rfl (fun L y ih => ?_) L
  rw [ds_app, uq_app, ← ih]
  by_cases h : y ∈ L
  · rw [if_pos ((mem_ds L).2 h), if_pos h]; rfl
  · rw [if_neg (fun e => h ((mem_ds L).1 e)), if_neg h, List.length_append]; rfl
/-- the entries: how often each stands there -/
def cnM (L : List Int) : List (VVal × VVal) := (ds L).map fun y => (iI y, iI (L.count y : Nat))
theorem cnM_len (L : List Int) : (cnM L).length = uq L := by unfold cnM; rw [List.length_map, len_ds]
theorem mget_map {x : Int} {f : Int → VVal} : ∀ d : List Int, mget (iI x) (d.map fun y => (iI y, f y)) = some (if x ∈ d then some (f x) else none)
  | [] => rfl
  | y :: d => by
    rw [List.map_cons]
    simp only [mget, keyEq, if_true]
    by_cases e : x = y
    · subst e; simp
    · rw [show (x == y) = false from by simp [e], mget_map d]
      simp [e]
theorem mput_map {x : Int} {v : VVal} {f : Int → VVal} : ∀ d : List Int, d.Nodup → mput (iI x) v (d.map fun y => (iI y, f y)) = (if x ∈ d then d else d ++ [x]).map fun y => (iI y, if y = x then v else f y)
  | [], _ => by simp [mput]
  | y :: d, h => by
    rw [List.nodup_cons] at h
    rw [List.map_cons]
    simp only [mput, keyEq, if_true]
    by_cases e : x = y
    · subst e
      have : (d.map fun y => (iI y, f y)) = d.map fun y => (iI y, if y = x then v else f y) := List.map_congr_left fun y hy => by rw [if_neg (fun e => h.1 (by rw [← e]; exact hy))]
      simp [this]
    · rw [show (x == y) = false from by simp [e], mput_map d h.2]
      have e' : ¬ y = x := fun k => e k.symm
      by_cases hd : x ∈ d <;> simp [hd, e, e']
theorem cn_get {L : List Int} {x : Int} : mget (iI x) (cnM L) = some (if x ∈ L then some (iI (L.count x : Nat)) else none) := by
  unfold cnM; rw [mget_map]
  by_cases h : x ∈ L
  · rw [if_pos h, if_pos ((mem_ds L).2 h)]
  · rw [if_neg h, if_neg (fun e => h ((mem_ds L).1 e))]
theorem cn_get' {L : List Int} {x : Int} : ((if x ∈ L then some (iI (L.count x : Nat)) else none).getD (iI 0)) = iI (L.count x : Nat) := by
  by_cases h : x ∈ L
  · rw [if_pos h]; rfl
  · rw [if_neg h, List.count_eq_zero.2 h]; rfl
theorem cn_put {L : List Int} {x : Int} : mput (iI x) (iI ((L.count x : Nat) + 1)) (cnM L) = cnM (L ++ [x]) := by
  unfold cnM
  rw [mput_map _ (nd_ds L), ds_app]
  apply List.map_congr_left
  intro y hy
  rw [List.count_append, List.count_singleton]
  by_cases e : y = x
  · subst e; simp
  · rw [if_neg e]
    have e' : ¬ x = y := fun k => e k.symm
    simp [e']
theorem v_lookI {T : TypeId → Option VTy} {ρ : Operand → VVal} {H : VHeap} {op : Op} {t kt et : TypeId} {x k : Operand} {y z kz : VTy} {b : Nat} {n : Int} {es : List (VVal × VVal)} {o : Option VVal} {u : VVal} (ho : op = .lookup t x k false) (hx : ρ x = .map (some b)) (hk : ρ k = iI n) (hy : T t = some y) (hd : y.desc = .map kt et) (hz : T et = some z) (hk1 : T kt = some kz) (hk2 : kz.desc = .int .i64) (ha : isAggDesc z.desc = false) (hz0 : z.zero = [iI 0])
    (hb : H[b]? = some (.map es)) (hg : mget (iI n) es = some o) (hu : o.getD (iI 0) = u) : vop T ρ H op = some (u, H) := by
  rw [ho]
  simp only [vop, vlookup, hx, hk, hy, hd, hz, hb, keyOk, hk1, hk2, hz0, ha]
  rw [if_pos ⟨by rfl, .inr rfl⟩]
  rw [hg, ← hu]
  cases o <;> rfl
theorem v_mupdI {T : TypeId → Option VTy} {ρ : Operand → VVal} {H H' : VHeap} {op : Op} {t kt et : TypeId} {x k w : Operand} {y kz : VTy} {b : Nat} {n : Int} {es : List (VVal × VVal)} {o : Option VVal} {v : VVal} (ho : op = .mapUpdate t x k w) (hx : ρ x = .map (some b)) (hk : ρ k = iI n) (hw : ρ w = v) (hy : T t = some y) (hd : y.desc = .map kt et) (hk1 : T kt = some kz) (hk2 : kz.desc = .int .i64)
    (hb : H[b]? = some (.map es)) (hg : mget (iI n) es = some o) (hH : H.set b (.map (mput (iI n) v es)) = H') : vop T ρ H op = some (.skip, H') := by
  rw [ho]
  simp only [vop, vmapUpdate, hx, hk, hw, hy, hd, hb, keyOk, hk1, hk2]
  rw [if_pos (by rfl), hg]
  simp [hH]

theorem rfits_spec {x : SW} (H : VHeap) (n : Int) : F (psys x) 65 [iI n] H fun v G => v = .bool (decide (0 ≤ n ∧ n ≤ 12)) ∧ G = H := by
 refine F_body Try.func65 rfl uS2n9 rfl ?_
 refine B_seq (B_region ?_)
 refine Lo uS2n9 (v_const (VVal.bool false) (.inr rfl) rfl) ?_
 refine L_nil (K_seq (B_seq (B_region ?_)))
 refine Lo uS2n9 (v_move (.inl rfl) rfl) ?_
 refine Lo uS2n9 (rfl) ?_
 refine Lo uS2n9 (v_move (.inl rfl) rfl) ?_
 refine L_split 5 (env1 := uS2n9) (env2 := uS2n9) rfl rfl rfl (fun hg1 => ?_) (fun hg1 => ?_)
 ·try simp only [qB] at hg1
  refine Lo uS2n9 (v_move (.inl rfl) rfl) ?_
  refine Lo uS2n9 (rfl) ?_
  refine Lo uS2n9 (v_pickT rfl rfl rfl) ?_
  refine Lo uS2n9 (v_move (.inr rfl) rfl) ?_
  refine L_nil (K_seq (B_ret ?_))
  refine wS2n0 (.inr rfl) (vres_tmp rfl rfl) ?_
  exact ⟨by simp [*]; try omega, rfl⟩
 ·try simp only [qB] at hg1
  refine Lf uS2n9 ?_
  refine Lf uS2n9 ?_
  refine Lo uS2n9 (v_pickFC (VVal.bool false) rfl rfl rfl) ?_
  refine Lo uS2n9 (v_move (.inr rfl) rfl) ?_
  refine L_nil (K_seq (B_ret ?_))
  refine wS2n0 (.inr rfl) (vres_tmp rfl rfl) ?_
  exact ⟨by simp [*]; try omega, rfl⟩

theorem rCheck_spec {x : SW} (H : VHeap) (n : Int) (r : Rul) (hl : r.steps.length ≤ 1000000) : F (psys x) 53 [iI n, .agg (rlB r)] H fun v G => v = iI (rcE n r) ∧ G = H := by
 refine F_body Try.func53 rfl uS2n75 rfl ?_
 refine B_seq (B_region ?_)
 refine Lo uS2n75 (v_boxT rfl rfl rfl) ?_
 refine Lo uS2n75 (v_const (VVal.int .i64 0) (.inr rfl) rfl) ?_
 refine L_nil (K_seq (B_seq (B_seq (B_region ?_))))
 refine Lo uS2n75 (v_move (.inl rfl) rfl) ?_
 refine L_call rfl rfl rfl (by exact rfits_spec _ _) ?_
 rintro _ _ ⟨rfl, rfl⟩
 refine Le uS2n75 ?_
 refine Lo uS2n75 (rfl) ?_
 refine L_nil (K_seq ?_)
 refine B_cond _ rfl (fun hc1 => ?_) (fun hc1 => ?_)
 ·try simp only [qB] at hc1
  refine B_seq (B_region ?_)
  refine Lo uS2n75 (v_const (VVal.int .i64 1) (.inr rfl) rfl) ?_
  refine L_nil (K_seq (B_ret (K_seqR ?_)))
  refine wS2n0 (.inr rfl) (vres_tmp rfl rfl) ?_
  exact wS2n1
 ·try simp only [qB] at hc1
  refine B_skip (K_seq (B_seq (B_region ?_)))
  refine Lo uS2n75 (v_const (VVal.int .i64 (-1)) (.inr rfl) rfl) ?_
  refine L_nil (K_seq (B_seq (B_seq (B_region ?_))))
  refine Lo uS2n75 (rfl) ?_
  refine Lo uS2n75 (wS2n2 rfl rfl rfl rfl) ?_
  refine Lo uS2n75 (rfl) ?_
  refine Lo uS2n75 (v_const (VVal.int .i64 0) (.inl rfl) rfl) ?_
  refine L_nil (K_seq (B_block ?_))
  refine B_clear (mk 75 37778931862957161652182) (env' := uS2n75) rfl ?_
  refine B_loopE (fun (k : Nat) => r.steps.length - k) (fun (k : Nat) => [(5, iI (lst1 (-1) (r.steps.take k))), (15, iI (k : Nat))]) (fun (k : Nat) G => (k ≤ r.steps.length ∧ rise n (r.steps.take k) = true) ∧ G = H ++ [.cells (rlB r) true]) 0 rfl ?_ ?_
  ·refine ⟨?_, rfl⟩
   exact ⟨Nat.zero_le _, rfl⟩
  rintro k _ ⟨⟨hk, hr⟩, rfl⟩
  refine B_env (env' := uS2n75) rfl ?_
  refine B_seq (B_region ?_)
  refine Lo uS2n75 (rfl) ?_
  refine L_nil (K_seq (B_seq ?_))
  refine B_cond _ rfl (fun hc2 => ?_) (fun hc2 => ?_)
  ·try simp only [qB] at hc2
   refine B_skip (K_seq (B_seq (B_block (B_seq (B_region ?_)))))
   refine Lo uS2n75 (wS2n3 rfl rfl rfl rfl rfl rfl rfl) ?_
   refine Lo uS2n75 (wS2n2 rfl rfl rfl rfl) ?_
   refine Lo uS2n75 (v_move (.inr rfl) rfl) ?_
   refine L_nil (K_seq (B_seq (B_seq (B_region ?_))))
   refine Lo uS2n75 (v_move (.inl rfl) rfl) ?_
   refine Lo uS2n75 (v_move (.inl rfl) rfl) ?_
   refine Lo uS2n75 (rfl) ?_
   refine Lo uS2n75 (v_move (.inl rfl) rfl) ?_
   refine L_split 22 (env1 := uS2n75) (env2 := uS2n75) rfl rfl rfl (fun hg3 => ?_) (fun hg3 => ?_)
   ·try simp only [qB] at hg3
    refine Lf uS2n75 ?_
    refine Lf uS2n75 ?_
    refine Lf uS2n75 ?_
    refine Lo uS2n75 (v_pickTC (VVal.bool true) rfl rfl rfl) ?_
    refine L_nil (K_seq ?_)
    refine B_true rfl rfl ?_
    refine B_seq (B_region ?_)
    refine Lo uS2n75 (v_const (VVal.int .i64 1) (.inr rfl) rfl) ?_
    refine L_nil (K_seq (B_ret (K_seqR (K_blkR (K_seqR (K_loopR (K_blkR (K_seqR ?_))))))))
    refine wS2n0 (.inr rfl) (vres_tmp rfl rfl) ?_
    exact wS2n1
   ·try simp only [qB] at hg3
    refine Lo uS2n75 (v_move (.inl rfl) rfl) ?_
    refine Lo uS2n75 (v_move (.inl rfl) rfl) ?_
    refine Lo uS2n75 (rfl) ?_
    refine Lo uS2n75 (v_pickF rfl rfl rfl) ?_
    refine L_nil (K_seq ?_)
    refine B_cond _ rfl (fun hc4 => ?_) (fun hc4 => ?_)
    ·try simp only [qB] at hc4
     refine B_seq (B_region ?_)
     refine Lo uS2n75 (v_const (VVal.int .i64 1) (.inr rfl) rfl) ?_
     refine L_nil (K_seq (B_ret (K_seqR (K_blkR (K_seqR (K_loopR (K_blkR (K_seqR ?_))))))))
     refine wS2n0 (.inr rfl) (vres_tmp rfl rfl) ?_
     exact wS2n1
    ·try simp only [qB] at hc4
     refine B_skip (K_seq (B_region ?_))
     refine Lo uS2n75 (v_move (.inl rfl) rfl) ?_
     refine Lo uS2n75 (v_move (.inr rfl) rfl) ?_
     refine L_nil (K_blk (K_seq (B_region ?_)))
     refine Lo uS2n75 (wS2n4 rfl rfl rfl) ?_
     refine Lo uS2n75 (v_move (.inl rfl) rfl) ?_
     refine L_nil ?_
     refine K_loop (mk 75 37778931862957161652182) (env' := uS2n75) rfl ⟨k + 1, ?_, (by rw [rise_last (by omega)]; rfl), ?_⟩
     ·first | omega | (simp only []; omega)
     ·exact ⟨⟨by omega, rise_ok (by omega) hr hg3 hc4⟩, rfl⟩
  ·try simp only [qB] at hc2
   refine B_exit (K_seqX (K_loopX (K_blkX (K_seq (B_seq ?_)))))
   have hrs : rise n r.steps = true := by rw [List.take_of_length_le (by omega)] at hr; exact hr
   refine B_region ?_
   refine Lo uS2n75 (v_const (VVal.bool false) (.inr rfl) rfl) ?_
   refine L_nil (K_seq (B_seq (B_seq (B_region ?_))))
   refine Lo uS2n75 (rfl) ?_
   refine Lo uS2n75 (wS2n2 rfl rfl rfl rfl) ?_
   refine L_nil (K_seq (B_block (B_seq (B_seq (B_region ?_)))))
   refine Lo uS2n75 (rfl) ?_
   refine Lo uS2n75 (v_move (.inr rfl) rfl) ?_
   refine L_nil (K_seq ?_)
   refine B_cond _ rfl (fun hc5 => ?_) (fun hc5 => ?_)
   ·try simp only [qB] at hc5
    refine B_skip (K_seq ?_)
    refine B_cond _ rfl (fun hc6 => ?_) (fun hc6 => ?_)
    ·try simp only [qB] at hc6
     refine B_region ?_
     refine Lo uS2n75 (rfl) ?_
     refine Lo uS2n75 (wS2n2 rfl rfl rfl rfl) ?_
     refine Lo uS2n75 (rfl) ?_
     refine Lo uS2n75 (v_move (.inl rfl) rfl) ?_
     refine L_split 37 (env1 := uS2n75) (env2 := uS2n75) rfl rfl rfl (fun hg7 => ?_) (fun hg7 => ?_)
     ·try simp only [qB] at hg7
      refine Lo uS2n75 (rfl) ?_
      refine Lo uS2n75 (wS2n2 rfl rfl rfl rfl) ?_
      refine Lo uS2n75 (rfl) ?_
      refine Lo uS2n75 (rfl) ?_
      refine Lo uS2n75 (v_pickT rfl rfl rfl) ?_
      refine Lo uS2n75 (v_move (.inr rfl) rfl) ?_
      refine L_nil (K_blk (K_seq (B_seq (B_seq (B_region ?_)))))
      refine Lo uS2n75 (v_move (.inl rfl) rfl) ?_
      refine Lo uS2n75 (rfl) ?_
      refine L_nil (K_seq ?_)
      refine B_cond _ rfl (fun hc8 => ?_) (fun hc8 => ?_)
      ·try simp only [qB] at hc8
       refine B_seq (B_region ?_)
       refine Lo uS2n75 (v_const (VVal.int .i64 1) (.inr rfl) rfl) ?_
       refine L_nil (K_seq (B_ret (K_seqR ?_)))
       refine wS2n0 (.inr rfl) (vres_tmp rfl rfl) ?_
       exact wS2n1
      ·try simp only [qB] at hc8
       refine B_skip (K_seq (B_seq (B_region ?_)))
       refine Lo uS2n75 (v_const (VVal.int .i64 0) (.inr rfl) rfl) ?_
       refine L_nil (K_seq (B_ret ?_))
       refine wS2n0 (.inr rfl) (vres_tmp rfl rfl) ?_
       exact wS2n1
     ·try simp only [qB] at hg7
      refine Lf uS2n75 ?_
      refine Lf uS2n75 ?_
      refine Lf uS2n75 ?_
      refine Lf uS2n75 ?_
      refine Lo uS2n75 (v_pickFC (VVal.bool false) rfl rfl rfl) ?_
      refine Lo uS2n75 (v_move (.inr rfl) rfl) ?_
      refine L_nil (K_blk (K_seq (B_seq (B_seq (B_region ?_)))))
      refine Lo uS2n75 (v_move (.inl rfl) rfl) ?_
      refine Lo uS2n75 (rfl) ?_
      refine L_nil (K_seq ?_)
      refine B_true rfl rfl ?_
      refine B_seq (B_region ?_)
      refine Lo uS2n75 (v_const (VVal.int .i64 1) (.inr rfl) rfl) ?_
      refine L_nil (K_seq (B_ret (K_seqR ?_)))
      refine wS2n0 (.inr rfl) (vres_tmp rfl rfl) ?_
      exact wS2n1
    ·try simp only [qB] at hc6
     refine B_seq (B_seq (B_region ?_))
     refine Lo uS2n75 (rfl) ?_
     refine Lo uS2n75 (v_move (.inr rfl) rfl) ?_
     refine L_nil (K_seq ?_)
     refine B_cond _ rfl (fun hc9 => ?_) (fun hc9 => ?_)
     ·try simp only [qB] at hc9
      refine B_skip (K_seq ?_)
      refine B_cond _ rfl (fun hc10 => ?_) (fun hc10 => ?_)
      ·try simp only [qB] at hc10
       refine B_region ?_
       refine Lo uS2n75 (rfl) ?_
       refine Lo uS2n75 (wS2n2 rfl rfl rfl rfl) ?_
       refine Lo uS2n75 (rfl) ?_
       refine Lo uS2n75 (v_move (.inl rfl) rfl) ?_
       refine L_split 49 (env1 := uS2n75) (env2 := uS2n75) rfl rfl rfl (fun hg11 => ?_) (fun hg11 => ?_)
       ·try simp only [qB] at hg11
        refine Lo uS2n75 (rfl) ?_
        refine Lo uS2n75 (wS2n2 rfl rfl rfl rfl) ?_
        refine Lo uS2n75 (rfl) ?_
        refine Lo uS2n75 (v_pickT rfl rfl rfl) ?_
        refine Lo uS2n75 (v_move (.inl rfl) rfl) ?_
        refine L_split 54 (env1 := uS2n75) (env2 := uS2n75) rfl rfl rfl (fun hg12 => ?_) (fun hg12 => ?_)
        ·try simp only [qB] at hg12
         refine Lo uS2n75 (rfl) ?_
         refine Lo uS2n75 (wS2n2 rfl rfl rfl rfl) ?_
         refine Lo uS2n75 (rfl) ?_
         refine Lo uS2n75 (rfl) ?_
         refine Lo uS2n75 (v_pickT rfl rfl rfl) ?_
         refine Lo uS2n75 (v_move (.inr rfl) rfl) ?_
         refine L_nil (K_blk (K_seq (B_seq (B_seq (B_region ?_)))))
         refine Lo uS2n75 (v_move (.inl rfl) rfl) ?_
         refine Lo uS2n75 (rfl) ?_
         refine L_nil (K_seq ?_)
         refine B_cond _ rfl (fun hc13 => ?_) (fun hc13 => ?_)
         ·try simp only [qB] at hc13
          refine B_seq (B_region ?_)
          refine Lo uS2n75 (v_const (VVal.int .i64 1) (.inr rfl) rfl) ?_
          refine L_nil (K_seq (B_ret (K_seqR ?_)))
          refine wS2n0 (.inr rfl) (vres_tmp rfl rfl) ?_
          exact wS2n1
         ·try simp only [qB] at hc13
          refine B_skip (K_seq (B_seq (B_region ?_)))
          refine Lo uS2n75 (v_const (VVal.int .i64 0) (.inr rfl) rfl) ?_
          refine L_nil (K_seq (B_ret ?_))
          refine wS2n0 (.inr rfl) (vres_tmp rfl rfl) ?_
          exact wS2n1
        ·try simp only [qB] at hg12
         refine Lf uS2n75 ?_
         refine Lf uS2n75 ?_
         refine Lf uS2n75 ?_
         refine Lf uS2n75 ?_
         refine Lo uS2n75 (v_pickFC (VVal.bool false) rfl rfl rfl) ?_
         refine Lo uS2n75 (v_move (.inr rfl) rfl) ?_
         refine L_nil (K_blk (K_seq (B_seq (B_seq (B_region ?_)))))
         refine Lo uS2n75 (v_move (.inl rfl) rfl) ?_
         refine Lo uS2n75 (rfl) ?_
         refine L_nil (K_seq ?_)
         refine B_true rfl rfl ?_
         refine B_seq (B_region ?_)
         refine Lo uS2n75 (v_const (VVal.int .i64 1) (.inr rfl) rfl) ?_
         refine L_nil (K_seq (B_ret (K_seqR ?_)))
         refine wS2n0 (.inr rfl) (vres_tmp rfl rfl) ?_
         exact wS2n1
       ·try simp only [qB] at hg11
        refine Lf uS2n75 ?_
        refine Lf uS2n75 ?_
        refine Lf uS2n75 ?_
        refine Lo uS2n75 (v_pickFC (VVal.bool false) rfl rfl rfl) ?_
        refine Lo uS2n75 (v_move (.inl rfl) rfl) ?_
        refine Lf uS2n75 ?_
        refine Lf uS2n75 ?_
        refine Lf uS2n75 ?_
        refine Lf uS2n75 ?_
        refine Lo uS2n75 (v_pickFC (VVal.bool false) rfl rfl rfl) ?_
        refine Lo uS2n75 (v_move (.inr rfl) rfl) ?_
        refine L_nil (K_blk (K_seq (B_seq (B_seq (B_region ?_)))))
        refine Lo uS2n75 (v_move (.inl rfl) rfl) ?_
        refine Lo uS2n75 (rfl) ?_
        refine L_nil (K_seq ?_)
        refine B_true rfl rfl ?_
        refine B_seq (B_region ?_)
        refine Lo uS2n75 (v_const (VVal.int .i64 1) (.inr rfl) rfl) ?_
        refine L_nil (K_seq (B_ret (K_seqR ?_)))
        refine wS2n0 (.inr rfl) (vres_tmp rfl rfl) ?_
        exact wS2n1
      ·try simp only [qB] at hc10
       refine B_seq (B_region ?_)
       refine Lo uS2n75 (rfl) ?_
       refine Lo uS2n75 (v_move (.inr rfl) rfl) ?_
       refine L_nil (K_seq ?_)
       refine B_cond _ rfl (fun hc14 => ?_) (fun hc14 => ?_)
       ·try simp only [qB] at hc14
        refine B_region ?_
        refine Lo uS2n75 (rfl) ?_
        refine Lo uS2n75 (wS2n2 rfl rfl rfl rfl) ?_
        refine Lo uS2n75 (rfl) ?_
        refine Lo uS2n75 (v_move (.inl rfl) rfl) ?_
        refine L_split 65 (env1 := uS2n75) (env2 := uS2n75) rfl rfl rfl (fun hg15 => ?_) (fun hg15 => ?_)
        ·try simp only [qB] at hg15
         refine Lo uS2n75 (rfl) ?_
         refine Lo uS2n75 (wS2n2 rfl rfl rfl rfl) ?_
         refine Lo uS2n75 (rfl) ?_
         refine Lo uS2n75 (wS2n2 rfl rfl rfl rfl) ?_
         refine Lo uS2n75 (rfl) ?_
         refine Lo uS2n75 (rfl) ?_
         refine Lo uS2n75 (v_pickT rfl rfl rfl) ?_
         refine Lo uS2n75 (v_move (.inr rfl) rfl) ?_
         refine L_nil (K_blk (K_seq (B_seq (B_seq (B_region ?_)))))
         refine Lo uS2n75 (v_move (.inl rfl) rfl) ?_
         refine Lo uS2n75 (rfl) ?_
         refine L_nil (K_seq ?_)
         refine B_cond _ rfl (fun hc16 => ?_) (fun hc16 => ?_)
         ·try simp only [qB] at hc16
          refine B_seq (B_region ?_)
          refine Lo uS2n75 (v_const (VVal.int .i64 1) (.inr rfl) rfl) ?_
          refine L_nil (K_seq (B_ret (K_seqR ?_)))
          refine wS2n0 (.inr rfl) (vres_tmp rfl rfl) ?_
          exact wS2n1
         ·try simp only [qB] at hc16
          refine B_skip (K_seq (B_seq (B_region ?_)))
          refine Lo uS2n75 (v_const (VVal.int .i64 0) (.inr rfl) rfl) ?_
          refine L_nil (K_seq (B_ret ?_))
          refine wS2n0 (.inr rfl) (vres_tmp rfl rfl) ?_
          exact wS2n1
        ·try simp only [qB] at hg15
         refine Lf uS2n75 ?_
         refine Lf uS2n75 ?_
         refine Lf uS2n75 ?_
         refine Lf uS2n75 ?_
         refine Lf uS2n75 ?_
         refine Lf uS2n75 ?_
         refine Lo uS2n75 (v_pickFC (VVal.bool false) rfl rfl rfl) ?_
         refine Lo uS2n75 (v_move (.inr rfl) rfl) ?_
         refine L_nil (K_blk (K_seq (B_seq (B_seq (B_region ?_)))))
         refine Lo uS2n75 (v_move (.inl rfl) rfl) ?_
         refine Lo uS2n75 (rfl) ?_
         refine L_nil (K_seq ?_)
         refine B_true rfl rfl ?_
         refine B_seq (B_region ?_)
         refine Lo uS2n75 (v_const (VVal.int .i64 1) (.inr rfl) rfl) ?_
         refine L_nil (K_seq (B_ret (K_seqR ?_)))
         refine wS2n0 (.inr rfl) (vres_tmp rfl rfl) ?_
         exact wS2n1
       ·try simp only [qB] at hc14
        refine B_skip (K_blk (K_seq (B_seq (B_seq (B_region ?_)))))
        refine Lo uS2n75 (v_move (.inl rfl) rfl) ?_
        refine Lo uS2n75 (rfl) ?_
        refine L_nil (K_seq ?_)
        refine B_true rfl rfl ?_
        refine B_seq (B_region ?_)
        refine Lo uS2n75 (v_const (VVal.int .i64 1) (.inr rfl) rfl) ?_
        refine L_nil (K_seq (B_ret (K_seqR ?_)))
        refine wS2n0 (.inr rfl) (vres_tmp rfl rfl) ?_
        exact wS2n1
     ·try simp only [qB] at hc9
      refine B_region ?_
      refine Lo uS2n75 (rfl) ?_
      refine Lo uS2n75 (v_move (.inr rfl) rfl) ?_
      refine L_nil (K_seq ?_)
      refine B_cond _ rfl (fun hc17 => ?_) (fun hc17 => ?_)
      ·try simp only [qB] at hc17
       refine B_region ?_
       refine Lo uS2n75 (rfl) ?_
       refine Lo uS2n75 (wS2n2 rfl rfl rfl rfl) ?_
       refine Lo uS2n75 (rfl) ?_
       refine Lo uS2n75 (v_move (.inl rfl) rfl) ?_
       refine L_split 49 (env1 := uS2n75) (env2 := uS2n75) rfl rfl rfl (fun hg18 => ?_) (fun hg18 => ?_)
       ·try simp only [qB] at hg18
        refine Lo uS2n75 (rfl) ?_
        refine Lo uS2n75 (wS2n2 rfl rfl rfl rfl) ?_
        refine Lo uS2n75 (rfl) ?_
        refine Lo uS2n75 (v_pickT rfl rfl rfl) ?_
        refine Lo uS2n75 (v_move (.inl rfl) rfl) ?_
        refine L_split 54 (env1 := uS2n75) (env2 := uS2n75) rfl rfl rfl (fun hg19 => ?_) (fun hg19 => ?_)
        ·try simp only [qB] at hg19
         refine Lo uS2n75 (rfl) ?_
         refine Lo uS2n75 (wS2n2 rfl rfl rfl rfl) ?_
         refine Lo uS2n75 (rfl) ?_
         refine Lo uS2n75 (rfl) ?_
         refine Lo uS2n75 (v_pickT rfl rfl rfl) ?_
         refine Lo uS2n75 (v_move (.inr rfl) rfl) ?_
         refine L_nil (K_blk (K_seq (B_seq (B_seq (B_region ?_)))))
         refine Lo uS2n75 (v_move (.inl rfl) rfl) ?_
         refine Lo uS2n75 (rfl) ?_
         refine L_nil (K_seq ?_)
         refine B_cond _ rfl (fun hc20 => ?_) (fun hc20 => ?_)
         ·try simp only [qB] at hc20
          refine B_seq (B_region ?_)
          refine Lo uS2n75 (v_const (VVal.int .i64 1) (.inr rfl) rfl) ?_
          refine L_nil (K_seq (B_ret (K_seqR ?_)))
          refine wS2n0 (.inr rfl) (vres_tmp rfl rfl) ?_
          exact wS2n1
         ·try simp only [qB] at hc20
          refine B_skip (K_seq (B_seq (B_region ?_)))
          refine Lo uS2n75 (v_const (VVal.int .i64 0) (.inr rfl) rfl) ?_
          refine L_nil (K_seq (B_ret ?_))
          refine wS2n0 (.inr rfl) (vres_tmp rfl rfl) ?_
          exact wS2n1
        ·try simp only [qB] at hg19
         refine Lf uS2n75 ?_
         refine Lf uS2n75 ?_
         refine Lf uS2n75 ?_
         refine Lf uS2n75 ?_
         refine Lo uS2n75 (v_pickFC (VVal.bool false) rfl rfl rfl) ?_
         refine Lo uS2n75 (v_move (.inr rfl) rfl) ?_
         refine L_nil (K_blk (K_seq (B_seq (B_seq (B_region ?_)))))
         refine Lo uS2n75 (v_move (.inl rfl) rfl) ?_
         refine Lo uS2n75 (rfl) ?_
         refine L_nil (K_seq ?_)
         refine B_true rfl rfl ?_
         refine B_seq (B_region ?_)
         refine Lo uS2n75 (v_const (VVal.int .i64 1) (.inr rfl) rfl) ?_
         refine L_nil (K_seq (B_ret (K_seqR ?_)))
         refine wS2n0 (.inr rfl) (vres_tmp rfl rfl) ?_
         exact wS2n1
       ·try simp only [qB] at hg18
        refine Lf uS2n75 ?_
        refine Lf uS2n75 ?_
        refine Lf uS2n75 ?_
        refine Lo uS2n75 (v_pickFC (VVal.bool false) rfl rfl rfl) ?_
        refine Lo uS2n75 (v_move (.inl rfl) rfl) ?_
        refine Lf uS2n75 ?_
        refine Lf uS2n75 ?_
        refine Lf uS2n75 ?_
        refine Lf uS2n75 ?_
        refine Lo uS2n75 (v_pickFC (VVal.bool false) rfl rfl rfl) ?_
        refine Lo uS2n75 (v_move (.inr rfl) rfl) ?_
        refine L_nil (K_blk (K_seq (B_seq (B_seq (B_region ?_)))))
        refine Lo uS2n75 (v_move (.inl rfl) rfl) ?_
        refine Lo uS2n75 (rfl) ?_
        refine L_nil (K_seq ?_)
        refine B_true rfl rfl ?_
        refine B_seq (B_region ?_)
        refine Lo uS2n75 (v_const (VVal.int .i64 1) (.inr rfl) rfl) ?_
        refine L_nil (K_seq (B_ret (K_seqR ?_)))
        refine wS2n0 (.inr rfl) (vres_tmp rfl rfl) ?_
        exact wS2n1
      ·try simp only [qB] at hc17
       refine B_seq (B_region ?_)
       refine Lo uS2n75 (rfl) ?_
       refine Lo uS2n75 (v_move (.inr rfl) rfl) ?_
       refine L_nil (K_seq ?_)
       refine B_cond _ rfl (fun hc21 => ?_) (fun hc21 => ?_)
       ·try simp only [qB] at hc21
        refine B_region ?_
        refine Lo uS2n75 (rfl) ?_
        refine Lo uS2n75 (wS2n2 rfl rfl rfl rfl) ?_
        refine Lo uS2n75 (rfl) ?_
        refine Lo uS2n75 (v_move (.inl rfl) rfl) ?_
        refine L_split 65 (env1 := uS2n75) (env2 := uS2n75) rfl rfl rfl (fun hg22 => ?_) (fun hg22 => ?_)
        ·try simp only [qB] at hg22
         refine Lo uS2n75 (rfl) ?_
         refine Lo uS2n75 (wS2n2 rfl rfl rfl rfl) ?_
         refine Lo uS2n75 (rfl) ?_
         refine Lo uS2n75 (wS2n2 rfl rfl rfl rfl) ?_
         refine Lo uS2n75 (rfl) ?_
         refine Lo uS2n75 (rfl) ?_
         refine Lo uS2n75 (v_pickT rfl rfl rfl) ?_
         refine Lo uS2n75 (v_move (.inr rfl) rfl) ?_
         refine L_nil (K_blk (K_seq (B_seq (B_seq (B_region ?_)))))
         refine Lo uS2n75 (v_move (.inl rfl) rfl) ?_
         refine Lo uS2n75 (rfl) ?_
         refine L_nil (K_seq ?_)
         refine B_cond _ rfl (fun hc23 => ?_) (fun hc23 => ?_)
         ·try simp only [qB] at hc23
          refine B_seq (B_region ?_)
          refine Lo uS2n75 (v_const (VVal.int .i64 1) (.inr rfl) rfl) ?_
          refine L_nil (K_seq (B_ret (K_seqR ?_)))
          refine wS2n0 (.inr rfl) (vres_tmp rfl rfl) ?_
          exact wS2n1
         ·try simp only [qB] at hc23
          refine B_skip (K_seq (B_seq (B_region ?_)))
          refine Lo uS2n75 (v_const (VVal.int .i64 0) (.inr rfl) rfl) ?_
          refine L_nil (K_seq (B_ret ?_))
          refine wS2n0 (.inr rfl) (vres_tmp rfl rfl) ?_
          exact wS2n1
        ·try simp only [qB] at hg22
         refine Lf uS2n75 ?_
         refine Lf uS2n75 ?_
         refine Lf uS2n75 ?_
         refine Lf uS2n75 ?_
         refine Lf uS2n75 ?_
         refine Lf uS2n75 ?_
         refine Lo uS2n75 (v_pickFC (VVal.bool false) rfl rfl rfl) ?_
         refine Lo uS2n75 (v_move (.inr rfl) rfl) ?_
         refine L_nil (K_blk (K_seq (B_seq (B_seq (B_region ?_)))))
         refine Lo uS2n75 (v_move (.inl rfl) rfl) ?_
         refine Lo uS2n75 (rfl) ?_
         refine L_nil (K_seq ?_)
         refine B_true rfl rfl ?_
         refine B_seq (B_region ?_)
         refine Lo uS2n75 (v_const (VVal.int .i64 1) (.inr rfl) rfl) ?_
         refine L_nil (K_seq (B_ret (K_seqR ?_)))
         refine wS2n0 (.inr rfl) (vres_tmp rfl rfl) ?_
         exact wS2n1
       ·try simp only [qB] at hc21
        refine B_skip (K_blk (K_seq (B_seq (B_seq (B_region ?_)))))
        refine Lo uS2n75 (v_move (.inl rfl) rfl) ?_
        refine Lo uS2n75 (rfl) ?_
        refine L_nil (K_seq ?_)
        refine B_true rfl rfl ?_
        refine B_seq (B_region ?_)
        refine Lo uS2n75 (v_const (VVal.int .i64 1) (.inr rfl) rfl) ?_
        refine L_nil (K_seq (B_ret (K_seqR ?_)))
        refine wS2n0 (.inr rfl) (vres_tmp rfl rfl) ?_
        exact wS2n1
   ·try simp only [qB] at hc5
    refine B_region ?_
    refine Lo uS2n75 (rfl) ?_
    refine Lo uS2n75 (v_move (.inr rfl) rfl) ?_
    refine L_nil (K_seq ?_)
    refine B_cond _ rfl (fun hc24 => ?_) (fun hc24 => ?_)
    ·try simp only [qB] at hc24
     refine B_region ?_
     refine Lo uS2n75 (rfl) ?_
     refine Lo uS2n75 (wS2n2 rfl rfl rfl rfl) ?_
     refine Lo uS2n75 (rfl) ?_
     refine Lo uS2n75 (v_move (.inl rfl) rfl) ?_
     refine L_split 37 (env1 := uS2n75) (env2 := uS2n75) rfl rfl rfl (fun hg25 => ?_) (fun hg25 => ?_)
     ·try simp only [qB] at hg25
      refine Lo uS2n75 (rfl) ?_
      refine Lo uS2n75 (wS2n2 rfl rfl rfl rfl) ?_
      refine Lo uS2n75 (rfl) ?_
      refine Lo uS2n75 (rfl) ?_
      refine Lo uS2n75 (v_pickT rfl rfl rfl) ?_
      refine Lo uS2n75 (v_move (.inr rfl) rfl) ?_
      refine L_nil (K_blk (K_seq (B_seq (B_seq (B_region ?_)))))
      refine Lo uS2n75 (v_move (.inl rfl) rfl) ?_
      refine Lo uS2n75 (rfl) ?_
      refine L_nil (K_seq ?_)
      refine B_cond _ rfl (fun hc26 => ?_) (fun hc26 => ?_)
      ·try simp only [qB] at hc26
       refine B_seq (B_region ?_)
       refine Lo uS2n75 (v_const (VVal.int .i64 1) (.inr rfl) rfl) ?_
       refine L_nil (K_seq (B_ret (K_seqR ?_)))
       refine wS2n0 (.inr rfl) (vres_tmp rfl rfl) ?_
       exact wS2n1
      ·try simp only [qB] at hc26
       refine B_skip (K_seq (B_seq (B_region ?_)))
       refine Lo uS2n75 (v_const (VVal.int .i64 0) (.inr rfl) rfl) ?_
       refine L_nil (K_seq (B_ret ?_))
       refine wS2n0 (.inr rfl) (vres_tmp rfl rfl) ?_
       exact wS2n1
     ·try simp only [qB] at hg25
      refine Lf uS2n75 ?_
      refine Lf uS2n75 ?_
      refine Lf uS2n75 ?_
      refine Lf uS2n75 ?_
      refine Lo uS2n75 (v_pickFC (VVal.bool false) rfl rfl rfl) ?_
      refine Lo uS2n75 (v_move (.inr rfl) rfl) ?_
      refine L_nil (K_blk (K_seq (B_seq (B_seq (B_region ?_)))))
      refine Lo uS2n75 (v_move (.inl rfl) rfl) ?_
      refine Lo uS2n75 (rfl) ?_
      refine L_nil (K_seq ?_)
      refine B_true rfl rfl ?_
      refine B_seq (B_region ?_)
      refine Lo uS2n75 (v_const (VVal.int .i64 1) (.inr rfl) rfl) ?_
      refine L_nil (K_seq (B_ret (K_seqR ?_)))
      refine wS2n0 (.inr rfl) (vres_tmp rfl rfl) ?_
      exact wS2n1
    ·try simp only [qB] at hc24
     refine B_seq (B_seq (B_region ?_))
     refine Lo uS2n75 (rfl) ?_
     refine Lo uS2n75 (v_move (.inr rfl) rfl) ?_
     refine L_nil (K_seq ?_)
     refine B_cond _ rfl (fun hc27 => ?_) (fun hc27 => ?_)
     ·try simp only [qB] at hc27
      refine B_skip (K_seq ?_)
      refine B_cond _ rfl (fun hc28 => ?_) (fun hc28 => ?_)
      ·try simp only [qB] at hc28
       refine B_region ?_
       refine Lo uS2n75 (rfl) ?_
       refine Lo uS2n75 (wS2n2 rfl rfl rfl rfl) ?_
       refine Lo uS2n75 (rfl) ?_
       refine Lo uS2n75 (v_move (.inl rfl) rfl) ?_
       refine L_split 49 (env1 := uS2n75) (env2 := uS2n75) rfl rfl rfl (fun hg29 => ?_) (fun hg29 => ?_)
       ·try simp only [qB] at hg29
        refine Lo uS2n75 (rfl) ?_
        refine Lo uS2n75 (wS2n2 rfl rfl rfl rfl) ?_
        refine Lo uS2n75 (rfl) ?_
        refine Lo uS2n75 (v_pickT rfl rfl rfl) ?_
        refine Lo uS2n75 (v_move (.inl rfl) rfl) ?_
        refine L_split 54 (env1 := uS2n75) (env2 := uS2n75) rfl rfl rfl (fun hg30 => ?_) (fun hg30 => ?_)
        ·try simp only [qB] at hg30
         refine Lo uS2n75 (rfl) ?_
         refine Lo uS2n75 (wS2n2 rfl rfl rfl rfl) ?_
         refine Lo uS2n75 (rfl) ?_
         refine Lo uS2n75 (rfl) ?_
         refine Lo uS2n75 (v_pickT rfl rfl rfl) ?_
         refine Lo uS2n75 (v_move (.inr rfl) rfl) ?_
         refine L_nil (K_blk (K_seq (B_seq (B_seq (B_region ?_)))))
         refine Lo uS2n75 (v_move (.inl rfl) rfl) ?_
         refine Lo uS2n75 (rfl) ?_
         refine L_nil (K_seq ?_)
         refine B_cond _ rfl (fun hc31 => ?_) (fun hc31 => ?_)
         ·try simp only [qB] at hc31
          refine B_seq (B_region ?_)
          refine Lo uS2n75 (v_const (VVal.int .i64 1) (.inr rfl) rfl) ?_
          refine L_nil (K_seq (B_ret (K_seqR ?_)))
          refine wS2n0 (.inr rfl) (vres_tmp rfl rfl) ?_
          exact wS2n1
         ·try simp only [qB] at hc31
          refine B_skip (K_seq (B_seq (B_region ?_)))
          refine Lo uS2n75 (v_const (VVal.int .i64 0) (.inr rfl) rfl) ?_
          refine L_nil (K_seq (B_ret ?_))
          refine wS2n0 (.inr rfl) (vres_tmp rfl rfl) ?_
          exact wS2n1
        ·try simp only [qB] at hg30
         refine Lf uS2n75 ?_
         refine Lf uS2n75 ?_
         refine Lf uS2n75 ?_
         refine Lf uS2n75 ?_
         refine Lo uS2n75 (v_pickFC (VVal.bool false) rfl rfl rfl) ?_
         refine Lo uS2n75 (v_move (.inr rfl) rfl) ?_
         refine L_nil (K_blk (K_seq (B_seq (B_seq (B_region ?_)))))
         refine Lo uS2n75 (v_move (.inl rfl) rfl) ?_
         refine Lo uS2n75 (rfl) ?_
         refine L_nil (K_seq ?_)
         refine B_true rfl rfl ?_
         refine B_seq (B_region ?_)
         refine Lo uS2n75 (v_const (VVal.int .i64 1) (.inr rfl) rfl) ?_
         refine L_nil (K_seq (B_ret (K_seqR ?_)))
         refine wS2n0 (.inr rfl) (vres_tmp rfl rfl) ?_
         exact wS2n1
       ·try simp only [qB] at hg29
        refine Lf uS2n75 ?_
        refine Lf uS2n75 ?_
        refine Lf uS2n75 ?_
        refine Lo uS2n75 (v_pickFC (VVal.bool false) rfl rfl rfl) ?_
        refine Lo uS2n75 (v_move (.inl rfl) rfl) ?_
        refine Lf uS2n75 ?_
        refine Lf uS2n75 ?_
        refine Lf uS2n75 ?_
        refine Lf uS2n75 ?_
        refine Lo uS2n75 (v_pickFC (VVal.bool false) rfl rfl rfl) ?_
        refine Lo uS2n75 (v_move (.inr rfl) rfl) ?_
        refine L_nil (K_blk (K_seq (B_seq (B_seq (B_region ?_)))))
        refine Lo uS2n75 (v_move (.inl rfl) rfl) ?_
        refine Lo uS2n75 (rfl) ?_
        refine L_nil (K_seq ?_)
        refine B_true rfl rfl ?_
        refine B_seq (B_region ?_)
        refine Lo uS2n75 (v_const (VVal.int .i64 1) (.inr rfl) rfl) ?_
        refine L_nil (K_seq (B_ret (K_seqR ?_)))
        refine wS2n0 (.inr rfl) (vres_tmp rfl rfl) ?_
        exact wS2n1
      ·try simp only [qB] at hc28
       refine B_seq (B_region ?_)
       refine Lo uS2n75 (rfl) ?_
       refine Lo uS2n75 (v_move (.inr rfl) rfl) ?_
       refine L_nil (K_seq ?_)
       refine B_cond _ rfl (fun hc32 => ?_) (fun hc32 => ?_)
       ·try simp only [qB] at hc32
        refine B_region ?_
        refine Lo uS2n75 (rfl) ?_
        refine Lo uS2n75 (wS2n2 rfl rfl rfl rfl) ?_
        refine Lo uS2n75 (rfl) ?_
        refine Lo uS2n75 (v_move (.inl rfl) rfl) ?_
        refine L_split 65 (env1 := uS2n75) (env2 := uS2n75) rfl rfl rfl (fun hg33 => ?_) (fun hg33 => ?_)
        ·try simp only [qB] at hg33
         refine Lo uS2n75 (rfl) ?_
         refine Lo uS2n75 (wS2n2 rfl rfl rfl rfl) ?_
         refine Lo uS2n75 (rfl) ?_
         refine Lo uS2n75 (wS2n2 rfl rfl rfl rfl) ?_
         refine Lo uS2n75 (rfl) ?_
         refine Lo uS2n75 (rfl) ?_
         refine Lo uS2n75 (v_pickT rfl rfl rfl) ?_
         refine Lo uS2n75 (v_move (.inr rfl) rfl) ?_
         refine L_nil (K_blk (K_seq (B_seq (B_seq (B_region ?_)))))
         refine Lo uS2n75 (v_move (.inl rfl) rfl) ?_
         refine Lo uS2n75 (rfl) ?_
         refine L_nil (K_seq ?_)
         refine B_cond _ rfl (fun hc34 => ?_) (fun hc34 => ?_)
         ·try simp only [qB] at hc34
          refine B_seq (B_region ?_)
          refine Lo uS2n75 (v_const (VVal.int .i64 1) (.inr rfl) rfl) ?_
          refine L_nil (K_seq (B_ret (K_seqR ?_)))
          refine wS2n0 (.inr rfl) (vres_tmp rfl rfl) ?_
          exact wS2n1
         ·try simp only [qB] at hc34
          refine B_skip (K_seq (B_seq (B_region ?_)))
          refine Lo uS2n75 (v_const (VVal.int .i64 0) (.inr rfl) rfl) ?_
          refine L_nil (K_seq (B_ret ?_))
          refine wS2n0 (.inr rfl) (vres_tmp rfl rfl) ?_
          exact wS2n1
        ·try simp only [qB] at hg33
         refine Lf uS2n75 ?_
         refine Lf uS2n75 ?_
         refine Lf uS2n75 ?_
         refine Lf uS2n75 ?_
         refine Lf uS2n75 ?_
         refine Lf uS2n75 ?_
         refine Lo uS2n75 (v_pickFC (VVal.bool false) rfl rfl rfl) ?_
         refine Lo uS2n75 (v_move (.inr rfl) rfl) ?_
         refine L_nil (K_blk (K_seq (B_seq (B_seq (B_region ?_)))))
         refine Lo uS2n75 (v_move (.inl rfl) rfl) ?_
         refine Lo uS2n75 (rfl) ?_
         refine L_nil (K_seq ?_)
         refine B_true rfl rfl ?_
         refine B_seq (B_region ?_)
         refine Lo uS2n75 (v_const (VVal.int .i64 1) (.inr rfl) rfl) ?_
         refine L_nil (K_seq (B_ret (K_seqR ?_)))
         refine wS2n0 (.inr rfl) (vres_tmp rfl rfl) ?_
         exact wS2n1
       ·try simp only [qB] at hc32
        refine B_skip (K_blk (K_seq (B_seq (B_seq (B_region ?_)))))
        refine Lo uS2n75 (v_move (.inl rfl) rfl) ?_
        refine Lo uS2n75 (rfl) ?_
        refine L_nil (K_seq ?_)
        refine B_true rfl rfl ?_
        refine B_seq (B_region ?_)
        refine Lo uS2n75 (v_const (VVal.int .i64 1) (.inr rfl) rfl) ?_
        refine L_nil (K_seq (B_ret (K_seqR ?_)))
        refine wS2n0 (.inr rfl) (vres_tmp rfl rfl) ?_
        exact wS2n1
     ·try simp only [qB] at hc27
      refine B_region ?_
      refine Lo uS2n75 (rfl) ?_
      refine Lo uS2n75 (v_move (.inr rfl) rfl) ?_
      refine L_nil (K_seq ?_)
      refine B_cond _ rfl (fun hc35 => ?_) (fun hc35 => ?_)
      ·try simp only [qB] at hc35
       refine B_region ?_
       refine Lo uS2n75 (rfl) ?_
       refine Lo uS2n75 (wS2n2 rfl rfl rfl rfl) ?_
       refine Lo uS2n75 (rfl) ?_
       refine Lo uS2n75 (v_move (.inl rfl) rfl) ?_
       refine L_split 49 (env1 := uS2n75) (env2 := uS2n75) rfl rfl rfl (fun hg36 => ?_) (fun hg36 => ?_)
       ·try simp only [qB] at hg36
        refine Lo uS2n75 (rfl) ?_
        refine Lo uS2n75 (wS2n2 rfl rfl rfl rfl) ?_
        refine Lo uS2n75 (rfl) ?_
        refine Lo uS2n75 (v_pickT rfl rfl rfl) ?_
        refine Lo uS2n75 (v_move (.inl rfl) rfl) ?_
        refine L_split 54 (env1 := uS2n75) (env2 := uS2n75) rfl rfl rfl (fun hg37 => ?_) (fun hg37 => ?_)
        ·try simp only [qB] at hg37
         refine Lo uS2n75 (rfl) ?_
         refine Lo uS2n75 (wS2n2 rfl rfl rfl rfl) ?_
         refine Lo uS2n75 (rfl) ?_
         refine Lo uS2n75 (rfl) ?_
         refine Lo uS2n75 (v_pickT rfl rfl rfl) ?_
         refine Lo uS2n75 (v_move (.inr rfl) rfl) ?_
         refine L_nil (K_blk (K_seq (B_seq (B_seq (B_region ?_)))))
         refine Lo uS2n75 (v_move (.inl rfl) rfl) ?_
         refine Lo uS2n75 (rfl) ?_
         refine L_nil (K_seq ?_)
         refine B_cond _ rfl (fun hc38 => ?_) (fun hc38 => ?_)
         ·try simp only [qB] at hc38
          refine B_seq (B_region ?_)
          refine Lo uS2n75 (v_const (VVal.int .i64 1) (.inr rfl) rfl) ?_
          refine L_nil (K_seq (B_ret (K_seqR ?_)))
          refine wS2n0 (.inr rfl) (vres_tmp rfl rfl) ?_
          exact wS2n1
         ·try simp only [qB] at hc38
          refine B_skip (K_seq (B_seq (B_region ?_)))
          refine Lo uS2n75 (v_const (VVal.int .i64 0) (.inr rfl) rfl) ?_
          refine L_nil (K_seq (B_ret ?_))
          refine wS2n0 (.inr rfl) (vres_tmp rfl rfl) ?_
          exact wS2n1
        ·try simp only [qB] at hg37
         refine Lf uS2n75 ?_
         refine Lf uS2n75 ?_
         refine Lf uS2n75 ?_
         refine Lf uS2n75 ?_
         refine Lo uS2n75 (v_pickFC (VVal.bool false) rfl rfl rfl) ?_
         refine Lo uS2n75 (v_move (.inr rfl) rfl) ?_
         refine L_nil (K_blk (K_seq (B_seq (B_seq (B_region ?_)))))
         refine Lo uS2n75 (v_move (.inl rfl) rfl) ?_
         refine Lo uS2n75 (rfl) ?_
         refine L_nil (K_seq ?_)
         refine B_true rfl rfl ?_
         refine B_seq (B_region ?_)
         refine Lo uS2n75 (v_const (VVal.int .i64 1) (.inr rfl) rfl) ?_
         refine L_nil (K_seq (B_ret (K_seqR ?_)))
         refine wS2n0 (.inr rfl) (vres_tmp rfl rfl) ?_
         exact wS2n1
       ·try simp only [qB] at hg36
        refine Lf uS2n75 ?_
        refine Lf uS2n75 ?_
        refine Lf uS2n75 ?_
        refine Lo uS2n75 (v_pickFC (VVal.bool false) rfl rfl rfl) ?_
        refine Lo uS2n75 (v_move (.inl rfl) rfl) ?_
        refine Lf uS2n75 ?_
        refine Lf uS2n75 ?_
        refine Lf uS2n75 ?_
        refine Lf uS2n75 ?_
        refine Lo uS2n75 (v_pickFC (VVal.bool false) rfl rfl rfl) ?_
        refine Lo uS2n75 (v_move (.inr rfl) rfl) ?_
        refine L_nil (K_blk (K_seq (B_seq (B_seq (B_region ?_)))))
        refine Lo uS2n75 (v_move (.inl rfl) rfl) ?_
        refine Lo uS2n75 (rfl) ?_
        refine L_nil (K_seq ?_)
        refine B_true rfl rfl ?_
        refine B_seq (B_region ?_)
        refine Lo uS2n75 (v_const (VVal.int .i64 1) (.inr rfl) rfl) ?_
        refine L_nil (K_seq (B_ret (K_seqR ?_)))
        refine wS2n0 (.inr rfl) (vres_tmp rfl rfl) ?_
        exact wS2n1
      ·try simp only [qB] at hc35
       refine B_seq (B_region ?_)
       refine Lo uS2n75 (rfl) ?_
       refine Lo uS2n75 (v_move (.inr rfl) rfl) ?_
       refine L_nil (K_seq ?_)
       refine B_cond _ rfl (fun hc39 => ?_) (fun hc39 => ?_)
       ·try simp only [qB] at hc39
        refine B_region ?_
        refine Lo uS2n75 (rfl) ?_
        refine Lo uS2n75 (wS2n2 rfl rfl rfl rfl) ?_
        refine Lo uS2n75 (rfl) ?_
        refine Lo uS2n75 (v_move (.inl rfl) rfl) ?_
        refine L_split 65 (env1 := uS2n75) (env2 := uS2n75) rfl rfl rfl (fun hg40 => ?_) (fun hg40 => ?_)
        ·try simp only [qB] at hg40
         refine Lo uS2n75 (rfl) ?_
         refine Lo uS2n75 (wS2n2 rfl rfl rfl rfl) ?_
         refine Lo uS2n75 (rfl) ?_
         refine Lo uS2n75 (wS2n2 rfl rfl rfl rfl) ?_
         refine Lo uS2n75 (rfl) ?_
         refine Lo uS2n75 (rfl) ?_
         refine Lo uS2n75 (v_pickT rfl rfl rfl) ?_
         refine Lo uS2n75 (v_move (.inr rfl) rfl) ?_
         refine L_nil (K_blk (K_seq (B_seq (B_seq (B_region ?_)))))
         refine Lo uS2n75 (v_move (.inl rfl) rfl) ?_
         refine Lo uS2n75 (rfl) ?_
         refine L_nil (K_seq ?_)
         refine B_cond _ rfl (fun hc41 => ?_) (fun hc41 => ?_)
         ·try simp only [qB] at hc41
          refine B_seq (B_region ?_)
          refine Lo uS2n75 (v_const (VVal.int .i64 1) (.inr rfl) rfl) ?_
          refine L_nil (K_seq (B_ret (K_seqR ?_)))
          refine wS2n0 (.inr rfl) (vres_tmp rfl rfl) ?_
          exact wS2n1
         ·try simp only [qB] at hc41
          refine B_skip (K_seq (B_seq (B_region ?_)))
          refine Lo uS2n75 (v_const (VVal.int .i64 0) (.inr rfl) rfl) ?_
          refine L_nil (K_seq (B_ret ?_))
          refine wS2n0 (.inr rfl) (vres_tmp rfl rfl) ?_
          exact wS2n1
        ·try simp only [qB] at hg40
         refine Lf uS2n75 ?_
         refine Lf uS2n75 ?_
         refine Lf uS2n75 ?_
         refine Lf uS2n75 ?_
         refine Lf uS2n75 ?_
         refine Lf uS2n75 ?_
         refine Lo uS2n75 (v_pickFC (VVal.bool false) rfl rfl rfl) ?_
         refine Lo uS2n75 (v_move (.inr rfl) rfl) ?_
         refine L_nil (K_blk (K_seq (B_seq (B_seq (B_region ?_)))))
         refine Lo uS2n75 (v_move (.inl rfl) rfl) ?_
         refine Lo uS2n75 (rfl) ?_
         refine L_nil (K_seq ?_)
         refine B_true rfl rfl ?_
         refine B_seq (B_region ?_)
         refine Lo uS2n75 (v_const (VVal.int .i64 1) (.inr rfl) rfl) ?_
         refine L_nil (K_seq (B_ret (K_seqR ?_)))
         refine wS2n0 (.inr rfl) (vres_tmp rfl rfl) ?_
         exact wS2n1
       ·try simp only [qB] at hc39
        refine B_skip (K_blk (K_seq (B_seq (B_seq (B_region ?_)))))
        refine Lo uS2n75 (v_move (.inl rfl) rfl) ?_
        refine Lo uS2n75 (rfl) ?_
        refine L_nil (K_seq ?_)
        refine B_true rfl rfl ?_
        refine B_seq (B_region ?_)
        refine Lo uS2n75 (v_const (VVal.int .i64 1) (.inr rfl) rfl) ?_
        refine L_nil (K_seq (B_ret (K_seqR ?_)))
        refine wS2n0 (.inr rfl) (vres_tmp rfl rfl) ?_
        exact wS2n1
end Go.Proofs.Ytbngdhlmggdaaaa.VT

set_option autoImplicit false
set_option linter.unusedVariables false
set_option linter.unusedSimpArgs false
set_option maxHeartbeats 4000000
set_option maxRecDepth 100000
namespace Go.Proofs.Ytbngdhlmggdaaaa.VT
open Go Go.V Go.RowKit

abbrev uS3n8 {a0 a1 a2 a3 a4 a5 a6 a7 : VVal} : VEnv := a0 :: a1 :: a2 :: a3 :: a4 :: a5 :: a6 :: a7 :: []
abbrev uS3n9 {a0 a1 a2 a3 a4 a5 a6 a7 a8 : VVal} : VEnv := a0 :: a1 :: a2 :: a3 :: a4 :: a5 :: a6 :: a7 :: a8 :: []
abbrev uS3n12 {a0 a1 a2 a3 a4 a5 a6 a7 a8 a9 a10 a11 : VVal} : VEnv := a0 :: a1 :: a2 :: a3 :: a4 :: a5 :: a6 :: a7 :: a8 :: a9 :: a10 :: a11 :: []
abbrev uS3n15 {a0 a1 a2 a3 a4 a5 a6 a7 a8 a9 a10 a11 a12 a13 a14 : VVal} : VEnv := a0 :: a1 :: a2 :: a3 :: a4 :: a5 :: a6 :: a7 :: a8 :: a9 :: a10 :: a11 :: a12 :: a13 :: a14 :: []
abbrev uS3n17 {a0 a1 a2 a3 a4 a5 a6 a7 a8 a9 a10 a11 a12 a13 a14 a15 a16 : VVal} : VEnv := a0 :: a1 :: a2 :: a3 :: a4 :: a5 :: a6 :: a7 :: a8 :: a9 :: a10 :: a11 :: a12 :: a13 :: a14 :: a15 :: a16 :: []
abbrev uS3n48 {a0 a1 a2 a3 a4 a5 a6 a7 a8 a9 a10 a11 a12 a13 a14 a15 a16 a17 a18 a19 a20 a21 a22 a23 a24 a25 a26 a27 a28 a29 a30 a31 a32 a33 a34 a35 a36 a37 a38 a39 a40 a41 a42 a43 a44 a45 a46 a47 : VVal} : VEnv := a0 :: a1 :: a2 :: a3 :: a4 :: a5 :: a6 :: a7 :: a8 :: a9 :: a10 :: a11 :: a12 :: a13 :: a14 :: a15 :: a16 :: a17 :: a18 :: a19 :: a20 :: a21 :: a22 :: a23 :: a24 :: a25 :: a26 :: a27 :: a28 :: a29 :: a30 :: a31 :: a32 :: a33 :: a34 :: a35 :: a36 :: a37 :: a38 :: a39 :: a40 :: a41 :: a42 :: a43 :: a44 :: a45 :: a46 :: a47 :: []

theorem wS3n0 {T : TypeId → Option VTy} {H : VHeap} {op : Op} {ρ : Operand → VVal} {t : TypeId} {a : Operand} {y : VTy} {p v : VVal} (ho : op = .load t a) (ha : ρ a = p) (hy : T t = some y) (hd : isAggDesc y.desc = false) (h : LdOk H p v := by first | exact .inl ⟨_, _, rfl, by first | rfl | assumption | exact fget (α := BitVec 64) 0 (by omega) | exact fget (α := Int) 0 (by omega) | exact fget0 (α := BitVec 64) 0 (by omega) | exact fget0 (α := Int) 0 (by omega) | exact fget (α := Bool) false (by omega) | exact fget0 (α := Bool) false (by omega) | (simp [*]; done)⟩ | exact .inr ⟨_, _, _, _, rfl, by first | exact get_app rfl rfl | exact get_out (by assumption) | exact getE0 rfl rfl | exact get_out (get_app rfl rfl) | exact get_app rfl (by assumption) | assumption | (simp only [List.append_assoc, List.singleton_append, List.cons_append, List.nil_append]; refine getE (i := 0) rfl ?_ rfl; simp; done) | (simp only [List.append_assoc, List.singleton_append, List.cons_append, List.nil_append]; refine getE (i := 1) rfl ?_ rfl; simp; done) | (simp only [List.append_assoc, List.singleton_append, List.cons_append, List.nil_append]; refine getE (i := 2) rfl ?_ rfl; simp; done) | (simp only [List.append_assoc, List.singleton_append, List.cons_append, List.nil_append]; refine getE (i := 3) rfl ?_ rfl; simp; done) | (simp [*]; done), by first | rfl | assumption | exact fget (α := BitVec 64) 0 (by omega) | exact fget (α := Int) 0 (by omega) | exact fget0 (α := BitVec 64) 0 (by omega) | exact fget0 (α := Int) 0 (by omega) | exact fget (α := Bool) false (by omega) | exact fget0 (α := Bool) false (by omega) | (simp [*]; done)⟩) : vop T ρ H op = some (v, H) := v_ld ho ha hy hd h
theorem wS3n1 {S : V.Sys} {H : VHeap} {fn : Func} {ex : Exit} {env : VEnv} {B L : VHeap} {v : VVal} {R : VVal → VHeap → Prop} (hx : ex = .normal ∨ ex = .ret) (hv : vresults S.C.T env (B ++ L) fn.results = some v) (h : R v B) (hB : BaseOk H B := by first | exact BaseOk.refl _ | exact BaseOk.set (BaseOk.refl _) _ rfl) (hu : v.under H.length = true := by first | rfl | simp [VVal.under, VVal.underL, *]) : fnK S fn H R ex env (B ++ L) := E_app hx hv hB hu h
theorem wS3n2 {T : TypeId → Option VTy} {H : VHeap} {op : Op} {ρ : Operand → VVal} {t ty : TypeId} {x y : Operand} {n m : Int} (ho : op = .binOp .add t x y ty) (hx : ρ x = .int .i64 n) (hy : ρ y = .int .i64 m) (h : -9223372036854775808 ≤ n + m ∧ n + m < 9223372036854775808 := by first | assumption | omega | (simp [*]; done) | (simp at *; omega)) : vop T ρ H op = some (.int .i64 (n + m), H) := v_addI ho hx hy h
theorem wS3n3 {T : TypeId → Option VTy} {H : VHeap} {op : Op} {ρ : VEnv} {H' : VHeap} {t : TypeId} {a : Operand} {i : Nat} {v : VVal} {y : VTy} {b off : Nat} {cs new : List VVal} (ho : op = .store t a (.tmp i)) (hv : ρ[i]? = some v) (ha : ρ.eval a = .ptr (some (b, off))) (hy : T t = some y) (hx : v.cells = some new) (hn : new.length = y.size) (h1 : new.all VVal.one = true) (hb : H[b]? = some (.cells cs true) := by first | exact get_app rfl rfl | exact get_out (by assumption) | exact getE0 rfl rfl | exact get_out (get_app rfl rfl) | exact get_app rfl (by assumption) | assumption | (simp only [List.append_assoc, List.singleton_append, List.cons_append, List.nil_append]; refine getE (i := 0) rfl ?_ rfl; simp; done) | (simp only [List.append_assoc, List.singleton_append, List.cons_append, List.nil_append]; refine getE (i := 1) rfl ?_ rfl; simp; done) | (simp only [List.append_assoc, List.singleton_append, List.cons_append, List.nil_append]; refine getE (i := 2) rfl ?_ rfl; simp; done) | (simp only [List.append_assoc, List.singleton_append, List.cons_append, List.nil_append]; refine getE (i := 3) rfl ?_ rfl; simp; done) | (simp [*]; done)) (hl : off + new.length ≤ cs.length := by first | exact Nat.le_of_ble_eq_true rfl | (simp only [List.length_map, List.length_cons, List.length_nil]; omega) | omega | (simp; done) | (simp; omega)) (hH : H.set b (.cells (splice cs off new) true) = H' := by first | exact setE0 rfl rfl | (simp only [List.append_assoc, List.singleton_append, List.cons_append, List.nil_append]; refine setE (i := 0) rfl ?_; simp; done) | (simp only [List.append_assoc, List.singleton_append, List.cons_append, List.nil_append]; refine setE (i := 1) rfl ?_; simp; done) | (simp only [List.append_assoc, List.singleton_append, List.cons_append, List.nil_append]; refine setE (i := 2) rfl ?_; simp; done) | (simp only [List.append_assoc, List.singleton_append, List.cons_append, List.nil_append]; refine setE (i := 3) rfl ?_; simp; done) | (refine setB rfl ?_; simp; done) | exact set_app rfl | exact set_out (lt_of_get (by assumption)) | rfl) : vop T ρ.eval H op = some (.skip, H') := v_storeT ho hv ha hy hx hn h1 hb hl hH
theorem wS3n4 {T : TypeId → Option VTy} {H : VHeap} {op : Op} {ρ : Operand → VVal} {t e : TypeId} {x i : Operand} {y z : VTy} {k : IntKind} {n : Int} {p v : VVal} {es : Nat} (ho : op = .indexAddr t x i) (hx : ρ x = p) (hi : ρ i = .int k n) (hy : T t = some y) (hd : y.desc = .slice e) (hz : T e = some z) (hs : z.size = es) (h : IxOk p es n v := by first | exact .inl ⟨_, _, _, rfl, by first | assumption | omega | (simp [*]; done) | (simp at *; omega), rfl⟩ | exact .inr ⟨_, _, _, _, _, rfl, by first | assumption | omega | (simp [*]; done) | (simp at *; omega), rfl⟩) : vop T ρ H op = some (v, H) := v_ix ho hx hi hy hd hz hs h
theorem wS3n5 {T : TypeId → Option VTy} {H : VHeap} {op : Op} {ρ : Operand → VVal} {t : TypeId} {a : Operand} {y : VTy} {p v : VVal} (ho : op = .load t a) (ha : ρ a = p) (hy : T t = some y) (hd : isAggDesc y.desc = false) (h : LdOk H p v := by first | exact .inl ⟨_, _, rfl, by exact fgetN (α := Int) 0 (by omega)⟩ | exact .inr ⟨_, _, _, _, rfl, by first | exact get_app rfl rfl | exact get_out (by assumption) | exact getE0 rfl rfl | exact get_out (get_app rfl rfl) | exact get_app rfl (by assumption) | assumption | (simp only [List.append_assoc, List.singleton_append, List.cons_append, List.nil_append]; refine getE (i := 0) rfl ?_ rfl; simp; done) | (simp only [List.append_assoc, List.singleton_append, List.cons_append, List.nil_append]; refine getE (i := 1) rfl ?_ rfl; simp; done) | (simp only [List.append_assoc, List.singleton_append, List.cons_append, List.nil_append]; refine getE (i := 2) rfl ?_ rfl; simp; done) | (simp only [List.append_assoc, List.singleton_append, List.cons_append, List.nil_append]; refine getE (i := 3) rfl ?_ rfl; simp; done) | (simp [*]; done), by exact fgetN (α := Int) 0 (by omega)⟩) : vop T ρ H op = some (v, H) := v_ld ho ha hy hd h
theorem wS3n6 {T : TypeId → Option VTy} {H : VHeap} {op : Op} {ρ : Operand → VVal} {t e : TypeId} {x i : Operand} {y z : VTy} {k : IntKind} {n : Int} {p v : VVal} {es : Nat} (ho : op = .indexAddr t x i) (hx : ρ x = p) (hi : ρ i = .int k n) (hy : T t = some y) (hd : y.desc = .slice e) (hz : T e = some z) (hs : z.size = es) (h : IxOk p es n v := by first | exact .inl ⟨_, _, _, rfl, by omega, rfl⟩ | exact .inr ⟨_, _, _, _, _, rfl, by omega, rfl⟩) : vop T ρ H op = some (v, H) := v_ix ho hx hi hy hd hz hs h
theorem wS3n7 {T : TypeId → Option VTy} {H : VHeap} {op : Op} {ρ : Operand → VVal} {t : TypeId} {a : Operand} {y : VTy} {p : VVal} {n : Nat} {vs : List VVal} (ho : op = .load t a) (ha : ρ a = p) (hy : T t = some y) (hd : isAggDesc y.desc = true) (hn : y.size = n) (h : LdOkA H p n vs := by first | exact .inl ⟨_, _, rfl, by first | rfl | assumption | exact fget (α := BitVec 64) 0 (by omega) | exact fget (α := Int) 0 (by omega) | exact fget0 (α := BitVec 64) 0 (by omega) | exact fget0 (α := Int) 0 (by omega) | exact fget (α := Bool) false (by omega) | exact fget0 (α := Bool) false (by omega) | (simp [*]; done)⟩ | exact .inr ⟨_, _, _, _, rfl, by first | exact get_app rfl rfl | exact get_out (by assumption) | exact getE0 rfl rfl | exact get_out (get_app rfl rfl) | exact get_app rfl (by assumption) | assumption | (simp only [List.append_assoc, List.singleton_append, List.cons_append, List.nil_append]; refine getE (i := 0) rfl ?_ rfl; simp; done) | (simp only [List.append_assoc, List.singleton_append, List.cons_append, List.nil_append]; refine getE (i := 1) rfl ?_ rfl; simp; done) | (simp only [List.append_assoc, List.singleton_append, List.cons_append, List.nil_append]; refine getE (i := 2) rfl ?_ rfl; simp; done) | (simp only [List.append_assoc, List.singleton_append, List.cons_append, List.nil_append]; refine getE (i := 3) rfl ?_ rfl; simp; done) | (simp [*]; done), by first | rfl | assumption | exact fget (α := BitVec 64) 0 (by omega) | exact fget (α := Int) 0 (by omega) | exact fget0 (α := BitVec 64) 0 (by omega) | exact fget0 (α := Int) 0 (by omega) | exact fget (α := Bool) false (by omega) | exact fget0 (α := Bool) false (by omega) | (simp [*]; done)⟩) : vop T ρ H op = some (.agg vs, H) := v_ldA ho ha hy hd hn h

/-! labels counted -/
abbrev lbK (r : Rul) (l : List Int) (k : Nat) : List Int := lbls (r.steps.take k) l
abbrev lfK (r : Rul) (l : List Int) (k : Nat) : Nat := lft (r.steps.take k) l
theorem lbK_lt {r : Rul} {l : List Int} {k : Nat} (hk : k < r.steps.length) (h : r.steps.getD k 0 < l.length) : lbK r l (k + 1) = lbK r l k ++ [l.getD (r.steps.getD k 0).toNat 0] ∧ lfK r l (k + 1) = lfK r l k := by
  unfold lbK lfK; rw [take_at (d := 0) hk]; exact lbls_lt h
theorem lbK_ge {r : Rul} {l : List Int} {k : Nat} (hk : k < r.steps.length) (h : ¬ r.steps.getD k 0 < l.length) : lbK r l (k + 1) = lbK r l k ∧ lfK r l (k + 1) = lfK r l k + 1 := by
  unfold lbK lfK; rw [take_at (d := 0) hk]; exact lbls_ge h
theorem lbK_len {r : Rul} {l : List Int} {k : Nat} (hk : k ≤ r.steps.length) : (lbK r l k).length + lfK r l k = k := by
  unfold lbK lfK; rw [lbls_len, List.length_take]; omega
theorem lbK_all {r : Rul} {l : List Int} {k : Nat} (hk : r.steps.length ≤ k) : lbK r l k = lbls r.steps l ∧ lfK r l k = lft r.steps l := by
  unfold lbK lfK; rw [List.take_of_length_le hk]; exact ⟨rfl, rfl⟩
theorem max_oft {L : List Int} {v : Int} : (if (((L ++ [v]).count v : Nat) : Int) > ((oft L : Nat) : Int) then (((L ++ [v]).count v : Nat) : Int) else ((oft L : Nat) : Int)) = ((oft (L ++ [v]) : Nat) : Int) := by
  rw [oft_app, show (L ++ [v]).count v = L.count v + 1 by simp]
  split <;> omega
theorem rck_of {n : Int} {r : Rul} (h : rck n r = true) : (0 ≤ n ∧ n ≤ 12) ∧ rise n r.steps = true ∧ knd r = true := by
  unfold rck at h; rw [Bool.and_eq_true, Bool.and_eq_true, decide_eq_true_eq] at h; exact h
theorem rck_kind {n : Int} {r : Rul} (h : rck n r = true) : 1 ≤ r.kind ∧ r.kind ≤ 5 := by
  by_cases hk : 1 ≤ r.kind ∧ r.kind ≤ 5
  · exact hk
  · have := (rck_of h).2.2; rw [knd_d hk] at this; cases this
theorem rck_pos {n : Int} {r : Rul} (h : rck n r = true) : ∀ s, s ∈ r.steps → 0 ≤ s := fun s hs => by
  have := riseA_mem _ _ (rck_of h).2.1 s hs; omega
theorem rck_lt {n : Int} {r : Rul} (h : rck n r = true) : ∀ s, s ∈ r.steps → s < n := fun s hs => (riseA_mem _ _ (rck_of h).2.1 s hs).2
theorem rck_len {n : Int} {r : Rul} (h : rck n r = true) : r.steps.length ≤ 12 := by
  obtain ⟨h1, h2, _⟩ := rck_of h
  rcases riseA_len _ _ h2 with e | e
  · rw [e]; exact Nat.zero_le _
  · omega
theorem rcE_eq {n : Int} {r : Rul} : rcE n r = 0 ↔ rck n r = true := by
  constructor
  · intro h
    by_cases hb : rck n r = true
    · exact hb
    · unfold rcE at h; rw [if_neg hb] at h; omega
  · exact rcE_0

theorem kp_1 {k : Int} {st l : List Int} : kpL (1, k, st, ()) l = decide ((oft (lbls st l) : Int) ≤ 1) := by
  show kp (1, k, st, ()) (lbls st l) (lft st l) = _
  simp only [kp, Rul.kind, Rul.k]
  simp; omega

theorem kp_2 {k : Int} {st l : List Int} : kpL (2, k, st, ()) l = decide ((uq (lbls st l) : Int) ≤ 1) := by
  show kp (2, k, st, ()) (lbls st l) (lft st l) = _
  simp only [kp, Rul.kind, Rul.k]
  simp; omega

theorem kp_3 {k : Int} {st l : List Int} : kpL (3, k, st, ()) l = decide ((oft (lbls st l) : Int) ≤ k) := by
  show kp (3, k, st, ()) (lbls st l) (lft st l) = _
  simp only [kp, Rul.kind, Rul.k]
  simp

theorem kp_4 {k : Int} {st l : List Int} : kpL (4, k, st, ()) l = decide ((uq (lbls st l) : Int) ≤ k) := by
  show kp (4, k, st, ()) (lbls st l) (lft st l) = _
  simp only [kp, Rul.kind, Rul.k]
  simp

theorem kp_5 {k : Int} {st l : List Int} : kpL (5, k, st, ()) l = decide (k ≤ (uq (lbls st l) : Int) + (lft st l : Nat)) := by
  show kp (5, k, st, ()) (lbls st l) (lft st l) = _
  simp only [kp, Rul.kind, Rul.k]
  simp

theorem capart_spec {x : SW} (H : VHeap) (m u lf k : Int)  : F (psys x) 70 [.agg [iI m, iI u, iI lf], iI k] H fun v G => v = .bool (decide (m ≤ 1)) ∧ G = H := by
 refine F_body Try.func70 rfl uS3n8 rfl ?_
 refine B_seq (B_region ?_)
 refine Lo uS3n8 (v_boxT rfl rfl rfl) ?_
 refine Lo uS3n8 (v_const (VVal.bool false) (.inr rfl) rfl) ?_
 refine L_nil (K_seq (B_seq (B_region ?_)))
 refine Lo uS3n8 (rfl) ?_
 refine Lo uS3n8 (wS3n0 rfl rfl rfl rfl) ?_
 refine Lo uS3n8 (rfl) ?_
 refine Lo uS3n8 (v_move (.inr rfl) rfl) ?_
 refine L_nil (K_seq (B_ret ?_))
 refine wS3n1 (.inr rfl) (vres_tmp rfl rfl) ?_
 exact ⟨rfl, rfl⟩

theorem csame_spec {x : SW} (H : VHeap) (m u lf k : Int)  : F (psys x) 71 [.agg [iI m, iI u, iI lf], iI k] H fun v G => v = .bool (decide (u ≤ 1)) ∧ G = H := by
 refine F_body Try.func71 rfl uS3n8 rfl ?_
 refine B_seq (B_region ?_)
 refine Lo uS3n8 (v_boxT rfl rfl rfl) ?_
 refine Lo uS3n8 (v_const (VVal.bool false) (.inr rfl) rfl) ?_
 refine L_nil (K_seq (B_seq (B_region ?_)))
 refine Lo uS3n8 (rfl) ?_
 refine Lo uS3n8 (wS3n0 rfl rfl rfl rfl) ?_
 refine Lo uS3n8 (rfl) ?_
 refine Lo uS3n8 (v_move (.inr rfl) rfl) ?_
 refine L_nil (K_seq (B_ret ?_))
 refine wS3n1 (.inr rfl) (vres_tmp rfl rfl) ?_
 exact ⟨rfl, rfl⟩

theorem catMost_spec {x : SW} (H : VHeap) (m u lf k : Int)  : F (psys x) 72 [.agg [iI m, iI u, iI lf], iI k] H fun v G => v = .bool (decide (m ≤ k)) ∧ G = H := by
 refine F_body Try.func72 rfl uS3n9 rfl ?_
 refine B_seq (B_region ?_)
 refine Lo uS3n9 (v_boxT rfl rfl rfl) ?_
 refine Lo uS3n9 (v_const (VVal.bool false) (.inr rfl) rfl) ?_
 refine L_nil (K_seq (B_seq (B_region ?_)))
 refine Lo uS3n9 (rfl) ?_
 refine Lo uS3n9 (wS3n0 rfl rfl rfl rfl) ?_
 refine Lo uS3n9 (v_move (.inl rfl) rfl) ?_
 refine Lo uS3n9 (rfl) ?_
 refine Lo uS3n9 (v_move (.inr rfl) rfl) ?_
 refine L_nil (K_seq (B_ret ?_))
 refine wS3n1 (.inr rfl) (vres_tmp rfl rfl) ?_
 exact ⟨rfl, rfl⟩

theorem cfew_spec {x : SW} (H : VHeap) (m u lf k : Int)  : F (psys x) 73 [.agg [iI m, iI u, iI lf], iI k] H fun v G => v = .bool (decide (u ≤ k)) ∧ G = H := by
 refine F_body Try.func73 rfl uS3n9 rfl ?_
 refine B_seq (B_region ?_)
 refine Lo uS3n9 (v_boxT rfl rfl rfl) ?_
 refine Lo uS3n9 (v_const (VVal.bool false) (.inr rfl) rfl) ?_
 refine L_nil (K_seq (B_seq (B_region ?_)))
 refine Lo uS3n9 (rfl) ?_
 refine Lo uS3n9 (wS3n0 rfl rfl rfl rfl) ?_
 refine Lo uS3n9 (v_move (.inl rfl) rfl) ?_
 refine Lo uS3n9 (rfl) ?_
 refine Lo uS3n9 (v_move (.inr rfl) rfl) ?_
 refine L_nil (K_seq (B_ret ?_))
 refine wS3n1 (.inr rfl) (vres_tmp rfl rfl) ?_
 exact ⟨rfl, rfl⟩

theorem cmany_spec {x : SW} (H : VHeap) (m u lf k : Int) (hb : 0 ≤ u ∧ u ≤ 1000000 ∧ 0 ≤ lf ∧ lf ≤ 1000000) : F (psys x) 74 [.agg [iI m, iI u, iI lf], iI k] H fun v G => v = .bool (decide (k ≤ u + lf)) ∧ G = H := by
 refine F_body Try.func74 rfl uS3n12 rfl ?_
 refine B_seq (B_region ?_)
 refine Lo uS3n12 (v_boxT rfl rfl rfl) ?_
 refine Lo uS3n12 (v_const (VVal.bool false) (.inr rfl) rfl) ?_
 refine L_nil (K_seq (B_seq (B_region ?_)))
 refine Lo uS3n12 (rfl) ?_
 refine Lo uS3n12 (wS3n0 rfl rfl rfl rfl) ?_
 refine Lo uS3n12 (rfl) ?_
 refine Lo uS3n12 (wS3n0 rfl rfl rfl rfl) ?_
 refine Lo uS3n12 (wS3n2 rfl rfl rfl) ?_
 refine Lo uS3n12 (v_move (.inl rfl) rfl) ?_
 refine Lo uS3n12 (rfl) ?_
 refine Lo uS3n12 (v_move (.inr rfl) rfl) ?_
 refine L_nil (K_seq (B_ret ?_))
 refine wS3n1 (.inr rfl) (vres_tmp rfl rfl) ?_
 exact ⟨rfl, rfl⟩

theorem counted_spec {x : SW} (H : VHeap) (r : Rul) (l : List Int) (hs : ∀ s, s ∈ r.steps → 0 ≤ s) (hl : r.steps.length ≤ 1000000) : F (psys x) 75 [.agg (rlB r), fzI l] H fun v G => v = .agg [iI (oft (lbls r.steps l) : Nat), iI (uq (lbls r.steps l) : Nat), iI (lft r.steps l : Nat)] ∧ G = H := by
 refine F_body Try.func75 rfl uS3n48 rfl ?_
 refine B_seq (B_region ?_)
 refine Lo uS3n48 (v_boxT rfl rfl rfl) ?_
 refine Lo uS3n48 (v_alloc rfl rfl) ?_
 refine L_nil (K_seq (B_seq (B_region ?_)))
 refine Lo uS3n48 (rfl) ?_
 refine Lo uS3n48 (v_map rfl) ?_
 refine Lo uS3n48 (v_alloc rfl rfl) ?_
 refine Lo uS3n48 (wS3n3 rfl rfl rfl rfl rfl rfl rfl) ?_
 refine Lo uS3n48 (v_move (.inr rfl) rfl) ?_
 refine L_nil (K_seq (B_seq (B_seq (B_region ?_))))
 refine Lo uS3n48 (rfl) ?_
 refine Lo uS3n48 (wS3n0 rfl rfl rfl rfl) ?_
 refine Lo uS3n48 (rfl) ?_
 refine Lo uS3n48 (v_const (VVal.int .i64 0) (.inl rfl) rfl) ?_
 refine L_nil (K_seq (B_block ?_))
 refine B_clear (mk 48 281474976681869) (env' := uS3n48) rfl ?_
 refine B_loopE (fun (k : Nat) => r.steps.length - k) (fun (k : Nat) => [(14, iI (k : Nat))]) (fun (k : Nat) G => (k ≤ r.steps.length) ∧ G = H ++ [.cells (rlB r) true, .cells [iI 0, iI 0, iI 0] true, .map (cnM (lbK r l k)), .cells [iI (oft (lbK r l k) : Nat), iI 0, iI (lfK r l k : Nat)] true]) 0 rfl ?_ ?_
 ·refine ⟨?_, rfl⟩
  exact Nat.zero_le _
 rintro k _ ⟨hk, rfl⟩
 refine B_env (env' := uS3n48) rfl ?_
 refine B_seq (B_region ?_)
 refine Lo uS3n48 (rfl) ?_
 refine L_nil (K_seq (B_seq ?_))
 refine B_cond _ rfl (fun hc1 => ?_) (fun hc1 => ?_)
 ·try simp only [qB, qN] at hc1
  refine B_skip (K_seq (B_seq (B_block (B_seq (B_region ?_)))))
  refine Lo uS3n48 (wS3n4 rfl rfl rfl rfl rfl rfl rfl) ?_
  refine Lo uS3n48 (wS3n5 rfl rfl rfl rfl) ?_
  refine Lo uS3n48 (v_move (.inr rfl) rfl) ?_
  refine L_nil (K_seq (B_seq (B_seq (B_region ?_))))
  refine Lo uS3n48 (v_move (.inl rfl) rfl) ?_
  refine Lo uS3n48 (v_move (.inl rfl) rfl) ?_
  refine Lo uS3n48 (rfl) ?_
  refine Lo uS3n48 (rfl) ?_
  refine L_nil (K_seq ?_)
  refine B_cond _ rfl (fun hc2 => ?_) (fun hc2 => ?_)
  ·try simp only [qB, qN] at hc2
   refine B_seq ?_
   have hlk := lbK_len (l := l) hk
   have hE := lbK_ge (r := r) (l := l) (k := k) (by omega) (by omega)
   refine B_region ?_
   refine Lo uS3n48 (rfl) ?_
   refine Lo uS3n48 (wS3n0 rfl rfl rfl rfl) ?_
   refine Lo uS3n48 (wS3n2 rfl rfl rfl) ?_
   refine Lo uS3n48 (rfl) ?_
   refine Lo uS3n48 (wS3n3 rfl rfl rfl rfl rfl rfl rfl) ?_
   refine L_nil (K_seq (B_exit (K_seqX (K_blkX (K_seq (B_region ?_))))))
   refine Lo uS3n48 (wS3n2 rfl rfl rfl) ?_
   refine Lo uS3n48 (v_move (.inl rfl) rfl) ?_
   refine L_nil ?_
   refine K_loop (mk 48 281474976681869) (env' := uS3n48) rfl ⟨k + 1, ?_, rfl, ?_⟩
   ·first | omega | (simp only []; omega)
   ·exact ⟨by omega, by rw [hE.1, hE.2]; rfl⟩
  ·try simp only [qB, qN] at hc2
   refine B_skip (K_seq (B_seq ?_))
   have hlk := lbK_len (l := l) hk
   have hpos : 0 ≤ r.steps.getD k 0 := hs _ (mem_getI (by omega))
   have hlt : r.steps.getD k 0 < l.length := by omega
   have hE := lbK_lt (r := r) (l := l) (k := k) (by omega) hlt
   have hcn : (lbK r l k).count (l.getD (r.steps.getD k 0).toNat 0) ≤ (lbK r l k).length := List.count_le_length
   refine B_region ?_
   refine Lo uS3n48 (v_move (.inl rfl) rfl) ?_
   refine Lo uS3n48 (v_move (.inl rfl) rfl) ?_
   refine Lo uS3n48 (v_move (.inl rfl) rfl) ?_
   refine Lo uS3n48 (wS3n6 rfl rfl rfl rfl rfl rfl rfl) ?_
   refine Lo uS3n48 (wS3n0 rfl rfl rfl rfl) ?_
   refine Lo uS3n48 (v_lookI rfl rfl rfl rfl rfl rfl rfl rfl rfl rfl (get_app rfl rfl) cn_get cn_get') ?_
   refine Lo uS3n48 (wS3n2 rfl rfl rfl) ?_
   refine Lo uS3n48 (v_mupdI rfl rfl rfl rfl rfl rfl rfl rfl (get_app rfl rfl) cn_get ((congrArg (fun m => List.set _ _ (VBlk.map m)) cn_put).trans (set_app rfl))) ?_
   refine L_nil (K_seq ?_)
   refine B_draw [0, 1, 2, 3, 4, 5, 6, 7, 8, 9, 10] #[0, 1, 0, 0, 0, 24, 56, 124, 255, 511, 1023] (by kernel_rfl) (by kernel_rfl) (by kernel_rfl) ?_
   refine Oo uS3n48 .calm rfl (rfl) ?_
   refine Oo uS3n48 .look rfl (wS3n0 rfl rfl rfl rfl) ?_
   refine Oo uS3n48 .calm rfl (v_move (.inl rfl) rfl) ?_
   refine Oo uS3n48 .calm rfl (v_move (.inl rfl) rfl) ?_
   refine Oo uS3n48 .calm rfl (v_move (.inl rfl) rfl) ?_
   refine Oo uS3n48 .calm rfl (wS3n6 rfl rfl rfl rfl rfl rfl rfl) ?_
   refine Oo uS3n48 .look rfl (wS3n0 rfl rfl rfl rfl) ?_
   refine Oo uS3n48 .look rfl (v_lookI rfl rfl rfl rfl rfl rfl rfl rfl rfl rfl (get_app rfl rfl) cn_get cn_get') ?_
   refine Oo uS3n48 .calm rfl (v_val (u := iI (oft (lbK r l (k + 1)) : Nat)) rfl (by rw [hE.1]; exact congrArg iI max_oft)) ?_
   refine Oo uS3n48 .calm rfl (rfl) ?_
   refine Oo uS3n48 .turn rfl (wS3n3 rfl rfl rfl rfl rfl rfl rfl) ?_
   refine O_nil [] (by kernel_rfl) (trivial) ?_
   refine K_blk (K_seq (B_region ?_))
   refine Lo uS3n48 (wS3n2 rfl rfl rfl) ?_
   refine Lo uS3n48 (v_move (.inl rfl) rfl) ?_
   refine L_nil ?_
   refine K_loop (mk 48 281474976681869) (env' := uS3n48) rfl ⟨k + 1, ?_, rfl, ?_⟩
   ·first | omega | (simp only []; omega)
   ·exact ⟨by omega, by rw [hE.1, hE.2]; rfl⟩
 ·try simp only [qB, qN] at hc1
  refine B_exit (K_seqX (K_loopX (K_blkX (K_seq (B_seq (B_region ?_))))))
  refine Lo uS3n48 (v_move (.inl rfl) rfl) ?_
  refine Lo uS3n48 (v_lenM rfl rfl rfl rfl (get_app rfl rfl)) ?_
  refine Lo uS3n48 (rfl) ?_
  refine Lo uS3n48 (wS3n3 rfl rfl rfl rfl rfl rfl rfl) ?_
  refine L_nil (K_seq (B_seq (B_region ?_)))
  refine Lo uS3n48 (wS3n7 rfl rfl rfl rfl rfl) ?_
  refine Lo uS3n48 (wS3n3 rfl rfl rfl rfl rfl rfl rfl) ?_
  refine L_nil (K_seq (B_ret ?_))
  refine wS3n1 (.inr rfl) (vres_cellA rfl rfl rfl rfl (by first | exact get_app rfl rfl | exact get_out (by assumption) | exact getE0 rfl rfl | exact get_out (get_app rfl rfl) | exact get_app rfl (by assumption) | assumption | (simp only [List.append_assoc, List.singleton_append, List.cons_append, List.nil_append]; refine getE (i := 0) rfl ?_ rfl; simp; done) | (simp only [List.append_assoc, List.singleton_append, List.cons_append, List.nil_append]; refine getE (i := 1) rfl ?_ rfl; simp; done) | (simp only [List.append_assoc, List.singleton_append, List.cons_append, List.nil_append]; refine getE (i := 2) rfl ?_ rfl; simp; done) | (simp only [List.append_assoc, List.singleton_append, List.cons_append, List.nil_append]; refine getE (i := 3) rfl ?_ rfl; simp; done) | (simp [*]; done)) (by first | rfl | assumption | exact fget (α := BitVec 64) 0 (by omega) | exact fget (α := Int) 0 (by omega) | exact fget0 (α := BitVec 64) 0 (by omega) | exact fget0 (α := Int) 0 (by omega) | exact fget (α := Bool) false (by omega) | exact fget0 (α := Bool) false (by omega) | (simp [*]; done))) ?_
  have hA := lbK_all (r := r) (l := l) (k := k) (by omega)
  rw [hA.1, hA.2, cnM_len]
  exact ⟨rfl, rfl⟩

theorem cal_n {st l : List Int} (h : st.length ≤ 1000000) : (0 ≤ ((uq (lbls st l) : Nat) : Int) ∧ ((uq (lbls st l) : Nat) : Int) ≤ 1000000 ∧ 0 ≤ ((lft st l : Nat) : Int) ∧ ((lft st l : Nat) : Int) ≤ 1000000) := by
  have h1 := lbls_len st l; have h2 := uq_le (lbls st l); omega

theorem keeps1 {x : SW} (H : VHeap) (k : Int) (st l : List Int) (hs : ∀ s, s ∈ st → 0 ≤ s) (hl : st.length ≤ 1000000) : F (psys x) 67 [.agg [iI 1, iI k, fzI st], fzI l] H fun v G => v = .bool (kpL (1, k, st, ()) l) ∧ G = H := by
 refine F_body Try.func67 rfl uS3n17 rfl ?_
 refine B_seq (B_region ?_)
 refine Lo uS3n17 (v_boxT rfl rfl rfl) ?_
 refine Lo uS3n17 (v_const (VVal.bool false) (.inr rfl) rfl) ?_
 refine L_nil (K_seq (B_seq (B_region ?_)))
 refine Lo uS3n17 (v_val (u := .agg [.nilFunc, .func 70 [] [], .func 71 [] [], .func 72 [] [], .func 73 [] [], .func 74 [] []]) rfl rfl) ?_
 refine Lo uS3n17 (v_alloc rfl rfl) ?_
 refine Lo uS3n17 (wS3n3 rfl rfl rfl rfl rfl rfl rfl) ?_
 refine L_nil (K_seq (B_seq ?_))
 refine B_draw [0, 1, 2, 3, 4, 5, 7, 8, 6, 9, 10] #[0, 1, 3, 7, 0, 0, 48, 0, 128, 511, 1023] (by kernel_rfl) (by kernel_rfl) (by kernel_rfl) ?_
 refine Oo uS3n17 .calm rfl (rfl) ?_
 refine O_opI (env' := uS3n17) (x := .look _ _) rfl rfl rfl (wS3n0 rfl rfl rfl rfl) rfl rfl rfl ?_
 refine Oo uS3n17 .calm rfl (by first | exact v_idxFA rfl rfl rfl rfl rfl rfl (by first | assumption | omega | (simp [*]; done) | (simp at *; omega)) | exact v_idxA rfl rfl rfl rfl rfl rfl (by first | assumption | omega | (simp [*]; done) | (simp at *; omega))) ?_
 refine O_opI (env' := uS3n17) (x := .look _ _) rfl rfl rfl (wS3n0 rfl rfl rfl rfl) rfl rfl rfl ?_
 refine Oo uS3n17 .look rfl (wS3n7 rfl rfl rfl rfl rfl) ?_
 refine Oo uS3n17 .calm rfl (v_move (.inl rfl) rfl) ?_
 refine Oo uS3n17 .calm rfl (rfl) ?_
 refine O_opI (env' := uS3n17) (x := .look _ _) rfl rfl rfl (wS3n0 rfl rfl rfl rfl) rfl rfl rfl ?_
 refine O_call (env' := uS3n17) rfl rfl rfl rfl rfl (by exact counted_spec _ (1, k, st, ()) _ hs hl) (by first | exact Nat.le_refl _ | simp) rfl rfl ?_
 refine O_call (env' := uS3n17) rfl rfl rfl rfl rfl (by exact capart_spec _ _ _ _ _) (by first | exact Nat.le_refl _ | simp) rfl rfl ?_
 refine Oo uS3n17 .calm rfl (v_move (.inr rfl) rfl) ?_
 refine O_nil [_, _, _] (by rfl) (And.intro (And.intro (wS3n0 rfl rfl rfl rfl) (wS3n0 rfl rfl rfl rfl)) (And.intro (And.intro (wS3n0 rfl rfl rfl rfl) (wS3n0 rfl rfl rfl rfl)) (And.intro (And.intro (wS3n0 rfl rfl rfl rfl) (wS3n0 rfl rfl rfl rfl)) trivial))) ?_
 refine K_seq (B_ret ?_)
 refine wS3n1 (.inr rfl) (vres_tmp rfl rfl) ?_
 exact ⟨by rw [kp_1], rfl⟩

theorem keeps2 {x : SW} (H : VHeap) (k : Int) (st l : List Int) (hs : ∀ s, s ∈ st → 0 ≤ s) (hl : st.length ≤ 1000000) : F (psys x) 67 [.agg [iI 2, iI k, fzI st], fzI l] H fun v G => v = .bool (kpL (2, k, st, ()) l) ∧ G = H := by
 refine F_body Try.func67 rfl uS3n17 rfl ?_
 refine B_seq (B_region ?_)
 refine Lo uS3n17 (v_boxT rfl rfl rfl) ?_
 refine Lo uS3n17 (v_const (VVal.bool false) (.inr rfl) rfl) ?_
 refine L_nil (K_seq (B_seq (B_region ?_)))
 refine Lo uS3n17 (v_val (u := .agg [.nilFunc, .func 70 [] [], .func 71 [] [], .func 72 [] [], .func 73 [] [], .func 74 [] []]) rfl rfl) ?_
 refine Lo uS3n17 (v_alloc rfl rfl) ?_
 refine Lo uS3n17 (wS3n3 rfl rfl rfl rfl rfl rfl rfl) ?_
 refine L_nil (K_seq (B_seq ?_))
 refine B_draw [0, 1, 2, 3, 4, 5, 7, 8, 6, 9, 10] #[0, 1, 3, 7, 0, 0, 48, 0, 128, 511, 1023] (by kernel_rfl) (by kernel_rfl) (by kernel_rfl) ?_
 refine Oo uS3n17 .calm rfl (rfl) ?_
 refine O_opI (env' := uS3n17) (x := .look _ _) rfl rfl rfl (wS3n0 rfl rfl rfl rfl) rfl rfl rfl ?_
 refine Oo uS3n17 .calm rfl (by first | exact v_idxFA rfl rfl rfl rfl rfl rfl (by first | assumption | omega | (simp [*]; done) | (simp at *; omega)) | exact v_idxA rfl rfl rfl rfl rfl rfl (by first | assumption | omega | (simp [*]; done) | (simp at *; omega))) ?_
 refine O_opI (env' := uS3n17) (x := .look _ _) rfl rfl rfl (wS3n0 rfl rfl rfl rfl) rfl rfl rfl ?_
 refine Oo uS3n17 .look rfl (wS3n7 rfl rfl rfl rfl rfl) ?_
 refine Oo uS3n17 .calm rfl (v_move (.inl rfl) rfl) ?_
 refine Oo uS3n17 .calm rfl (rfl) ?_
 refine O_opI (env' := uS3n17) (x := .look _ _) rfl rfl rfl (wS3n0 rfl rfl rfl rfl) rfl rfl rfl ?_
 refine O_call (env' := uS3n17) rfl rfl rfl rfl rfl (by exact counted_spec _ (2, k, st, ()) _ hs hl) (by first | exact Nat.le_refl _ | simp) rfl rfl ?_
 refine O_call (env' := uS3n17) rfl rfl rfl rfl rfl (by exact csame_spec _ _ _ _ _) (by first | exact Nat.le_refl _ | simp) rfl rfl ?_
 refine Oo uS3n17 .calm rfl (v_move (.inr rfl) rfl) ?_
 refine O_nil [_, _, _] (by rfl) (And.intro (And.intro (wS3n0 rfl rfl rfl rfl) (wS3n0 rfl rfl rfl rfl)) (And.intro (And.intro (wS3n0 rfl rfl rfl rfl) (wS3n0 rfl rfl rfl rfl)) (And.intro (And.intro (wS3n0 rfl rfl rfl rfl) (wS3n0 rfl rfl rfl rfl)) trivial))) ?_
 refine K_seq (B_ret ?_)
 refine wS3n1 (.inr rfl) (vres_tmp rfl rfl) ?_
 exact ⟨by rw [kp_2], rfl⟩

theorem keeps3 {x : SW} (H : VHeap) (k : Int) (st l : List Int) (hs : ∀ s, s ∈ st → 0 ≤ s) (hl : st.length ≤ 1000000) : F (psys x) 67 [.agg [iI 3, iI k, fzI st], fzI l] H fun v G => v = .bool (kpL (3, k, st, ()) l) ∧ G = H := by
 refine F_body Try.func67 rfl uS3n17 rfl ?_
 refine B_seq (B_region ?_)
 refine Lo uS3n17 (v_boxT rfl rfl rfl) ?_
 refine Lo uS3n17 (v_const (VVal.bool false) (.inr rfl) rfl) ?_
 refine L_nil (K_seq (B_seq (B_region ?_)))
 refine Lo uS3n17 (v_val (u := .agg [.nilFunc, .func 70 [] [], .func 71 [] [], .func 72 [] [], .func 73 [] [], .func 74 [] []]) rfl rfl) ?_
 refine Lo uS3n17 (v_alloc rfl rfl) ?_
 refine Lo uS3n17 (wS3n3 rfl rfl rfl rfl rfl rfl rfl) ?_
 refine L_nil (K_seq (B_seq ?_))
 refine B_draw [0, 1, 2, 3, 4, 5, 7, 8, 6, 9, 10] #[0, 1, 3, 7, 0, 0, 48, 0, 128, 511, 1023] (by kernel_rfl) (by kernel_rfl) (by kernel_rfl) ?_
 refine Oo uS3n17 .calm rfl (rfl) ?_
 refine O_opI (env' := uS3n17) (x := .look _ _) rfl rfl rfl (wS3n0 rfl rfl rfl rfl) rfl rfl rfl ?_
 refine Oo uS3n17 .calm rfl (by first | exact v_idxFA rfl rfl rfl rfl rfl rfl (by first | assumption | omega | (simp [*]; done) | (simp at *; omega)) | exact v_idxA rfl rfl rfl rfl rfl rfl (by first | assumption | omega | (simp [*]; done) | (simp at *; omega))) ?_
 refine O_opI (env' := uS3n17) (x := .look _ _) rfl rfl rfl (wS3n0 rfl rfl rfl rfl) rfl rfl rfl ?_
 refine Oo uS3n17 .look rfl (wS3n7 rfl rfl rfl rfl rfl) ?_
 refine Oo uS3n17 .calm rfl (v_move (.inl rfl) rfl) ?_
 refine Oo uS3n17 .calm rfl (rfl) ?_
 refine O_opI (env' := uS3n17) (x := .look _ _) rfl rfl rfl (wS3n0 rfl rfl rfl rfl) rfl rfl rfl ?_
 refine O_call (env' := uS3n17) rfl rfl rfl rfl rfl (by exact counted_spec _ (3, k, st, ()) _ hs hl) (by first | exact Nat.le_refl _ | simp) rfl rfl ?_
 refine O_call (env' := uS3n17) rfl rfl rfl rfl rfl (by exact catMost_spec _ _ _ _ _) (by first | exact Nat.le_refl _ | simp) rfl rfl ?_
 refine Oo uS3n17 .calm rfl (v_move (.inr rfl) rfl) ?_
 refine O_nil [_, _, _] (by rfl) (And.intro (And.intro (wS3n0 rfl rfl rfl rfl) (wS3n0 rfl rfl rfl rfl)) (And.intro (And.intro (wS3n0 rfl rfl rfl rfl) (wS3n0 rfl rfl rfl rfl)) (And.intro (And.intro (wS3n0 rfl rfl rfl rfl) (wS3n0 rfl rfl rfl rfl)) trivial))) ?_
 refine K_seq (B_ret ?_)
 refine wS3n1 (.inr rfl) (vres_tmp rfl rfl) ?_
 exact ⟨by rw [kp_3], rfl⟩

theorem keeps4 {x : SW} (H : VHeap) (k : Int) (st l : List Int) (hs : ∀ s, s ∈ st → 0 ≤ s) (hl : st.length ≤ 1000000) : F (psys x) 67 [.agg [iI 4, iI k, fzI st], fzI l] H fun v G => v = .bool (kpL (4, k, st, ()) l) ∧ G = H := by
 refine F_body Try.func67 rfl uS3n17 rfl ?_
 refine B_seq (B_region ?_)
 refine Lo uS3n17 (v_boxT rfl rfl rfl) ?_
 refine Lo uS3n17 (v_const (VVal.bool false) (.inr rfl) rfl) ?_
 refine L_nil (K_seq (B_seq (B_region ?_)))
 refine Lo uS3n17 (v_val (u := .agg [.nilFunc, .func 70 [] [], .func 71 [] [], .func 72 [] [], .func 73 [] [], .func 74 [] []]) rfl rfl) ?_
 refine Lo uS3n17 (v_alloc rfl rfl) ?_
 refine Lo uS3n17 (wS3n3 rfl rfl rfl rfl rfl rfl rfl) ?_
 refine L_nil (K_seq (B_seq ?_))
 refine B_draw [0, 1, 2, 3, 4, 5, 7, 8, 6, 9, 10] #[0, 1, 3, 7, 0, 0, 48, 0, 128, 511, 1023] (by kernel_rfl) (by kernel_rfl) (by kernel_rfl) ?_
 refine Oo uS3n17 .calm rfl (rfl) ?_
 refine O_opI (env' := uS3n17) (x := .look _ _) rfl rfl rfl (wS3n0 rfl rfl rfl rfl) rfl rfl rfl ?_
 refine Oo uS3n17 .calm rfl (by first | exact v_idxFA rfl rfl rfl rfl rfl rfl (by first | assumption | omega | (simp [*]; done) | (simp at *; omega)) | exact v_idxA rfl rfl rfl rfl rfl rfl (by first | assumption | omega | (simp [*]; done) | (simp at *; omega))) ?_
 refine O_opI (env' := uS3n17) (x := .look _ _) rfl rfl rfl (wS3n0 rfl rfl rfl rfl) rfl rfl rfl ?_
 refine Oo uS3n17 .look rfl (wS3n7 rfl rfl rfl rfl rfl) ?_
 refine Oo uS3n17 .calm rfl (v_move (.inl rfl) rfl) ?_
 refine Oo uS3n17 .calm rfl (rfl) ?_
 refine O_opI (env' := uS3n17) (x := .look _ _) rfl rfl rfl (wS3n0 rfl rfl rfl rfl) rfl rfl rfl ?_
 refine O_call (env' := uS3n17) rfl rfl rfl rfl rfl (by exact counted_spec _ (4, k, st, ()) _ hs hl) (by first | exact Nat.le_refl _ | simp) rfl rfl ?_
 refine O_call (env' := uS3n17) rfl rfl rfl rfl rfl (by exact cfew_spec _ _ _ _ _) (by first | exact Nat.le_refl _ | simp) rfl rfl ?_
 refine Oo uS3n17 .calm rfl (v_move (.inr rfl) rfl) ?_
 refine O_nil [_, _, _] (by rfl) (And.intro (And.intro (wS3n0 rfl rfl rfl rfl) (wS3n0 rfl rfl rfl rfl)) (And.intro (And.intro (wS3n0 rfl rfl rfl rfl) (wS3n0 rfl rfl rfl rfl)) (And.intro (And.intro (wS3n0 rfl rfl rfl rfl) (wS3n0 rfl rfl rfl rfl)) trivial))) ?_
 refine K_seq (B_ret ?_)
 refine wS3n1 (.inr rfl) (vres_tmp rfl rfl) ?_
 exact ⟨by rw [kp_4], rfl⟩

theorem keeps5 {x : SW} (H : VHeap) (k : Int) (st l : List Int) (hs : ∀ s, s ∈ st → 0 ≤ s) (hl : st.length ≤ 1000000) : F (psys x) 67 [.agg [iI 5, iI k, fzI st], fzI l] H fun v G => v = .bool (kpL (5, k, st, ()) l) ∧ G = H := by
 refine F_body Try.func67 rfl uS3n17 rfl ?_
 refine B_seq (B_region ?_)
 refine Lo uS3n17 (v_boxT rfl rfl rfl) ?_
 refine Lo uS3n17 (v_const (VVal.bool false) (.inr rfl) rfl) ?_
 refine L_nil (K_seq (B_seq (B_region ?_)))
 refine Lo uS3n17 (v_val (u := .agg [.nilFunc, .func 70 [] [], .func 71 [] [], .func 72 [] [], .func 73 [] [], .func 74 [] []]) rfl rfl) ?_
 refine Lo uS3n17 (v_alloc rfl rfl) ?_
 refine Lo uS3n17 (wS3n3 rfl rfl rfl rfl rfl rfl rfl) ?_
 refine L_nil (K_seq (B_seq ?_))
 refine B_draw [0, 1, 2, 3, 4, 5, 7, 8, 6, 9, 10] #[0, 1, 3, 7, 0, 0, 48, 0, 128, 511, 1023] (by kernel_rfl) (by kernel_rfl) (by kernel_rfl) ?_
 refine Oo uS3n17 .calm rfl (rfl) ?_
 refine O_opI (env' := uS3n17) (x := .look _ _) rfl rfl rfl (wS3n0 rfl rfl rfl rfl) rfl rfl rfl ?_
 refine Oo uS3n17 .calm rfl (by first | exact v_idxFA rfl rfl rfl rfl rfl rfl (by first | assumption | omega | (simp [*]; done) | (simp at *; omega)) | exact v_idxA rfl rfl rfl rfl rfl rfl (by first | assumption | omega | (simp [*]; done) | (simp at *; omega))) ?_
 refine O_opI (env' := uS3n17) (x := .look _ _) rfl rfl rfl (wS3n0 rfl rfl rfl rfl) rfl rfl rfl ?_
 refine Oo uS3n17 .look rfl (wS3n7 rfl rfl rfl rfl rfl) ?_
 refine Oo uS3n17 .calm rfl (v_move (.inl rfl) rfl) ?_
 refine Oo uS3n17 .calm rfl (rfl) ?_
 refine O_opI (env' := uS3n17) (x := .look _ _) rfl rfl rfl (wS3n0 rfl rfl rfl rfl) rfl rfl rfl ?_
 refine O_call (env' := uS3n17) rfl rfl rfl rfl rfl (by exact counted_spec _ (5, k, st, ()) _ hs hl) (by first | exact Nat.le_refl _ | simp) rfl rfl ?_
 refine O_call (env' := uS3n17) rfl rfl rfl rfl rfl (by exact cmany_spec _ _ _ _ _ (cal_n hl)) (by first | exact Nat.le_refl _ | simp) rfl rfl ?_
 refine Oo uS3n17 .calm rfl (v_move (.inr rfl) rfl) ?_
 refine O_nil [_, _, _] (by rfl) (And.intro (And.intro (wS3n0 rfl rfl rfl rfl) (wS3n0 rfl rfl rfl rfl)) (And.intro (And.intro (wS3n0 rfl rfl rfl rfl) (wS3n0 rfl rfl rfl rfl)) (And.intro (And.intro (wS3n0 rfl rfl rfl rfl) (wS3n0 rfl rfl rfl rfl)) trivial))) ?_
 refine K_seq (B_ret ?_)
 refine wS3n1 (.inr rfl) (vres_tmp rfl rfl) ?_
 exact ⟨by rw [kp_5], rfl⟩

theorem keeps_spec {x : SW} (H : VHeap) (r : Rul) (l : List Int) (hk : 1 ≤ r.kind ∧ r.kind ≤ 5) (hs : ∀ s, s ∈ r.steps → 0 ≤ s) (hl : r.steps.length ≤ 1000000) : F (psys x) 67 [.agg (rlB r), fzI l] H fun v G => v = .bool (kpL r l) ∧ G = H := by
  obtain ⟨kd, k, st, ⟨⟩⟩ := r
  simp only [Rul.kind] at hk
  have h5 : kd = 1 ∨ kd = 2 ∨ kd = 3 ∨ kd = 4 ∨ kd = 5 := by omega
  rcases h5 with rfl | rfl | rfl | rfl | rfl
  · exact keeps1 H k st l hs hl
  · exact keeps2 H k st l hs hl
  · exact keeps3 H k st l hs hl
  · exact keeps4 H k st l hs hl
  · exact keeps5 H k st l hs hl

theorem rHolds_spec {x : SW} (H : VHeap) (r : Rul) (l : List Int) (hl : r.steps.length ≤ 1000000) : F (psys x) 55 [.agg (rlB r), fzI l] H fun v G => v = .bool (hld r l) ∧ G = H := by
 refine F_body Try.func55 rfl uS3n15 rfl ?_
 refine B_seq (B_region ?_)
 refine Lo uS3n15 (v_boxT rfl rfl rfl) ?_
 refine Lo uS3n15 (v_const (VVal.bool false) (.inr rfl) rfl) ?_
 refine L_nil (K_seq (B_seq (B_region ?_)))
 refine Lo uS3n15 (v_move (.inl rfl) rfl) ?_
 refine Lo uS3n15 (rfl) ?_
 refine Lo uS3n15 (wS3n7 rfl rfl rfl rfl rfl) ?_
 refine L_call rfl rfl rfl (by exact rCheck_spec _ _ _ (by omega)) ?_
 rintro _ _ ⟨rfl, rfl⟩
 refine Le uS3n15 ?_
 refine Lo uS3n15 (rfl) ?_
 refine Lo uS3n15 (v_move (.inl rfl) rfl) ?_
 refine L_split 10 (env1 := uS3n15) (env2 := uS3n15) rfl rfl rfl (fun hg1 => ?_) (fun hg1 => ?_)
 ·try simp only [qB] at hg1
  have hck : rck l.length r = true := rcE_eq.1 hg1
  refine Lo uS3n15 (wS3n7 rfl rfl rfl rfl rfl) ?_
  refine Lo uS3n15 (v_move (.inl rfl) rfl) ?_
  refine L_call rfl rfl rfl (by exact keeps_spec _ _ _ (rck_kind hck) (rck_pos hck) (Nat.le_trans (rck_len hck) (by decide))) ?_
  rintro _ _ ⟨rfl, rfl⟩
  refine Le uS3n15 ?_
  refine Lo uS3n15 (v_pickT rfl rfl rfl) ?_
  refine Lo uS3n15 (v_move (.inr rfl) rfl) ?_
  refine L_nil (K_seq (B_ret ?_))
  refine wS3n1 (.inr rfl) (vres_tmp rfl rfl) ?_
  exact ⟨by unfold hld; rw [hck]; rfl, rfl⟩
 ·try simp only [qB] at hg1
  have hck : rck l.length r = false := bool_f fun e => hg1 (rcE_eq.2 e)
  refine Lf uS3n15 ?_
  refine Lf uS3n15 ?_
  refine Lf uS3n15 ?_
  refine Lo uS3n15 (v_pickFC (VVal.bool false) rfl rfl rfl) ?_
  refine Lo uS3n15 (v_move (.inr rfl) rfl) ?_
  refine L_nil (K_seq (B_ret ?_))
  refine wS3n1 (.inr rfl) (vres_tmp rfl rfl) ?_
  exact ⟨by unfold hld; rw [hck]; rfl, rfl⟩

theorem brk_yes {rs : List Rul} {l : List Int} {k : Nat} (hk : k < rs.length) (h : hld (rs.getD k r0) l = true) : brk (rs.take (k + 1)) l = brk (rs.take k) l := by
  rw [List.take_add_one, List.getElem?_eq_getElem hk]
  rw [List.getD_eq_getElem?_getD, List.getElem?_eq_getElem hk] at h
  simp only [Option.getD_some] at h
  show brk (rs.take k ++ [rs[k]]) l = _
  rw [brk_app, if_pos h, List.append_nil]
theorem brk_no {rs : List Rul} {l : List Int} {k : Nat} (hk : k < rs.length) (h : ¬ hld (rs.getD k r0) l = true) : brk (rs.take (k + 1)) l = brk (rs.take k) l ++ [(k : Int)] := by
  rw [List.take_add_one, List.getElem?_eq_getElem hk]
  rw [List.getD_eq_getElem?_getD, List.getElem?_eq_getElem hk] at h
  simp only [Option.getD_some] at h
  show brk (rs.take k ++ [rs[k]]) l = _
  rw [brk_app, if_neg h, List.length_take, Nat.min_eq_left (by omega)]
theorem brk_lenK {rs : List Rul} {l : List Int} {k : Nat} : (brk (rs.take k) l).length ≤ k := Nat.le_trans (brk_len _ _) (by rw [List.length_take]; omega)
theorem rul_mem {l : List Rul} {k : Nat} (h : k < l.length) : l.getD k r0 ∈ l := by
  rw [List.getD_eq_getElem?_getD, List.getElem?_eq_getElem h]; simp
end Go.Proofs.Ytbngdhlmggdaaaa.VT

set_option autoImplicit false
set_option linter.unusedVariables false
set_option linter.unusedSimpArgs false
set_option maxHeartbeats 4000000
set_option maxRecDepth 100000
namespace Go.Proofs.Ytbngdhlmggdaaaa.VT
open Go Go.V Go.RowKit

abbrev uS4n25 {a0 a1 a2 a3 a4 a5 a6 a7 a8 a9 a10 a11 a12 a13 a14 a15 a16 a17 a18 a19 a20 a21 a22 a23 a24 : VVal} : VEnv := a0 :: a1 :: a2 :: a3 :: a4 :: a5 :: a6 :: a7 :: a8 :: a9 :: a10 :: a11 :: a12 :: a13 :: a14 :: a15 :: a16 :: a17 :: a18 :: a19 :: a20 :: a21 :: a22 :: a23 :: a24 :: []

theorem wS4n0 {T : TypeId → Option VTy} {H : VHeap} {op : Op} {ρ : Operand → VVal} {t e : TypeId} {x i : Operand} {y z : VTy} {k : IntKind} {n : Int} {p v : VVal} {es : Nat} (ho : op = .indexAddr t x i) (hx : ρ x = p) (hi : ρ i = .int k n) (hy : T t = some y) (hd : y.desc = .slice e) (hz : T e = some z) (hs : z.size = es) (h : IxOk p es n v := by first | exact .inl ⟨_, _, _, rfl, by first | assumption | omega | (simp [*]; done) | (simp at *; omega), rfl⟩ | exact .inr ⟨_, _, _, _, _, rfl, by first | assumption | omega | (simp [*]; done) | (simp at *; omega), rfl⟩) : vop T ρ H op = some (v, H) := v_ix ho hx hi hy hd hz hs h
theorem wS4n1 {T : TypeId → Option VTy} {H : VHeap} {op : Op} {ρ : Operand → VVal} {t : TypeId} {a : Operand} {y : VTy} {p : VVal} {n : Nat} {vs : List VVal} (ho : op = .load t a) (ha : ρ a = p) (hy : T t = some y) (hd : isAggDesc y.desc = true) (hn : y.size = n) (h : LdOkA H p n vs := by first | exact .inl ⟨_, _, rfl, by first | rfl | assumption | exact rul_at (by omega)⟩ | exact .inr ⟨_, _, _, _, rfl, by first | exact get_app rfl rfl | exact get_out (by assumption) | exact getE0 rfl rfl | exact get_out (get_app rfl rfl) | exact get_app rfl (by assumption) | assumption | (simp only [List.append_assoc, List.singleton_append, List.cons_append, List.nil_append]; refine getE (i := 0) rfl ?_ rfl; simp; done) | (simp only [List.append_assoc, List.singleton_append, List.cons_append, List.nil_append]; refine getE (i := 1) rfl ?_ rfl; simp; done) | (simp only [List.append_assoc, List.singleton_append, List.cons_append, List.nil_append]; refine getE (i := 2) rfl ?_ rfl; simp; done) | (simp only [List.append_assoc, List.singleton_append, List.cons_append, List.nil_append]; refine getE (i := 3) rfl ?_ rfl; simp; done) | (simp [*]; done), by first | rfl | assumption | exact rul_at (by omega)⟩) : vop T ρ H op = some (.agg vs, H) := v_ldA ho ha hy hd hn h
theorem wS4n2 {T : TypeId → Option VTy} {H : VHeap} {op : Op} {ρ : VEnv} {H' : VHeap} {t : TypeId} {a : Operand} {i : Nat} {v : VVal} {y : VTy} {b off : Nat} {cs new : List VVal} (ho : op = .store t a (.tmp i)) (hv : ρ[i]? = some v) (ha : ρ.eval a = .ptr (some (b, off))) (hy : T t = some y) (hx : v.cells = some new) (hn : new.length = y.size) (h1 : new.all VVal.one = true) (hb : H[b]? = some (.cells cs true) := by first | exact get_app rfl rfl | exact get_out (by assumption) | exact getE0 rfl rfl | exact get_out (get_app rfl rfl) | exact get_app rfl (by assumption) | assumption | (simp only [List.append_assoc, List.singleton_append, List.cons_append, List.nil_append]; refine getE (i := 0) rfl ?_ rfl; simp; done) | (simp only [List.append_assoc, List.singleton_append, List.cons_append, List.nil_append]; refine getE (i := 1) rfl ?_ rfl; simp; done) | (simp only [List.append_assoc, List.singleton_append, List.cons_append, List.nil_append]; refine getE (i := 2) rfl ?_ rfl; simp; done) | (simp only [List.append_assoc, List.singleton_append, List.cons_append, List.nil_append]; refine getE (i := 3) rfl ?_ rfl; simp; done) | (simp [*]; done)) (hl : off + new.length ≤ cs.length := by first | exact Nat.le_of_ble_eq_true rfl | (simp only [List.length_map, List.length_cons, List.length_nil]; omega) | omega | (simp; done) | (simp; omega)) (hH : H.set b (.cells (splice cs off new) true) = H' := by first | exact setE0 rfl rfl | (simp only [List.append_assoc, List.singleton_append, List.cons_append, List.nil_append]; refine setE (i := 0) rfl ?_; simp; done) | (simp only [List.append_assoc, List.singleton_append, List.cons_append, List.nil_append]; refine setE (i := 1) rfl ?_; simp; done) | (simp only [List.append_assoc, List.singleton_append, List.cons_append, List.nil_append]; refine setE (i := 2) rfl ?_; simp; done) | (simp only [List.append_assoc, List.singleton_append, List.cons_append, List.nil_append]; refine setE (i := 3) rfl ?_; simp; done) | (refine setB rfl ?_; simp; done) | exact set_app rfl | exact set_out (lt_of_get (by assumption)) | rfl) : vop T ρ.eval H op = some (.skip, H') := v_storeT ho hv ha hy hx hn h1 hb hl hH
theorem wS4n3 {T : TypeId → Option VTy} {H : VHeap} {op : Op} {ρ : Operand → VVal} {t ty : TypeId} {x y : Operand} {n m : Int} (ho : op = .binOp .add t x y ty) (hx : ρ x = .int .i64 n) (hy : ρ y = .int .i64 m) (h : -9223372036854775808 ≤ n + m ∧ n + m < 9223372036854775808 := by first | assumption | omega | (simp [*]; done) | (simp at *; omega)) : vop T ρ H op = some (.int .i64 (n + m), H) := v_addI ho hx hy h

theorem Broken_spec {x : SW} (H : VHeap) (rs : List Rul) (l : List Int) (hR : ∀ r, r ∈ rs → r.steps.length ≤ 1000000) (hn : rs.length ≤ 1000000) : F (psys x) 34 [fzR rs, fzI l] H fun v G => v = fzI (brk rs l) ∧ G = H := by
 refine F_body Try.func34 rfl uS4n25 rfl ?_
 refine B_seq (B_region ?_)
 refine Lo uS4n25 (v_const (VVal.slice none 0 0 true 0) (.inr rfl) rfl) ?_
 refine L_nil (K_seq (B_seq (B_region ?_)))
 refine Lo uS4n25 (v_const (VVal.slice none 0 0 true 0) (.inr rfl) rfl) ?_
 refine L_nil (K_seq (B_seq (B_seq (B_region ?_))))
 refine Lo uS4n25 (v_move (.inl rfl) rfl) ?_
 refine Lo uS4n25 (rfl) ?_
 refine Lo uS4n25 (v_const (VVal.int .i64 0) (.inl rfl) rfl) ?_
 refine L_nil (K_seq (B_block ?_))
 refine B_clear (mk 25 33552605) (env' := uS4n25) rfl ?_
 refine B_loopE (fun (⟨k, lv⟩ : Nat × VVal) => rs.length - k) (fun (⟨k, lv⟩ : Nat × VVal) => [(5, lv), (10, iI (k : Nat))]) (fun (⟨k, lv⟩ : Nat × VVal) G => (k ≤ rs.length) ∧ ∃ X, G = H ++ X ∧ LV H.length 1 X lv ((brk (rs.take k) l).map iI) (brk (rs.take k) l).length) ⟨0, _⟩ rfl ?_ ?_
 ·refine ⟨?_, ⟨_, rfl, LV.nil _ _ _⟩⟩
  exact Nat.zero_le _
 rintro ⟨k, lv⟩ _ ⟨hk, ⟨X, rfl, hl⟩⟩
 refine B_env (env' := uS4n25) rfl ?_
 refine B_seq (B_region ?_)
 refine Lo uS4n25 (rfl) ?_
 refine L_nil (K_seq (B_seq ?_))
 refine B_cond _ rfl (fun hc1 => ?_) (fun hc1 => ?_)
 ·try simp only [qB, qN] at hc1
  refine B_skip (K_seq (B_seq (B_block (B_seq (B_region ?_)))))
  refine Lo uS4n25 (v_move (.inl rfl) rfl) ?_
  refine Lo uS4n25 (wS4n0 rfl rfl rfl rfl rfl rfl rfl) ?_
  refine Lo uS4n25 (wS4n1 rfl rfl rfl rfl rfl) ?_
  refine Lo uS4n25 (v_alloc rfl rfl) ?_
  refine Lo uS4n25 (v_move (.inr rfl) rfl) ?_
  refine Lo uS4n25 (wS4n2 rfl rfl rfl rfl rfl rfl rfl) ?_
  refine L_nil (K_seq (B_seq (B_region ?_)))
  refine Lo uS4n25 (wS4n1 rfl rfl rfl rfl rfl) ?_
  refine Lo uS4n25 (v_move (.inl rfl) rfl) ?_
  refine L_call rfl rfl rfl (by exact rHolds_spec _ _ _ (hR _ (rul_mem (by omega)))) ?_
  rintro _ _ ⟨rfl, rfl⟩
  refine Le uS4n25 ?_
  refine Lo uS4n25 (rfl) ?_
  refine L_nil (K_seq ?_)
  refine B_cond _ rfl (fun hc2 => ?_) (fun hc2 => ?_)
  ·try simp only [qB, qN] at hc2
   refine B_region ?_
   refine Lo uS4n25 (v_move (.inl rfl) rfl) ?_
   refine Lo uS4n25 (v_move (.inl rfl) rfl) ?_
   refine Lo uS4n25 (v_buildSlice rfl rfl (by decide) rfl) ?_
   refine L_opX rfl rfl (v_appX rfl rfl rfl rfl rfl rfl rfl (LV.app hl _) rfl rfl (by decide) (by have := brk_lenK (rs := rs) (l := l) (k := k); show (_ + 1) * 8 ≤ _ ∧ _ + 1 ≤ _; omega) (by decide)) ?_
   rintro _ _ ⟨Y1, rfl, rfl, hY1, hY2, hY3⟩
   refine Le uS4n25 ?_
   refine Lo uS4n25 (v_move (.inr rfl) rfl) ?_
   refine L_nil (K_blk (K_seq (B_region ?_)))
   refine Lo uS4n25 (wS4n3 rfl rfl rfl) ?_
   refine Lo uS4n25 (v_move (.inl rfl) rfl) ?_
   refine L_nil ?_
   refine K_loop (mk 25 33552605) (env' := uS4n25) rfl ⟨⟨k + 1, _⟩, ?_, rfl, ?_⟩
   ·first | omega | (simp only []; omega)
   ·first | exact ⟨by omega, _, rfl, by rw [brk_yes (by omega) (by simpa using ‹_›)]; exact LV.app hl _⟩ | exact ⟨by omega, _, rfl, by rw [brk_yes (by omega) (by simpa using ‹_›)]; exact hl⟩ | exact ⟨by omega, _, rfl, by rw [brk_no (by omega) (by simpa using ‹_›)]; exact LV.pushI hY3⟩
  ·try simp only [qB, qN] at hc2
   refine B_skip (K_blk (K_seq (B_region ?_)))
   refine Lo uS4n25 (wS4n3 rfl rfl rfl) ?_
   refine Lo uS4n25 (v_move (.inl rfl) rfl) ?_
   refine L_nil ?_
   refine K_loop (mk 25 33552605) (env' := uS4n25) rfl ⟨⟨k + 1, _⟩, ?_, rfl, ?_⟩
   ·first | omega | (simp only []; omega)
   ·first | exact ⟨by omega, _, rfl, by rw [brk_yes (by omega) (by simpa using ‹_›)]; exact LV.app hl _⟩ | exact ⟨by omega, _, rfl, by rw [brk_yes (by omega) (by simpa using ‹_›)]; exact hl⟩ | exact ⟨by omega, _, rfl, by rw [brk_no (by omega) (by simpa using ‹_›)]; exact LV.pushI hY3⟩
 ·try simp only [qB, qN] at hc1
  refine B_exit (K_seqX (K_loopX (K_blkX (K_seq (B_seq (B_region ?_))))))
  refine Lo uS4n25 (v_move (.inl rfl) rfl) ?_
  refine Lo uS4n25 (v_move (.inr rfl) rfl) ?_
  refine L_nil (K_seq (B_ret ?_))
  refine E_gh (.inr rfl) (vres_tmp rfl rfl) (Gh.ansLV (BaseOk.refl _) hl (mapI_under _ _)) ?_
  obtain rfl : k = rs.length := by omega
  rw [List.take_of_length_le (Nat.le_refl _)]
  exact ⟨rfl, rfl⟩
end Go.Proofs.Ytbngdhlmggdaaaa.VT
