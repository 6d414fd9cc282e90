/- Proved: Rows.TallySizesCardSaid, the statement TallySizes with its card, of the given program at the commit; no conditions beyond those in the statement. -/
import Derived.Test.YtenkjadobkjaeaaDoorC11x10
import Derived.Lib.TrailingZeros
set_option autoImplicit false
set_option linter.unusedVariables false
namespace Go.V
open Go
def nx (w : BitVec 64) : Int := if w = 0#64 then -1 else (Lib.ctz 64 w.toNat : Nat)
def bel (i : Int) : BitVec 64 := if i ≤ 0 then 0#64 else if 64 ≤ i then ~~~0#64 else 1#64 <<< i.toNat - 1#64
theorem nx_bits (w : BitVec 64) : (w = 0#64 ∧ nx w = -1) ∨ (∃ c : Nat, nx w = c ∧ c < 64 ∧ w.getLsbD c = true ∧ ∀ j, j < c → w.getLsbD j = false) := by
  by_cases h : w = 0#64
  · exact .inl ⟨h, if_pos h⟩
  · right
    have h0 : 0 < w.toNat := by
      rcases Nat.eq_zero_or_pos w.toNat with e | e
      · exact absurd (BitVec.eq_of_toNat_eq (by simpa using e)) h
      · exact e
    obtain ⟨m, h1, h2⟩ := Lib.ctzFrom_spec 64 w.toNat h0 w.isLt
    have hc : Lib.ctz 64 w.toNat = Lib.ctzFrom 64 w.toNat := by unfold Lib.ctz; rw [if_neg (by omega)]
    have hn : nx w = (Lib.ctzFrom 64 w.toNat : Nat) := by unfold nx; rw [if_neg h, hc]
    generalize Lib.ctzFrom 64 w.toNat = c at h1 h2 hn
    refine ⟨c, hn, h2, ?_, fun j hj => ?_⟩
    · rw [← BitVec.testBit_toNat, h1, Nat.testBit_two_pow_mul]
      simp
    · rw [← BitVec.testBit_toNat, h1, Nat.testBit_two_pow_mul]
      simp; omega
theorem bel_bit (k j : Nat) : (bel k).getLsbD j = (decide (j < k) && decide (j < 64)) := by
  unfold bel
  by_cases h0 : (k : Int) ≤ 0
  · rw [if_pos h0]
    have : k = 0 := by omega
    subst this; simp
  · rw [if_neg h0]
    by_cases h1 : (64 : Int) ≤ k
    · rw [if_pos h1]
      rw [BitVec.getLsbD_not]
      by_cases hj : j < 64
      · have : j < k := by omega
        rw [decide_eq_true hj, decide_eq_true this, BitVec.getLsbD_zero]; rfl
      · rw [decide_eq_false hj, Bool.and_false, Bool.false_and]
    · rw [if_neg h1]
      have hk : k < 64 := by omega
      rw [← BitVec.testBit_toNat, BitVec.toNat_sub, BitVec.toNat_shiftLeft]
      have e1 : (1 : Nat) <<< k % 2 ^ 64 = 2 ^ k := by
        rw [Nat.shiftLeft_eq, Nat.one_mul]
        exact Nat.mod_eq_of_lt (Nat.pow_lt_pow_right (by omega) hk)
      have e2 : (2 ^ 64 - (1#64).toNat + 1 <<< k % 2 ^ 64) % 2 ^ 64 = 2 ^ k - 1 := by
        rw [e1]
        have : 0 < 2 ^ k := Nat.two_pow_pos k
        have : 2 ^ k < 2 ^ 64 := Nat.pow_lt_pow_right (by omega) hk
        simp only [BitVec.toNat_ofNat]
        omega
      have e3 : (1#64).toNat <<< (k : Int).toNat = 1 <<< k := by simp
      rw [e3, e2, Nat.testBit_two_pow_sub_one]
      by_cases hj : j < k
      · have : j < 64 := by omega
        simp [hj, this]
      · simp [hj]
def pl (w : BitVec 64) (k : Nat) : List Nat := (List.range' k (64 - k)).filter w.getLsbD
theorem pl_step (w : BitVec 64) (k : Nat) : pl w k = if k < 64 then (if w.getLsbD k = true then k :: pl w (k + 1) else pl w (k + 1)) else [] := by
  unfold pl
  by_cases h : k < 64
  · rw [if_pos h]
    have : 64 - k = (64 - (k + 1)) + 1 := by omega
    rw [this, List.range'_succ, List.filter_cons]
  · rw [if_neg h]
    have : 64 - k = 0 := by omega
    rw [this]; rfl
theorem pl_skip (w : BitVec 64) : ∀ (n k : Nat), (∀ j, k ≤ j → j < k + n → w.getLsbD j = false) → pl w k = pl w (k + n)
  | 0, k, _ => rfl
  | n + 1, k, h => by
    rw [pl_step, h k (by omega) (by omega)]
    have := pl_skip w n (k + 1) (fun j h1 h2 => h j (by omega) (by omega))
    rw [this, show k + 1 + n = k + (n + 1) from by omega]
    split
    · rfl
    · rename_i hk
      rw [pl_step, if_neg (by omega)]
theorem pl_next (w : BitVec 64) (k : Nat) : (nx (w &&& ~~~bel k) = -1 ∧ pl w k = []) ∨ (∃ c : Nat, nx (w &&& ~~~bel k) = c ∧ k ≤ c ∧ c < 64 ∧ w.getLsbD c = true ∧ pl w k = c :: pl w (c + 1)) := by
  have hb : ∀ j, j < 64 → (w &&& ~~~bel k).getLsbD j = (w.getLsbD j && decide (k ≤ j)) := by
    intro j hj
    rw [BitVec.getLsbD_and, BitVec.getLsbD_not, bel_bit]
    by_cases h : j < k
    · simp [hj, h, show ¬ k ≤ j from by omega]
    · simp [hj, h, show k ≤ j from by omega]
  rcases nx_bits (w &&& ~~~bel k) with ⟨h1, h2⟩ | ⟨c, h1, h2, h3, h4⟩
  · refine .inl ⟨h2, ?_⟩
    have : ∀ j, k ≤ j → j < k + (64 - k) → w.getLsbD j = false := by
      intro j hj hj2
      by_cases h64 : j < 64
      · have := hb j h64
        rw [h1] at this
        simp [hj] at this
        exact this
      · exact BitVec.getLsbD_of_ge _ _ (by omega)
    rw [pl_skip w _ k this, pl_step, if_neg (by omega)]
  · refine .inr ⟨c, h1, ?_⟩
    rw [hb c h2] at h3
    simp only [Bool.and_eq_true, decide_eq_true_eq] at h3
    refine ⟨h3.2, h2, h3.1, ?_⟩
    have : ∀ j, k ≤ j → j < k + (c - k) → w.getLsbD j = false := by
      intro j hj hj2
      have := h4 j (by omega)
      rw [hb j (by omega)] at this
      simpa [hj] using this
    rw [pl_skip w _ k this, show k + (c - k) = c from by omega, pl_step, if_pos h2, if_pos h3.1]
theorem pl_next' (w : BitVec 64) (k : Nat) : (nx (w &&& ~~~bel k) = -1 ∧ pl w k = []) ∨ ∃ c : Nat, nx (w &&& ~~~bel k) = c ∧ c < 64 ∧ pl w k = c :: pl w (c + 1) := by
  rcases pl_next w k with h | ⟨c, h1, _, h3, _, h5⟩
  · exact .inl h
  · exact .inr ⟨c, h1, h3, h5⟩
open Go Go.RowKit
section
variable {S : Sys} {H0 H : Zf} {rd : Option Nat} {env : VEnv} {Q : Post}
def Iter (S : Sys) (l : Nat) : List VVal → Zf → (Zf → Prop) → Prop
  | [], G, R => R G
  | x :: xs, G, R => Fv S (.yield l) [x] G fun v G' => ∃ b, v = .bool b ∧ if b = true then Iter S l xs G' R else R G'
theorem B_rangeL {f1 : FuncId} {caps : List VVal} {g : Operand} {ps : Array Nat} {asg body : Code} (xs : List VVal) (hrd : ∀ l0, rd = some l0 → ∃ st p fn tmps ps asg body, H[l0]? = some (.loop st p fn tmps ps asg body)) (hg : env.eval g = .func f1 [] caps)
    (hAll : ∀ (l : Nat) (G : Zf) (R : Zf → Prop), Iter S l xs G R → F S f1 ([.yield l] ++ caps) G fun v G' => R G')
    {σ : Type} (hp : VBlk → σ → Zf) (s0 : σ) (h0 : ∀ k, H ++ [k] = hp k s0) (hget : ∀ k s, (hp k s)[H.length]? = some k) (hset : ∀ k k' s, (hp k s).set H.length k' = hp k' s)
    (inv : List VVal → σ → Prop) (hi : inv [] s0) (X : Code → List VVal → VVal → σ → Prop) (hps : ps.toList.length = 1)
    (round : ∀ pre c post s, xs = pre ++ c :: post → inv pre s → ∀ (kr kb : VBlk), kr = .loop .ready none 0 env ps.toList asg body → kb = .loop .busy none 0 env ps.toList asg body →
      B S (hp kr s) (some H.length) asg (YL env ps.toList [c]) (hp kr s) (fun ex env1 H1 => ex = .normal ∧ ∃ s1, H1 = hp kr s1 ∧ B S (hp kr s) (some H.length) body env1 (hp kb s1)
        (fun ex2 _ H2 => ∃ s2, H2 = hp kb s2 ∧ ((ex2 = .normal ∧ inv (pre ++ [c]) s2) ∨ (∃ j, jumpOf ex2 = some (some j) ∧ X j pre c s2)))))
    (done : ∀ s k, k = VBlk.loop .exhausted none 0 env ps.toList asg body → inv xs s → Q .normal env (hp k s))
    (stop : ∀ j pre c post s k, k = VBlk.loop .exhausted (some j) 0 env ps.toList asg body → xs = pre ++ c :: post → X j pre c s → jumpTo (some j) env (hp k s) Q) : B S H0 rd (.rangeFunc g ps asg body) env H Q := by
  let rec' : LoopState → Option Code → VBlk := fun st p => .loop st p 0 env ps.toList asg body
  let Rf : Zf → Prop := fun G => (∃ s, G = hp (rec' .ready none) s ∧ inv xs s) ∨ ∃ j pre c post s, G = hp (rec' .done (some j)) s ∧ xs = pre ++ c :: post ∧ X j pre c s
  have key : ∀ (ys pre : List VVal) (s : σ), xs = pre ++ ys → inv pre s → Iter S H.length ys (hp (rec' .ready none) s) Rf := by
    intro ys
    induction ys with
    | nil =>
      intro pre s hx hs
      rw [List.append_nil] at hx
      exact .inl ⟨s, rfl, hx ▸ hs⟩
    | cons c ys ih =>
      intro pre s hx hs
      have hr := round pre c ys s hx hs _ _ rfl rfl
      refine Fv_yield (p := none) (fn := 0) (tmps := env) (ps := ps.toList) (body := body) (hget _ s) (by simp [hps]) _ rfl (hr.mono ?_)
      rintro ex env1 H1 ⟨rfl, s1, rfl, hb⟩
      refine ⟨rfl, none, 0, env, ps.toList, asg, body, hget _ s1, ?_⟩
      rw [hset]
      refine hb.mono ?_
      rintro ex2 env2 H2 ⟨s2, rfl, h2⟩
      rcases h2 with ⟨rfl, h2⟩ | ⟨j, hj, h2⟩
      · refine ⟨none, rfl, .busy, none, 0, env, ps.toList, asg, body, hget _ s2, true, rfl, ?_⟩
        rw [if_pos rfl, hset]
        exact ih (pre ++ [c]) s2 (by rw [hx]; simp) h2
      · refine ⟨some j, hj, .busy, none, 0, env, ps.toList, asg, body, hget _ s2, false, rfl, ?_⟩
        rw [if_neg (by simp), hset]
        exact .inr ⟨j, pre, c, ys, s2, rfl, hx, h2⟩
  refine B_range hrd hg (hAll H.length _ Rf (by rw [h0]; exact key xs [] s0 rfl hi)) ?_
  rintro v H2 (⟨s, rfl, hs⟩ | ⟨j, pre, c, post, s, rfl, hx, hX⟩)
  · refine ⟨.ready, none, 0, env, ps.toList, asg, body, hget _ s, by simp, ?_⟩
    rw [hset]
    exact done s _ rfl hs
  · refine ⟨.done, some j, 0, env, ps.toList, asg, body, hget _ s, by simp, ?_⟩
    rw [hset]
    exact stop j pre c post s _ rfl hx hX
theorem B_rangeM {f1 : FuncId} {caps : List VVal} {g : Operand} {ps : Array Nat} {asg body : Code} {β : Type} (fv : β → VVal) (xs : List β) (hrd : ∀ l0, rd = some l0 → ∃ st p fn tmps ps asg body, H[l0]? = some (.loop st p fn tmps ps asg body)) (hg : env.eval g = .func f1 [] caps)
    (hAll : ∀ (l : Nat) (G : Zf) (R : Zf → Prop), Iter S l (xs.map fv) G R → F S f1 ([.yield l] ++ caps) G fun v G' => R G')
    {σ : Type} (hp : VBlk → σ → Zf) (s0 : σ) (h0 : ∀ k, H ++ [k] = hp k s0) (hget : ∀ k s, (hp k s)[H.length]? = some k) (hset : ∀ k k' s, (hp k s).set H.length k' = hp k' s)
    (inv : List β → σ → Prop) (hi : inv [] s0) (X : Code → List β → β → σ → Prop) (hps : ps.toList.length = 1)
    (round : ∀ pre c post s, xs = pre ++ c :: post → inv pre s → ∀ (kr kb : VBlk), kr = .loop .ready none 0 env ps.toList asg body → kb = .loop .busy none 0 env ps.toList asg body →
      B S (hp kr s) (some H.length) asg (YL env ps.toList [fv c]) (hp kr s) (fun ex env1 H1 => ex = .normal ∧ ∃ s1, H1 = hp kr s1 ∧ B S (hp kr s) (some H.length) body env1 (hp kb s1)
        (fun ex2 _ H2 => ∃ s2, H2 = hp kb s2 ∧ ((ex2 = .normal ∧ inv (pre ++ [c]) s2) ∨ (∃ j, jumpOf ex2 = some (some j) ∧ X j pre c s2)))))
    (done : ∀ s k, k = VBlk.loop .exhausted none 0 env ps.toList asg body → inv xs s → Q .normal env (hp k s))
    (stop : ∀ j pre c post s k, k = VBlk.loop .exhausted (some j) 0 env ps.toList asg body → xs = pre ++ c :: post → X j pre c s → jumpTo (some j) env (hp k s) Q) : B S H0 rd (.rangeFunc g ps asg body) env H Q := by
  refine B_rangeL (xs.map fv) hrd hg hAll hp s0 h0 hget hset (fun pre s => ∃ p q, pre = p.map fv ∧ xs = p ++ q ∧ inv p s) ⟨[], xs, rfl, rfl, hi⟩ (fun j pre c s => ∃ p b q, pre = p.map fv ∧ c = fv b ∧ xs = p ++ b :: q ∧ X j p b s) hps ?_ ?_ ?_
  · rintro pre c post s hx ⟨p, q, rfl, rfl, hI⟩ kr kb hkr hkb
    rw [List.map_append, List.append_cancel_left_eq] at hx
    cases q with
    | nil => simp at hx
    | cons b q =>
      simp only [List.map_cons, List.cons.injEq] at hx
      obtain ⟨rfl, rfl⟩ := hx
      refine (round p b q s rfl hI kr kb hkr hkb).mono ?_
      rintro ex env1 H1 ⟨h1, s1, h2, h3⟩
      refine ⟨h1, s1, h2, h3.mono ?_⟩
      rintro ex2 env2 H2 ⟨s2, h4, h5⟩
      refine ⟨s2, h4, ?_⟩
      rcases h5 with ⟨h5, h6⟩ | ⟨j, h5, h6⟩
      · exact .inl ⟨h5, p ++ [b], q, by simp, by simp, h6⟩
      · exact .inr ⟨j, h5, p, b, q, rfl, rfl, rfl, h6⟩
  · rintro s k hk ⟨p, q, hp', rfl, hI⟩
    have hq : q = [] := by
      have := congrArg List.length hp'
      simp at this
      exact this
    subst hq
    rw [List.append_nil] at *
    exact done s k hk hI
  · rintro j pre c post s k hk hx ⟨p, b, q, rfl, rfl, hxs, hX⟩
    exact stop j p b q s k hk hxs hX
abbrev cI (c : Nat) : VVal := .int .i64 (c : Int)
end
open Go Go.RowKit
def YU : VVal → Option Nat
  | .slice (some (b, _)) _ _ _ _ => some b
  | _ => none
def LV (h es : Nat) (X : Zf) (v : VVal) (cs : List VVal) (len : Nat) : Prop :=
  cs.length = len * es ∧ ((len = 0 ∧ v = .slice none 0 0 true 0) ∨ (0 < len ∧ ∃ b, v = .slice (some (h + b, 0)) len len false es ∧ X[b]? = some (.cells cs true)))
theorem LV.nil (h es : Nat) (X : Zf) : LV h es X (.slice none 0 0 true 0) [] 0 := ⟨by simp, .inl ⟨rfl, rfl⟩⟩
theorem LV.frame {h es : Nat} {X X' : Zf} {v : VVal} {cs : List VVal} {len : Nat} (l : LV h es X v cs len) (hf : ∀ i, YU v = some (h + i) → X'[i]? = X[i]?) : LV h es X' v cs len := by
  refine ⟨l.1, ?_⟩
  rcases l.2 with h1 | ⟨h1, b, rfl, h2⟩
  · exact .inl h1
  · exact .inr ⟨h1, b, rfl, by rw [hf b rfl]; exact h2⟩
theorem LV.app {h es : Nat} {X : Zf} {v : VVal} {cs : List VVal} {len : Nat} (l : LV h es X v cs len) (Y : Zf) : LV h es (X ++ Y) v cs len := by
  refine ⟨l.1, ?_⟩
  rcases l.2 with h1 | ⟨h1, b, rfl, h2⟩
  · exact .inl h1
  · exact .inr ⟨h1, b, rfl, Zw h2⟩
theorem LV.one {h es : Nat} {X : Zf} {v : VVal} {cs : List VVal} {len : Nat} (l : LV h es X v cs len) : v.one = true := by
  rcases l.2 with ⟨_, rfl⟩ | ⟨_, b, rfl, _⟩ <;> rfl
theorem LV.cells {h es : Nat} {X : Zf} {v : VVal} {cs : List VVal} {len : Nat} (l : LV h es X v cs len) : v.cells = some [v] := by
  rcases l.2 with ⟨_, rfl⟩ | ⟨_, b, rfl, _⟩ <;> rfl
section
variable {T : TypeId → Option VTy} {ρ : Operand → VVal} {H : Zf} {op : Op}
theorem v_len {T : TypeId → Option VTy} {ρ : Operand → VVal} {H : Zf} {op : Op} {h es : Nat} {X : Zf} {v : VVal} {cs : List VVal} {len : Nat} {a : Operand} {t : TypeId} {y : VTy} {e : TypeId} (ho : op = .call { callee := .builtin .len, args := #[a], argTypes := #[t] }) (ha : ρ a = v) (hy : T t = some y) (hd : y.desc = .slice e) (l : LV h es X v cs len) : vop T ρ H op = some (iI len, H) := by
  rw [ho]
  rcases l.2 with ⟨rfl, rfl⟩ | ⟨_, b, rfl, _⟩
  · simp [vop, ZW, vlen, ha, hy, hd]
  · simp [vop, ZW, vlen, ha, hy, hd]
theorem v_appB {s x : Operand} {ats : Array TypeId} {t u e : TypeId} {z : VTy} {du : TypeDesc} {v : VVal} {Y : Zf} {cs new : List VVal} {len k : Nat} {kx : Nat}
    (ho : op = .call { callee := .builtin .append, args := #[s, x], argTypes := ats }) (hat : ats = #[t, u]) (hz : velem T t = some (e, z)) (hu : (T u).map (·.desc) = some du) (hdu : isSeq du = true)
    (hs : ρ s = v) (hx : ρ x = .slice (some (H.length + Y.length, 0)) k kx true z.size) (l : LV H.length z.size Y v cs len) (hn : new.length = k * z.size) (h1 : new.all VVal.one = true) (hp : 0 < z.size)
    (hb : (len + k) * z.bytes ≤ 140737488355328 ∧ len + k ≤ 140737488355328) (hk : 0 < k) :
    ∃ Y1, vop T ρ (H ++ (Y ++ [.cells new true])) op = some (.slice (some (H.length + (Y.length + 1), 0)) (len + k) (len + k) false z.size, H ++ (Y1 ++ [.cells new true, .cells (cs ++ new) true])) ∧ Y1.length = Y.length ∧ (∀ i, YU v ≠ some (H.length + i) → Y1[i]? = Y[i]?) ∧
      LV H.length z.size (Y1 ++ [.cells new true, .cells (cs ++ new) true]) (.slice (some (H.length + (Y.length + 1), 0)) (len + k) (len + k) false z.size) (cs ++ new) (len + k) := by
  have hsrc : Z3 (H ++ (Y ++ [.cells new true])) z.size k (ρ x) = some new := by
    rw [hx]
    simp only [Z3]
    rw [ZL rfl (x := .cells new true) (by simp)]
    simp only [Zx]
    rw [if_pos (by omega), List.drop_zero, List.take_of_length_le (by omega)]
  have hlen : (H ++ (Y ++ [VBlk.cells new true])).length = H.length + (Y.length + 1) := by simp
  have hcl : (cs ++ new).length = (len + k) * z.size := by rw [List.length_append, l.1, hn, Nat.add_mul]
  have hlast : ∀ Y1 : Zf, Y1.length = Y.length → (Y1 ++ [VBlk.cells new true, .cells (cs ++ new) true])[Y.length + 1]? = some (.cells (cs ++ new) true) := by
    intro Y1 h
    rw [List.getElem?_append_right (by omega), h, show Y.length + 1 - Y.length = 1 from by omega]; rfl
  rcases l.2 with ⟨rfl, rfl⟩ | ⟨hl, b, rfl, hg⟩
  · have hcs : cs = [] := List.eq_nil_of_length_eq_zero (by have := l.1; omega)
    subst hcs
    refine ⟨Y, ?_, rfl, fun _ _ => rfl, hcl, .inr ⟨by omega, _, rfl, hlast Y rfl⟩⟩
    rw [ho, hat]
    have hk' : srcLen (ρ x) = some k := by rw [hx]; rfl
    simp only [vop, ZW, List.map_cons, List.map_nil, YH, hz, hs, hu, hk']
    rw [hsrc]
    simp only
    rw [if_pos ⟨hn, h1, hp, hb.1, hb.2, hdu⟩]
    rw [if_neg (by omega), if_neg (by omega), if_neg (by simp), hlen]
    simp
  · have hbY : b < Y.length := (List.getElem?_eq_some_iff.1 hg).1
    refine ⟨Y.set b .dead, ?_, by simp, fun i hi => ?_, hcl, .inr ⟨by omega, _, rfl, hlast _ (by simp)⟩⟩
    · rw [ho, hat]
      have hk' : srcLen (ρ x) = some k := by rw [hx]; rfl
      simp only [vop, ZW, List.map_cons, List.map_nil, YH, hz, hs, hu, hk']
      rw [hsrc]
      simp only
      rw [if_pos ⟨hn, h1, hp, hb.1, hb.2, hdu⟩]
      rw [if_pos trivial, ZL rfl (x := .cells cs true) (Zw hg)]
      simp only
      rw [if_neg (by omega)]
      have hca : Zx cs 0 (len * z.size) = some cs := by
        unfold Zx; rw [if_pos (by have := l.1; omega), List.drop_zero, List.take_of_length_le (by have := l.1; omega)]
      rw [hca]
      simp only
      rw [if_neg (by simp), if_pos trivial, hlen, ZO rfl, List.set_append_left _ _ hbY]
      simp
    · rw [List.getElem?_set_ne]
      rintro rfl
      exact hi rfl
end
section
variable {S : Sys} {H0 H : Zf}
theorem Gh.freezeLV {vs vs' : List VVal} {X : Zf} {es : Nat} {v : VVal} {cs : List VVal} {len : Nat} (i : Nat) (l : LV H.length es X v cs len) (hv : vs[i]? = some v) (he : vs.set i (.fsl cs len es false) = vs') :
    ∃ X', Gh S H0 vs (H ++ X) vs' (H ++ X') ∧ X'.length = X.length ∧ ∀ j, YU v ≠ some (H.length + j) → X'[j]? = X[j]? := by
  rcases l.2 with ⟨rfl, rfl⟩ | ⟨hl, b, rfl, hg⟩
  · have hcs : cs = [] := List.eq_nil_of_length_eq_zero (by have := l.1; omega)
    subst hcs
    exact ⟨X, Gh.freezeNil i hv he, rfl, fun _ _ => rfl⟩
  · refine ⟨X.set b .dead, Gh.freezeL i b hv hg ?_ (Nat.le_refl _) he, by simp, fun j hj => ?_⟩
    · unfold Zx; rw [if_pos (by have := l.1; omega), List.drop_zero, List.take_of_length_le (by have := l.1; omega)]
    · rw [List.getElem?_set_ne]
      rintro rfl
      exact hj rfl
theorem Gh.ansLV {B X : Zf} {es : Nat} {v : VVal} {cs : List VVal} {len : Nat} (hB : BaseOk H B) (l : LV B.length es X v cs len) (hu : VVal.underL H.length cs = true) : Gh S H [v] (B ++ X) [.fsl cs len es false] B := by
  obtain ⟨X', g, _⟩ := Gh.freezeLV (S := S) (H0 := H) (vs := [v]) 0 l rfl rfl
  exact Gh.trans g (Gh.back hB (by simp [VVal.underL, VVal.under, hu]))
end
open Go Go.RowKit
section
variable {S : Sys} {H0 H : Zf} {ops : Array Oper} {o : Oper} {l : List Oper} {env : VEnv} {K : VEnv → Zf → Prop}
theorem L_opX {R : VVal → Zf → Prop} (hg : Yk ops env o.guard = some true) (hc : Z5 S.C.meth env.eval o.op = none) (hv : ∃ v G, vop S.C.T env.eval H o.op = some (v, G) ∧ R v G)
    (h : ∀ v G, R v G → WL S H0 ops l (env.put o.dst v) G K) : WL S H0 ops (o :: l) env H K := by
  obtain ⟨v, G, h1, h2⟩ := hv
  exact Zr hg hc h1 rfl (h v G h2)
end
section
variable {S : Sys} {H : Zf} {ops : Array Oper} {bef : Array Nat} {i : Nat} {li : List Nat} {o : Oper} {env : VEnv} {tk tk' : List (Nat × Tr)} {K : VEnv → Zf → Prop}
theorem O_opX {R : VVal → Zf → Prop} (c : Cls) (ho : ops[i]? = some o) (hg : Yk ops env o.guard = some true) (hc : Z5 S.C.meth env.eval o.op = none)
    (hv : ∃ v G, vop S.C.T env.eval H o.op = some (v, G) ∧ R v G) (hk : Ym S.C.T o.op = c) (ht : tk ++ [(i, .k c)] = tk') (h : ∀ v G, R v G → WO S ops bef li (env.put o.dst v) G tk' K) : WO S ops bef (i :: li) env H tk K := by
  obtain ⟨v, G, h1, h2⟩ := hv
  exact Z6 ho hg hc h1 hk rfl ht (h v G h2)
theorem O_env {env' : VEnv} (he : env = env') (h : WO S ops bef li env' H tk K) : WO S ops bef li env H tk K := he ▸ h
end
section
variable {T : TypeId → Option VTy} {ρ : Operand → VVal} {H : Zf} {op : Op}
theorem v_appX {s x : Operand} {ats : Array TypeId} {t u e : TypeId} {z : VTy} {du : TypeDesc} {v : VVal} {Y : Zf} {cs new : List VVal} {len k : Nat} {kx : Nat}
    (ho : op = .call { callee := .builtin .append, args := #[s, x], argTypes := ats }) (hat : ats = #[t, u]) (hz : velem T t = some (e, z)) (hu : (T u).map (·.desc) = some du) (hdu : isSeq du = true)
    (hs : ρ s = v) (hx : ρ x = .slice (some (H.length + Y.length, 0)) k kx true z.size) (l : LV H.length z.size Y v cs len) (hn : new.length = k * z.size) (h1 : new.all VVal.one = true) (hp : 0 < z.size)
    (hb : (len + k) * z.bytes ≤ 140737488355328 ∧ len + k ≤ 140737488355328) (hk : 0 < k) :
    ∃ u G, vop T ρ (H ++ (Y ++ [.cells new true])) op = some (u, G) ∧ ∃ Y1, u = .slice (some (H.length + (Y.length + 1), 0)) (len + k) (len + k) false z.size ∧ G = H ++ (Y1 ++ [.cells new true, .cells (cs ++ new) true]) ∧ Y1.length = Y.length ∧ (∀ i, YU v ≠ some (H.length + i) → Y1[i]? = Y[i]?) ∧
      LV H.length z.size (Y1 ++ [.cells new true, .cells (cs ++ new) true]) (.slice (some (H.length + (Y.length + 1), 0)) (len + k) (len + k) false z.size) (cs ++ new) (len + k) := by
  obtain ⟨Y1, h1', h2, h3, h4⟩ := v_appB (ρ := ρ) (H := H) (op := op) ho hat hz hu hdu hs hx l hn h1 hp hb hk
  exact ⟨_, _, h1', Y1, rfl, rfl, h2, h3, h4⟩
end
open Go Go.RowKit
section
variable {T : TypeId → Option VTy} {ρ : Operand → VVal} {H : Zf} {op : Op}
theorem v_appE {s x : Operand} {ats : Array TypeId} {t u e : TypeId} {z : VTy} {du : TypeDesc} {L : Zf} {cs : List VVal} {j k : Nat} {ex : Bool}
    (ho : op = .call { callee := .builtin .append, args := #[s, x], argTypes := ats }) (hat : ats = #[t, u]) (hz : velem T t = some (e, z)) (hu : (T u).map (·.desc) = some du) (hdu : isSeq du = true)
    (hs : ρ s = .slice (some (H.length + j, 0)) 0 0 true z.size) (hj : L[j]? = some (.cells [] true)) (hx : ρ x = .fsl cs k z.size ex) (hn : cs.length = k * z.size) (h1 : cs.all VVal.one = true) (hp : 0 < z.size)
    (hb : k * z.bytes ≤ 140737488355328 ∧ k ≤ 140737488355328) :
    ∃ v G, vop T ρ (H ++ L) op = some (v, G) ∧ ∃ Z i, G = H ++ (L ++ Z) ∧ v = .slice (some (H.length + i, 0)) k k (decide (k = 0)) z.size ∧ (L ++ Z)[i]? = some (.cells cs true) := by
  have hk' : srcLen (ρ x) = some k := by rw [hx]; rfl
  have hsrc : Z3 (H ++ L) z.size k (ρ x) = some cs := by
    rw [hx]
    show Zx cs 0 (k * z.size) = some cs
    unfold Zx; rw [if_pos (by omega), List.drop_zero, List.take_of_length_le (by omega)]
  by_cases h0 : k = 0
  · subst h0
    have hcs : cs = [] := List.eq_nil_of_length_eq_zero (by omega)
    subst hcs
    refine ⟨_, _, ?_, [], j, by rw [List.append_nil], rfl, by rw [List.append_nil]; exact hj⟩
    rw [ho, hat]
    simp only [vop, ZW, List.map_cons, List.map_nil, YH, hz, hs, hu, hk']
    rw [hsrc]
    simp only
    rw [if_pos ⟨hn, h1, hp, by simp, by simp, hdu⟩]
    rw [if_pos trivial, ZL rfl (x := .cells [] true) hj]
    rfl
  · refine ⟨.slice (some (H.length + L.length, 0)) k k false z.size, H ++ (L ++ [.cells cs true]), ?_, [.cells cs true], L.length, rfl, ?_, by simp⟩
    · rw [ho, hat]
      simp only [vop, ZW, List.map_cons, List.map_nil, YH, hz, hs, hu, hk']
      rw [hsrc]
      simp only
      rw [if_pos ⟨hn, h1, hp, by simpa using hb.1, by simpa using hb.2, hdu⟩]
      rw [if_pos trivial, ZL rfl (x := .cells [] true) hj]
      simp only
      rw [if_neg (by omega)]
      simp [Zx]
    · rw [decide_eq_false h0]
end
open Go Go.RowKit
theorem F.pre {S : Sys} {f : FuncId} {args args' : List VVal} {H H' : Zf} {R : VVal → Zf → Prop} (g : Gh S H args H args' H') (h : F S f args' H' R) : F S f args H R := by
  intro n w ι xs s r
  obtain ⟨gl, g2⟩ := g (Nat.le_refl _)
  obtain ⟨ι1, e1, s1, r1⟩ := g2 w ι xs.toList (Base.self s) s r
  obtain ⟨a, b⟩ := h n w ι1 xs s1 r1
  refine ⟨a, CallsIn.mono b ?_⟩
  rintro e w' ⟨x, v, G, ι', h1, h2, h3, h4, h5, h6⟩
  exact ⟨x, v, G, ι', h1, Inj.ex_trans e1 h2 gl, Nat.le_trans gl h3, h4, h5, h6⟩
section
variable {T : TypeId → Option VTy} {ρ : Operand → VVal} {H : Zf} {op : Op}
end
open Go Go.RowKit
section
variable {T : TypeId → Option VTy} {ρ : Operand → VVal} {H : Zf} {op : Op}
theorem v_sliceHi {t e : TypeId} {x hi : Operand} {y z : VTy} {cs : List VVal} {len es k : Nat} {ex : Bool} {kd : IntKind} (ho : op = .slice t x none (some hi) none) (hy : T t = some y) (hd : y.desc = .slice e) (hz : T e = some z) (hs : z.size = es) (hx : ρ x = .fsl cs len es ex) (hh : ρ hi = .int kd (k : Nat)) (hk : k ≤ len)
    (hl : cs.length = len * es) : vop T ρ H op = some (.fsl (cs.take (k * es)) k es (ex && k == len), H) := by
  have hle : k * es ≤ len * es := Nat.mul_le_mul_right _ hk
  rw [ho]
  have hc : Zx cs 0 (k * es) = some (cs.take (k * es)) := by unfold Zx; rw [if_pos (by omega), List.drop_zero]
  have hb : Yt len len none (some (.int kd (k : Nat))) none = some (0, k, len) := by
    simp only [Yt]
    rw [if_pos (by omega)]
    simp
  simp [vop, vslice, hy, hd, hx, hz, hs, hh, hb, hc]
end
open Go Go.RowKit
theorem O_opXI {S : Sys} {H : Zf} {ops : Array Oper} {bef : Array Nat} {i : Nat} {li : List Nat} {o : Oper} {env : VEnv} {tk : List (Nat × Tr)} {K : VEnv → Zf → Prop} {R : VVal → Zf → Prop} (x : VVal → Zf → Item') (ho : ops[i]? = some o) (hg : Yk ops env o.guard = some true) (hc : Z5 S.C.meth env.eval o.op = none)
    (hv : ∃ v G, vop S.C.T env.eval H o.op = some (v, G) ∧ R v G) (hx : ∀ v G, itemOf S.C.T o.op env.eval v H G = x v G) (h : ∀ v G, R v G → WO S ops bef li (env.put o.dst v) G (tk ++ [(i, .it (x v G))]) K) : WO S ops bef (i :: li) env H tk K := by
  obtain ⟨v, G, h1, h2⟩ := hv
  exact Yn ho hg hc h1 (hx v G) rfl rfl (h v G h2)
open Go Go.RowKit
theorem v_is {T : TypeId → Option VTy} {ρ : Operand → VVal} {H : Zf} {op : Op} {t : Bool} (b : Bool) (h : vop T ρ H op = some (.bool t, H)) (e : t = b) : vop T ρ H op = some (.bool b, H) := e ▸ h
theorem v_val {T : TypeId → Option VTy} {ρ : Operand → VVal} {H : Zf} {op : Op} {v u : VVal} (h : vop T ρ H op = some (v, H)) (e : v = u) : vop T ρ H op = some (u, H) := e ▸ h
open Go
def wdn (p : Nat → Bool) : Nat → BitVec 64
  | 0 => 0#64
  | k + 1 => if p k = true then wdn p k ||| 1#64 <<< k else wdn p k
def wd (p : Nat → Bool) : BitVec 64 := wdn p 64
theorem shl_bit (k i : Nat) : (1#64 <<< k).getLsbD i = (decide (i = k) && decide (i < 64)) := by
  rw [BitVec.getLsbD_shiftLeft]
  by_cases h : i < 64
  · by_cases h1 : i < k
    · simp [h, h1]; omega
    · by_cases h2 : i = k
      · subst h2; simp [h]
      · have : ¬ (i - k = 0) := by omega
        simp [h, h1, h2, this]
  · simp [h]
theorem or_bit (w : BitVec 64) (k i : Nat) : (w ||| 1#64 <<< k).getLsbD i = (w.getLsbD i || (decide (i = k) && decide (i < 64))) := by
  rw [BitVec.getLsbD_or, shl_bit]
theorem wdn_bit (p : Nat → Bool) : ∀ (k i : Nat), (wdn p k).getLsbD i = (decide (i < k) && decide (i < 64) && p i)
  | 0, i => by simp [wdn]
  | k + 1, i => by
    unfold wdn
    split
    · rename_i hp
      rw [or_bit, wdn_bit p k i]
      by_cases h1 : i = k
      · subst h1; simp [hp]
      · by_cases h2 : i < k
        · have h3 : i < k + 1 := by omega
          simp [h1, h2, h3]
        · have h3 : ¬ i < k + 1 := by omega
          simp [h1, h2, h3]
    · rename_i hp
      rw [wdn_bit p k i]
      by_cases h1 : i = k
      · subst h1; simp at hp; simp [hp]
      · by_cases h2 : i < k
        · have h3 : i < k + 1 := by omega
          simp [h2, h3]
        · have h3 : ¬ i < k + 1 := by omega
          simp [h2, h3]
theorem wd_bit (p : Nat → Bool) (i : Nat) : (wd p).getLsbD i = (decide (i < 64) && p i) := by
  unfold wd; rw [wdn_bit]; simp
theorem YJ {a b : BitVec 64} (h : ∀ i, i < 64 → a.getLsbD i = b.getLsbD i) : a = b := BitVec.eq_of_getLsbD_eq h
theorem wd_eq {p : Nat → Bool} {w : BitVec 64} (h : ∀ i, i < 64 → w.getLsbD i = p i) : w = wd p := YJ fun i hi => by rw [wd_bit, h i hi]; simp [hi]
theorem wd_congr {p q : Nat → Bool} (h : ∀ i, i < 64 → p i = q i) : wd p = wd q := wd_eq fun i hi => by rw [wd_bit, h i hi]; simp [hi]
theorem andNot_zero {a b : BitVec 64} : a &&& ~~~b = 0#64 ↔ ∀ i, i < 64 → a.getLsbD i = true → b.getLsbD i = true := by
  constructor
  · intro h i hi ha
    have := congrArg (fun w => w.getLsbD i) h
    simp only [BitVec.getLsbD_and, BitVec.getLsbD_not, ha, hi, decide_true, Bool.true_and, BitVec.getLsbD_zero, Bool.not_eq_false'] at this
    exact this
  · intro h
    refine YJ fun i hi => ?_
    rw [BitVec.getLsbD_and, BitVec.getLsbD_not, BitVec.getLsbD_zero]
    cases ha : a.getLsbD i with
    | false => rfl
    | true => simp [h i hi ha]
theorem mem_pl {w : BitVec 64} {k c : Nat} : c ∈ pl w k ↔ k ≤ c ∧ c < 64 ∧ w.getLsbD c = true := by
  unfold pl
  rw [List.mem_filter, List.mem_range'_1]
  constructor
  · rintro ⟨⟨h1, h2⟩, h3⟩; exact ⟨h1, by omega, h3⟩
  · rintro ⟨h1, h2, h3⟩; exact ⟨⟨h1, by omega⟩, h3⟩
def rv (E : Nat → Nat → Bool) : Nat → Nat → Nat → Bool
  | 0, a, b => E a b
  | k + 1, a, b => rv E k a b || (rv E k a k && rv E k k b)
theorem rv_step {E : Nat → Nat → Bool} {k a b : Nat} (h : rv E k a b = true) : rv E (k + 1) a b = true := by simp [rv, h]
theorem rv_mono {E : Nat → Nat → Bool} {k m a b : Nat} (h : k ≤ m) (hr : rv E k a b = true) : rv E m a b = true := by
  induction h with
  | refl => exact hr
  | step _ ih => exact rv_step ih
theorem rv_trans {E : Nat → Nat → Bool} : ∀ {k a b c : Nat}, c < k → rv E k a c = true → rv E k c b = true → rv E k a b = true
  | k + 1, a, b, c, hc, h1, h2 => by
    simp only [rv, Bool.or_eq_true, Bool.and_eq_true] at h1 h2 ⊢
    by_cases hck : c = k
    · subst hck
      right
      refine ⟨?_, ?_⟩
      · rcases h1 with h1 | h1
        · exact h1
        · exact h1.1
      · rcases h2 with h2 | h2
        · exact h2
        · exact h2.2
    · have hlt : c < k := by omega
      rcases h1 with h1 | ⟨h1, h1'⟩ <;> rcases h2 with h2 | ⟨h2, h2'⟩
      · exact .inl (rv_trans hlt h1 h2)
      · exact .inr ⟨rv_trans hlt h1 h2, h2'⟩
      · exact .inr ⟨h1, rv_trans hlt h1' h2⟩
      · exact .inr ⟨h1, h2'⟩
theorem rv_least {E : Nat → Nat → Bool} {R : Nat → Nat → Prop} (hE : ∀ a b, E a b = true → R a b) : ∀ {k : Nat}, (∀ a b c, c < k → R a c → R c b → R a b) → ∀ {a b : Nat}, rv E k a b = true → R a b
  | 0, _, a, b, h => hE a b h
  | k + 1, hT, a, b, h => by
    simp only [rv, Bool.or_eq_true, Bool.and_eq_true] at h
    have hT' : ∀ a b c, c < k → R a c → R c b → R a b := fun a b c hc => hT a b c (by omega)
    rcases h with h | ⟨h1, h2⟩
    · exact rv_least hE hT' h
    · exact hT a b k (by omega) (rv_least hE hT' h1) (rv_least hE hT' h2)
open Go
theorem wd_orShl {p : Nat → Bool} {k : Nat} : wd p ||| 1#64 <<< k = wd fun i => p i || decide (i = k) := wd_eq fun i hi => by rw [or_bit, wd_bit]; simp [hi]
section
variable (E : Nat → Nat → Bool)
variable {E}
end
set_option linter.unusedSimpArgs false
open Go
theorem sh0 {d : BitVec 64} {k : Nat} : d >>> k &&& 1#64 = 0#64 ↔ d.getLsbD k = false := by
  have h := bit1 d k
  constructor
  · intro e; rw [e] at h; rw [← h]; decide
  · intro e
    rw [e] at h
    refine YJ fun i hi => ?_
    rw [BitVec.getLsbD_and, BitVec.getLsbD_ushiftRight]
    by_cases h0 : i = 0
    · subst h0; simp [e]
    · have : (1#64).getLsbD i = false := by
        rw [show (1#64) = 1#64 <<< 0 from by decide, shl_bit]; simp [h0]
      rw [this, Bool.and_false]; simp
theorem sh1 {d : BitVec 64} {k : Nat} : d >>> k &&& 1#64 = 1#64 ↔ d.getLsbD k = true := by
  rw [← bit1 d k]; simp
theorem sh1n {d : BitVec 64} {k : Nat} : ¬ d >>> k &&& 1#64 = 1#64 ↔ d.getLsbD k = false := by
  rw [sh1]; simp
def rdyN (ps : List (BitVec 64)) (d : BitVec 64) (k : Nat) : BitVec 64 := wd fun a => decide (a < k) && (ps.getD a 0 &&& ~~~d == 0#64)
def readyW (ps : List (BitVec 64)) (d : BitVec 64) : BitVec 64 := rdyN ps d ps.length &&& ~~~d
theorem readyW_bit {ps : List (BitVec 64)} {d : BitVec 64} {a : Nat} (ha : a < 64) : (readyW ps d).getLsbD a = (decide (a < ps.length) && (ps.getD a 0 &&& ~~~d == 0#64) && !d.getLsbD a) := by
  unfold readyW rdyN
  rw [BitVec.getLsbD_and, wd_bit, BitVec.getLsbD_not]; simp [ha]
def downA (ps : List (BitVec 64)) (s : BitVec 64) (a : Nat) : Bool := decide (a < ps.length) && (ps.getD a 0 &&& ~~~s == 0#64)
def downW (ps : List (BitVec 64)) (s : BitVec 64) : Bool := (pl s 0).all (downA ps s)
theorem countP_lt {α : Type} {p q : α → Bool} : ∀ {l : List α}, (∀ x, x ∈ l → p x = true → q x = true) → (∃ x, x ∈ l ∧ q x = true ∧ p x = false) → l.countP p < l.countP q
  | [], _, ⟨x, hx, _⟩ => by cases hx
  | y :: l, h, ⟨x, hx, h1, h2⟩ => by
    have hle : l.countP p ≤ l.countP q := List.countP_mono_left fun z hz => h z (List.mem_cons_of_mem _ hz)
    rcases List.mem_cons.1 hx with rfl | hx
    · rw [List.countP_cons_of_pos h1, List.countP_cons_of_neg (by simp [h2])]; omega
    · have ih := countP_lt (fun z hz => h z (List.mem_cons_of_mem _ hz)) ⟨x, hx, h1, h2⟩
      rw [List.countP_cons, List.countP_cons]
      have := h y (List.mem_cons_self ..)
      by_cases hp : p y = true
      · simp [hp, this hp]; omega
      · have hp' : p y = false := by simpa using hp
        cases hq : q y <;> simp [hp', hq] <;> omega
theorem countP_set {m a : Nat} {p q : Nat → Bool} (ha : a < m) (h0 : p a = false) (h1 : q a = true) (h : ∀ i, i < m → i ≠ a → p i = q i) : (List.range m).countP q = (List.range m).countP p + 1 := by
  induction m with
  | zero => omega
  | succ m ih =>
    rw [List.range_succ, List.countP_append, List.countP_append, List.countP_singleton, List.countP_singleton]
    by_cases hm : a = m
    · subst hm
      have : (List.range a).countP q = (List.range a).countP p := List.countP_congr fun i hi => by rw [h i (by have := List.mem_range.1 hi; omega) (by have := List.mem_range.1 hi; omega)]
      rw [this, h0, h1]; simp
    · rw [ih (by omega) (fun i hi hne => h i (by omega) hne), h m (by omega) (fun e => hm e.symm)]
      split <;> omega
structure Ord (m : Nat) (R : Nat → Nat → Bool) (ps ss : List (BitVec 64)) : Prop where
  le : m ≤ 64
  pl : ps.length = m
  sl : ss.length = m
  pg : ∀ a, a < m → ∀ b, (ps.getD a 0).getLsbD b = R b a
  sg : ∀ a, a < m → ∀ b, (ss.getD a 0).getLsbD b = R a b
  rg : ∀ a b, R a b = true → a < m ∧ b < m
  ir : ∀ a, R a a = false
  tr : ∀ a b c, R a b = true → R b c = true → R a c = true
section
variable {m : Nat} {R : Nat → Nat → Bool} {ps ss : List (BitVec 64)}
structure Come (m : Nat) (R : Nat → Nat → Bool) (d : BitVec 64) : Prop where
  rg : ∀ a, d.getLsbD a = true → a < m
  dn : ∀ a b, R a b = true → d.getLsbD b = true → d.getLsbD a = true
theorem Come.nil : Come m R 0#64 := ⟨fun a h => by simp at h, fun a b _ h => by simp at h⟩
theorem Ord.pred (o : Ord m R ps ss) {a : Nat} (ha : a < m) {d : BitVec 64} : ps.getD a 0 &&& ~~~d = 0#64 ↔ ∀ b, R b a = true → d.getLsbD b = true := by
  rw [andNot_zero]
  have hm := o.le
  exact ⟨fun h b hb => h b (by have := (o.rg _ _ hb).1; omega) (by rw [o.pg a ha]; exact hb), fun h b _ hb => h b (by rw [o.pg a ha] at hb; exact hb)⟩
theorem Ord.ready (o : Ord m R ps ss) {d : BitVec 64} {a : Nat} : (readyW ps d).getLsbD a = true ↔ a < m ∧ (∀ b, R b a = true → d.getLsbD b = true) ∧ d.getLsbD a = false := by
  have hm := o.le
  by_cases h : a < 64
  · rw [readyW_bit h]
    simp only [Bool.and_eq_true, decide_eq_true_eq, beq_iff_eq, Bool.not_eq_true', o.pl]
    constructor
    · rintro ⟨⟨h1, h2⟩, h3⟩; exact ⟨h1, (o.pred h1).1 h2, h3⟩
    · rintro ⟨h1, h2, h3⟩; exact ⟨⟨h1, (o.pred h1).2 h2⟩, h3⟩
  · constructor
    · intro h2; rw [BitVec.getLsbD_of_ge _ _ (by omega)] at h2; cases h2
    · rintro ⟨h1, _⟩; omega
theorem Come.next (o : Ord m R ps ss) {d : BitVec 64} (c : Come m R d) {a : Nat} (ha : (readyW ps d).getLsbD a = true) : Come m R (d ||| 1#64 <<< a) := by
  obtain ⟨h1, h2, h3⟩ := o.ready.1 ha
  have hm := o.le
  refine ⟨fun b hb => ?_, fun b c2 hbc hc => ?_⟩
  · rw [or_bit] at hb
    rcases Bool.or_eq_true _ _ ▸ hb with h | h
    · exact c.rg b h
    · simp at h; omega
  · rw [or_bit] at hc ⊢
    rcases Bool.or_eq_true _ _ ▸ hc with h | h
    · rw [c.dn b c2 hbc h]; rfl
    · simp only [Bool.and_eq_true, decide_eq_true_eq] at h
      obtain ⟨rfl, _⟩ := h
      rw [h2 b hbc]; rfl
def Yz (m : Nat) (d : BitVec 64) : Nat := (List.range m).countP d.getLsbD
theorem come_next {d : BitVec 64} {a : Nat} (ha : a < m) (hm : m ≤ 64) (h : d.getLsbD a = false) : Yz m (d ||| 1#64 <<< a) = Yz m d + 1 := by
  unfold Yz
  refine countP_set ha h ?_ fun i hi hne => ?_
  · rw [or_bit]; simp; omega
  · rw [or_bit]; simp [hne]
theorem come_0 : Yz m 0#64 = 0 := by unfold Yz; rw [List.countP_eq_zero]; simp
end
open Go Go.RowKit
structure EdgesOk (ops : Array Oper) (bef : Array Nat) : Prop where
  edge : ∀ i o, ops[i]? = some o → ∀ e, e ∈ o.after → Region.binds .any e = true → (bef.getD i 0).testBit e.on = true ∧ e.on < ops.size
  back : ∀ i o, ops[i]? = some o → ∀ m, (bef.getD i 0).testBit m = true → ∃ e, e ∈ o.after ∧ Region.binds .any e = true ∧ (e.on = m ∨ (bef.getD e.on 0).testBit m = true)
theorem edges_ok {ops : Array Oper} {bef : Array Nat} (h : befOk ops bef = true) : EdgesOk ops bef := by
  simp only [befOk, List.all_eq_true, List.mem_range] at h
  have hb : ∀ i o, ops[i]? = some o → bef.getD i 0 = o.after.toList.foldl (fun x e => if Region.binds .any e then x ||| 2 ^ e.on ||| bef.getD e.on 0 else x) 0 ∧ ∀ e, e ∈ o.after → Region.binds .any e = true → e.on < ops.size := by
    intro i o ho
    have := h i (Array.getElem?_eq_some_iff.1 ho).1
    rw [ho] at this
    simp only [Bool.and_eq_true, beq_iff_eq, List.all_eq_true, Bool.or_eq_true, Bool.not_eq_true', decide_eq_true_eq] at this
    refine ⟨this.1, fun e he hbd => ?_⟩
    rcases this.2 e (by simpa using he) with h | h
    · rw [hbd] at h; cases h
    · exact h
  refine ⟨fun i o ho e he hbd => ⟨?_, (hb i o ho).2 e he hbd⟩, fun i o ho m hm => ?_⟩
  · rw [(hb i o ho).1, fold_bits]
    exact .inr ⟨e, by simpa using he, hbd, .inl rfl⟩
  · rw [(hb i o ho).1, fold_bits] at hm
    rcases hm with h | ⟨e, he, hbd, h⟩
    · simp at h
    · exact ⟨e, by simpa using he, hbd, h⟩
def Lst (ops : Array Oper) (listed : Array Bool) (pre : List Nat) : Prop := listed.size = ops.size ∧ ∀ i, i < ops.size → (listed.getD i false = true ↔ i ∈ pre)
def left (ops : Array Oper) (listed : Array Bool) : Nat := (List.range ops.size).countP fun i => !listed.getD i false
def WP (S : Sys) (ops : Array Oper) (pre : List Nat) (env : VEnv) (H : Zf) (K : VEnv → Zf → Prop) : Prop :=
  ∀ (ro : Option Nat) (n : Nat) (Q : Exit → Act → World → Prop) (fuel : Nat) (listed : Array Bool) (a : Act) (w : World) (ι : Inj), Lst ops listed pre → left ops listed ≤ fuel → Sim S.w0 ι H w → RelL ι env a.tmps.toList →
    (∀ a' w' ι' env' H', a'.defers = a.defers → Inj.ex H.length ι ι' → H.length ≤ H'.length → Sim S.w0 ι' H' w' → RelL ι' env' a'.tmps.toList → K env' H' → Q .normal a' w') →
    wpAnyIn (WF ro) n S.P .any ops Q fuel listed a w
def closedB (ops : Array Oper) (bef : Array Nat) (pre : List Nat) : Bool := pre.all fun x => (List.range ops.size).all fun m => !(bef.getD x 0).testBit m || pre.contains m
def pivB (ops : Array Oper) (bef : Array Nat) (pre : List Nat) (p : Nat) : Bool :=
  closedB ops bef pre && decide (p < ops.size) && !pre.contains p && (List.range ops.size).all (fun j => pre.contains j || j == p || (bef.getD j 0).testBit p) && (List.range ops.size).all (fun m => !(bef.getD p 0).testBit m || pre.contains m)
def segB (ops : Array Oper) (bef : Array Nat) (pre A : List Nat) : Bool :=
  (List.range ops.size).all (fun i => decide (bef.getD i 0 < 2 ^ ops.size)) && closedB ops bef pre && orderOk bef A && A.all (fun i => decide (i < ops.size) && !pre.contains i) && (List.range ops.size).all (fun j => pre.contains j || A.contains j || A.all fun s => (bef.getD j 0).testBit s) &&
    A.all (fun i => (List.range ops.size).all fun m => !(bef.getD i 0).testBit m || pre.contains m || A.contains m)
section
variable {S : Sys} {H : Zf} {ops : Array Oper} {bef : Array Nat} {env : VEnv} {K : VEnv → Zf → Prop} {pre : List Nat}
theorem listed_size {listed : Array Bool} {i : Nat} (h1 : listed.size = ops.size) (h2 : i < ops.size) : listed.getD i true = listed.getD i false := by
  rw [Array.getD_eq_getD_getElem?, Array.getD_eq_getD_getElem?, Array.getElem?_eq_getElem (by omega)]; rfl
theorem listed_set {listed : Array Bool} {i j : Nat} (h1 : listed.size = ops.size) (h2 : i < ops.size) : (listed.setIfInBounds i true).getD j false = (j == i || listed.getD j false) := by
  rw [Array.getD_eq_getD_getElem?, Array.getElem?_setIfInBounds]
  by_cases hj : i = j
  · subst hj; simp [h1, h2]
  · rw [if_neg hj]
    have : (j == i) = false := by simp; exact fun h => hj h.symm
    rw [this, Bool.false_or, Array.getD_eq_getD_getElem?]
theorem left_set {listed : Array Bool} {i : Nat} (h1 : listed.size = ops.size) (h2 : i < ops.size) (h3 : listed.getD i false = false) : left ops (listed.setIfInBounds i true) < left ops listed := by
  unfold left
  refine countP_lt (fun j _ h => ?_) ⟨i, List.mem_range.2 h2, by simp [h3], by rw [listed_set h1 h2]; simp⟩
  rw [listed_set h1 h2] at h
  simp only [Bool.not_eq_true', Bool.or_eq_false_iff] at h ⊢
  exact h.2
theorem left_pos {listed : Array Bool} {i : Nat} (h2 : i < ops.size) (h3 : listed.getD i false = false) : 0 < left ops listed :=
  List.countP_pos_iff.2 ⟨i, List.mem_range.2 h2, by simp [h3]⟩
theorem P_end (hall : (List.range ops.size).all (fun i => pre.contains i) = true) (h : K env H) : WP S ops pre env H K := by
  intro ro n Q fuel listed a w ι hl hf s r hQ
  have hready : Region.ready .any ops listed = [] := by
    cases hr : Region.ready .any ops listed with
    | nil => rfl
    | cons i rest =>
      have hi : i ∈ Region.ready .any ops listed := by rw [hr]; exact List.mem_cons_self ..
      obtain ⟨hun, o, ho, _⟩ := mem_ready.1 hi
      have hlt := (Array.getElem?_eq_some_iff.1 ho).1
      rw [listed_size hl.1 hlt] at hun
      have := (hl.2 i hlt).2 (by simpa using List.all_eq_true.1 hall i (List.mem_range.2 hlt))
      rw [hun] at this; cases this
  have hq := hQ a w ι env H rfl (Inj.ex_refl _ _) (Nat.le_refl _) s r h
  cases fuel with
  | zero => exact ⟨hready, hq⟩
  | succ fuel => exact ⟨fun _ => hq, fun i hi => by rw [hready] at hi; cases hi⟩
theorem P_piv (p : Nat) {o : Oper} {f : VVal} {args : List VVal} {R : VVal → Zf → Prop} (hb : befOk ops bef = true) (hp : pivB ops bef pre p = true) (ho : ops[p]? = some o) (hg : Yk ops env o.guard = some true) (hc : Z5 S.C.meth env.eval o.op = some (f, args)) (hu : f.isUndef = false)
    (hF : Fv S f args H R) (h : ∀ v G, R v G → WP S ops (pre ++ [p]) (env.put o.dst v) G K) : WP S ops pre env H K := by
  have E := edges_ok hb
  simp only [pivB, Bool.and_eq_true, decide_eq_true_eq, Bool.not_eq_true', List.all_eq_true, List.mem_range, Bool.or_eq_true, List.contains_iff_mem, beq_iff_eq, closedB] at hp
  obtain ⟨⟨⟨⟨hcl, hps⟩, hpn⟩, hlate⟩, hself⟩ := hp
  have hpn : p ∉ pre := by simpa using hpn
  have notP : ∀ {x : Nat} {m : Nat} {Z : Prop}, (bef.getD x 0).testBit m = true → ((bef.getD x 0).testBit m = false ∨ Z) → Z := fun h h2 => by
    rcases h2 with h2 | h2
    · rw [h] at h2; cases h2
    · exact h2
  intro ro n Q fuel listed a w ι hl hf s r hQ
  have hpl : listed.getD p false = false := by
    cases hh : listed.getD p false with
    | false => rfl
    | true => exact absurd ((hl.2 p hps).1 hh) hpn
  cases fuel with
  | zero => have := left_pos (ops := ops) hps hpl; omega
  | succ fuel =>
    refine ⟨fun hnil => ?_, fun i hi => ?_⟩
    · exfalso
      have : p ∈ Region.ready .any ops listed := by
        rw [mem_ready]
        refine ⟨by rw [listed_size hl.1 hps]; exact hpl, o, ho, fun e he hbd => ?_⟩
        obtain ⟨h1, h2⟩ := E.edge p o ho e he hbd
        exact (hl.2 _ h2).2 (notP h1 (hself e.on h2))
      rw [hnil] at this; cases this
    · obtain ⟨hun, o', ho', hall⟩ := mem_ready.1 hi
      have hlt := (Array.getElem?_eq_some_iff.1 ho').1
      rw [listed_size hl.1 hlt] at hun
      have hip : i = p := by
        have hni : i ∉ pre := fun hh => by rw [(hl.2 i hlt).2 hh] at hun; cases hun
        rcases hlate i hlt with (h1 | h1) | h1
        · exact absurd h1 hni
        · exact h1
        · obtain ⟨e, he, hbd, h2⟩ := E.back i o' ho' p h1
          have hon := (hl.2 e.on (E.edge i o' ho' e he hbd).2).1 (hall e he hbd)
          rcases h2 with h2 | h2
          · rw [h2] at hon; exact absurd hon hpn
          · exact absurd (notP h2 (hcl e.on hon p hps)) hpn
      subst hip
      have ho2 : o' = o := by rw [ho] at ho'; cases ho'; rfl
      subst ho2
      unfold wpOpIn
      rw [ho]
      refine op_call hg hc (VVal.ne_undef hu) hF s (fun x _ => rel_eval r x) (fun _ _ d _ _ => rel_slot r d) (fun x w1 ι1 v G e1 hl1 s1 r1 hR => ?_)
      refine h v G hR ro n Q fuel _ _ w1 ι1 ⟨by simp [hl.1], fun j hj => ?_⟩ (by have := left_set hl.1 hlt hpl; omega) s1 (rel_put (RelL.mono (s.le e1) _ _ r) _ r1) fun a' w' ι' env' H' d1 d2 d3 d4 d5 d6 => hQ a' w' ι' env' H' (d1.trans (Y2 _ _ _)) (Inj.ex_trans e1 d2 hl1) (by omega) d4 d5 d6
      rw [listed_set hl.1 hlt, Bool.or_eq_true, beq_iff_eq, hl.2 j hj, List.mem_append, List.mem_singleton]
      exact Or.comm
theorem P_seg (A : List Nat) (hb : befOk ops bef = true) (ht : tmpsOk ops bef = true) (hp : segB ops bef pre A = true) (h : WO S ops bef A env H [] fun env1 H1 => WP S ops (pre ++ A) env1 H1 K) : WP S ops pre env H K := by
  have E := edges_ok hb
  simp only [segB, Bool.and_eq_true, decide_eq_true_eq, Bool.not_eq_true', List.all_eq_true, List.mem_range, Bool.or_eq_true, List.contains_iff_mem, closedB] at hp
  obtain ⟨⟨⟨⟨⟨hsm, hcl⟩, hoo⟩, hA⟩, hlate⟩, hin⟩ := hp
  have hA : ∀ i, i ∈ A → i < ops.size ∧ i ∉ pre := fun i hi => ⟨(hA i hi).1, by simpa using (hA i hi).2⟩
  have notP : ∀ {x : Nat} {m : Nat} {Z : Prop}, (bef.getD x 0).testBit m = true → ((bef.getD x 0).testBit m = false ∨ Z) → Z := fun h h2 => by
    rcases h2 with h2 | h2
    · rw [h] at h2; cases h2
    · exact h2
  obtain ⟨call, hv, h⟩ := h
  obtain ⟨envF, HF, tr, hrun, hfine, hN⟩ := h [] .nil
  obtain ⟨Z, hZi, htr, hch⟩ := runOps_chain (fun i => (hv i).len) _ _ _ _ _ _ _ hrun
  simp only [List.nil_append] at htr
  subst htr
  have hord := orderOk_pw hoo
  rw [← hZi] at hord
  have okS : ∀ s, s ∈ Z → StOk S.C call ops s := fun s hs => ((Z4 hch).2.1 s hs).2
  have lt : ∀ s, s ∈ Z → s.i < ops.size := fun s hs => (Array.getElem?_eq_some_iff.1 (okS s hs).1).1
  have inA : ∀ s, s ∈ Z → s.i ∈ A := fun s hs => by rw [← hZi]; exact List.mem_map.2 ⟨s, hs, rfl⟩
  have ofA : ∀ i, i ∈ A → ∃ s, s ∈ Z ∧ s.i = i := fun i hi => by rw [← hZi] at hi; exact List.mem_map.1 hi
  have hp1 := List.pairwise_map.1 hord.1
  have hp2 := List.pairwise_map.1 (fineAll_pw hfine)
  have Rn : Run S.C call ops (fun i => bef.getD i 0) env H Z envF HF := by
    refine ⟨hch, ?_, ?_⟩
    · refine (hp1.and hp2).imp ?_
      intro x y hxy
      exact ⟨hxy.1.1, hxy.2, hxy.1.2⟩
    · intro x hx y hy hne t htt hn
      simp only [tmpsOk, List.all_eq_true, List.mem_range] at ht
      have := ht y.i (lt y hy) x.i (lt x hx)
      rw [(okS x hx).1, (okS y hy).1] at this
      simp only [Option.bind_some, htt, Bool.or_eq_true, beq_iff_eq, Bool.not_eq_true'] at this
      rcases this with h | h | h
      · exact absurd h hne
      · have : (YO ops y.o).contains t = true := by simpa using hn
        rw [h] at this; cases this
      · rcases Nat.lt_or_gt_of_ne hne with hlt | hlt
        · rw [Nat.max_eq_right (by omega), Nat.min_eq_left (by omega)] at h
          exact .inl h
        · rw [Nat.max_eq_left (by omega), Nat.min_eq_right (by omega)] at h
          exact .inr h
  intro ro n Q fuel listed a w ι hl hf s r hQ
  have key : ∀ (fuel : Nat) (listed : Array Bool) (a1 : Act) (w : World), listed.size = ops.size → (∀ i, i < ops.size → listed.getD i false = true → i ∈ pre ∨ i ∈ A) → (∀ i, i ∈ pre → i < ops.size → listed.getD i false = true) → left ops listed ≤ fuel →
      Inv S.w0 ι a.defers env H Z (fun i => listed.getD i false) a1 w → Cl (fun i => bef.getD i 0) Z (fun i => listed.getD i false) → wpAnyIn (WF ro) n S.P .any ops Q fuel listed a1 w := by
    intro fuel
    induction fuel with
    | zero =>
      intro listed a1 w hsz h1 h2 hcnt hI hc
      have hall : ∀ s, s ∈ Z → listed.getD s.i false = true := by
        intro s hs
        cases hh : listed.getD s.i false with
        | true => rfl
        | false => have := left_pos (ops := ops) (lt s hs) hh; omega
      obtain ⟨ι', hex, hsim, hrel, hds, _⟩ := hI
      obtain ⟨e1, e2⟩ := hp_end Rn.chain (D := fun i => listed.getD i false) hall
      rw [e1] at hsim
      rw [e2] at hrel
      exact hN ro n Q 0 listed a1 w ι' ⟨hsz, fun i hi => ⟨fun hh => List.mem_append.2 (h1 i hi hh), fun hh => by
        rcases List.mem_append.1 hh with hh | hh
        · exact h2 i hh hi
        · obtain ⟨u, hu, rfl⟩ := ofA i hh; exact hall u hu⟩⟩ hcnt hsim hrel fun a' w' ι2 env' H' d1 d2 d3 d4 d5 d6 => hQ a' w' ι2 env' H' (d1.trans hds) (Inj.ex_trans hex d2 (Z4 hch).1) (Nat.le_trans (Z4 hch).1 d3) d4 d5 d6
    | succ fuel ih =>
      intro listed a1 w hsz h1 h2 hcnt hI hc
      by_cases hall : ∀ s, s ∈ Z → listed.getD s.i false = true
      · obtain ⟨ι', hex, hsim, hrel, hds, _⟩ := hI
        obtain ⟨e1, e2⟩ := hp_end Rn.chain (D := fun i => listed.getD i false) hall
        rw [e1] at hsim
        rw [e2] at hrel
        exact hN ro n Q _ listed a1 w ι' ⟨hsz, fun i hi => ⟨fun hh => List.mem_append.2 (h1 i hi hh), fun hh => by
          rcases List.mem_append.1 hh with hh | hh
          · exact h2 i hh hi
          · obtain ⟨u, hu, rfl⟩ := ofA i hh; exact hall u hu⟩⟩ hcnt hsim hrel fun a' w' ι2 env' H' d1 d2 d3 d4 d5 d6 => hQ a' w' ι2 env' H' (d1.trans hds) (Inj.ex_trans hex d2 (Z4 hch).1) (Nat.le_trans (Z4 hch).1 d3) d4 d5 d6
      · have hex : ∃ s, s ∈ Z ∧ listed.getD s.i false = false := by
          apply Classical.byContradiction
          intro hn
          refine hall fun s hs => ?_
          cases hh : listed.getD s.i false with
          | true => rfl
          | false => exact absurd ⟨s, hs, hh⟩ hn
        refine ⟨fun hnil => ?_, fun i hi => ?_⟩
        · exfalso
          obtain ⟨B1, u, B2, hZ, hB1, hu⟩ := first_false (D := fun i => listed.getD i false) hex
          have humem : u ∈ Z := by rw [hZ]; exact List.mem_append_right _ (List.mem_cons_self ..)
          have hpw := Rn.pw
          rw [hZ] at hpw
          have hpB := (List.pairwise_cons.1 (List.pairwise_append.1 hpw).2.1).1
          have : u.i ∈ Region.ready .any ops listed := by
            rw [mem_ready]
            refine ⟨by rw [listed_size hsz (lt u humem)]; exact hu, u.o, (okS u humem).1, fun e he hbd => ?_⟩
            obtain ⟨hbit, hlt⟩ := E.edge u.i u.o (okS u humem).1 e he hbd
            rcases hin u.i (inA u humem) e.on hlt with (hx | hx) | hx
            · rw [hbit] at hx; cases hx
            · exact h2 _ hx hlt
            · obtain ⟨x, hx, hxi⟩ := ofA _ hx
              rw [hZ] at hx
              rcases List.mem_append.1 hx with hx | hx
              · rw [← hxi]; exact hB1 x hx
              · rcases List.mem_cons.1 hx with rfl | hx
                · rw [← hxi, hord.2 x.i (List.mem_map.2 ⟨x, humem, rfl⟩)] at hbit; cases hbit
                · rw [← hxi, (hpB x hx).1] at hbit; cases hbit
          rw [hnil] at this; cases this
        · obtain ⟨hun, o, ho, hedge⟩ := mem_ready.1 hi
          have hlt := (Array.getElem?_eq_some_iff.1 ho).1
          rw [listed_size hsz hlt] at hun
          have hbm : ∀ m, (bef.getD i 0).testBit m = true → m < ops.size → listed.getD m false = true := by
            intro m hm hms
            obtain ⟨e, he, hbd, h⟩ := E.back i o ho m hm
            have hon := hedge e he hbd
            have hlon := (E.edge i o ho e he hbd).2
            rcases h with rfl | h
            · exact hon
            · rcases h1 e.on hlon hon with h3 | h3
              · exact h2 m (notP h (hcl e.on h3 m hms)) hms
              · obtain ⟨x, hx, hxi⟩ := ofA _ h3
                exact hc x hx (by rw [hxi]; exact hon) m (by rw [hxi]; exact h)
          obtain ⟨u, hu, hui⟩ : ∃ u, u ∈ Z ∧ u.i = i := by
            rcases hlate i hlt with (h3 | h3) | h3
            · rw [h2 i h3 hlt] at hun; cases hun
            · exact ofA i h3
            · obtain ⟨v, hvz, hvf⟩ := hex
              rw [hbm v.i (h3 v.i (inA v hvz)) (lt v hvz)] at hvf; cases hvf
          subst hui
          have hso : u.o = o := by have := (okS u hu).1; rw [ho] at this; cases this; rfl
          subst hso
          have hball : ∀ m, (bef.getD u.i 0).testBit m = true → listed.getD m false = true := fun m hm => hbm m hm (by
            apply Classical.byContradiction
            intro hge
            rw [Nat.testBit_lt_two_pow (Nat.lt_of_lt_of_le (hsm u.i hlt) (Nat.pow_le_pow_right (by omega) (Nat.le_of_not_lt hge)))] at hm
            cases hm)
          have hfun : (fun i => (listed.setIfInBounds u.i true).getD i false) = mark (fun i => listed.getD i false) u.i := funext fun j => listed_set hsz hlt
          unfold wpOpIn
          rw [ho]
          refine draw_step S.ok hv Rn hI hc hu hun hball (fun a' w' hI' => ?_)
          refine ih _ a' w' (by simp [hsz]) (fun j hj hjl => ?_) (fun j hj hjs => ?_) (by have := left_set hsz hlt hun; omega) (by rw [hfun]; exact hI') ?_
          · rw [listed_set hsz hlt, Bool.or_eq_true, beq_iff_eq] at hjl
            rcases hjl with rfl | hjl
            · exact .inr (inA u hu)
            · exact h1 j hj hjl
          · rw [listed_set hsz hlt, h2 j hj hjs, Bool.or_true]
          · rw [hfun]
            intro v hvz hDv m hm
            by_cases hvi : v.i = u.i
            · simp only [hvi] at hm
              simp [mark, hball m hm]
            · have h0 : listed.getD v.i false = true := by
                simp only [mark, Bool.or_eq_true, beq_iff_eq] at hDv
                rcases hDv with h | h
                · exact absurd h hvi
                · exact h
              have := hc v hvz h0 m hm
              simp only at this
              simp [mark, this]
  have hD0 : ∀ u, u ∈ Z → listed.getD u.i false = false := by
    intro u hu
    cases hh : listed.getD u.i false with
    | false => rfl
    | true => exact absurd ((hl.2 u.i (lt u hu)).1 hh) (hA u.i (inA u hu)).2
  refine key fuel listed a w hl.1 (fun i hi hh => .inl ((hl.2 i hi).1 hh)) (fun i hi his => (hl.2 i his).2 hi) hf ?_ ?_
  · obtain ⟨X, hX⟩ := hp_ext S.ok.tys (D := fun i => listed.getD i false) hch (fun u hu _ => hD0 u hu)
    refine ⟨ι, Inj.ex_refl _ _, ?_, ?_, rfl, ?_⟩
    · rw [hX]; exact s.extend X
    · have : ∀ (T : List St) (e : VEnv), (∀ u, u ∈ T → listed.getD u.i false = false) → ev (fun i => listed.getD i false) T e = e := by
        intro T
        induction T with
        | nil => intro e _; rfl
        | cons u T ih =>
          intro e hT
          unfold ev
          rw [if_neg (by rw [hT u (List.mem_cons_self ..)]; simp)]
          exact ih e fun v hv => hT v (List.mem_cons_of_mem _ hv)
      rw [this Z env hD0]; exact r
    · intro u hu _ id hid
      cases hx : ι id with
      | none => rfl
      | some e =>
        have h1 := s.dom id e hx
        have h2 := ((Z4 hch).2.1 u hu).1
        rcases st_cases (okS u hu) with ⟨_, _, _, e⟩ | ⟨_, _, _, _, e⟩ | ⟨_, _, _, _, e⟩ | ⟨_, _, _, _, e⟩ | e <;> rw [e] at hid <;> cases hid
        omega
  · intro u hu hD
    have hD : listed.getD u.i false = true := hD
    rw [hD0 u hu] at hD; cases hD
theorem B_drawP {H0 : Zf} {rd : Option Nat} {id : Nat} {Q : Post} (bef : Array Nat) (hb : Region.before ops = bef) (h : WP S ops [] env H fun env H => Q .normal env H) : B S H0 rd (.region id ops true) env H Q := by
  intro ro n D0 a w ι g1 g2 g3 g4 g5 g6
  refine wpIn_region_any S.ok.mixed ?_
  refine h ro n _ ops.size (Array.replicate ops.size false) a _ ι ⟨by simp, fun i hi => ?_⟩ ?_ (Sim.drew g4) g5 fun a' w' ι' env' H' d1 d2 d3 d4 d5 d6 => ⟨ι', env', H', d2.go g3, by omega, d4, d5, by rw [d1]; exact g6.df d2.2.2, d6⟩
  · simp [Array.getD_eq_getD_getElem?, hi]
  · exact Nat.le_trans List.countP_le_length (by simp)
end
open Go Go.RowKit
def okPair : Cls → Cls → Bool
  | .calm, _ | _, .calm | .look, .look | .look, .grow | .grow, .look | .grow, .grow => true
  | _, _ => false
def openPos (bef : Array Nat) (ks : List (Nat × Cls)) : List (Nat × Nat) :=
  (List.range ks.length).flatMap fun p => (List.range ks.length).filterMap fun q =>
    match ks[p]?, ks[q]? with
    | some (i, c), some (j, d) => if p < q && !(bef.getD j 0).testBit i && !okPair c d then some (p, q) else none
    | _, _ => none
def kinds (tk : List (Nat × Tr)) : List (Nat × Cls) := tk.map fun p => (p.1, p.2.kind)
structure FineAt (tk : List (Nat × Tr)) (p q : Nat) (i j : Nat) (a b : Item') : Prop where
  l : tk[p]? = some (i, .it a)
  r : tk[q]? = some (j, .it b)
  f : fine a b
def AllF (tk : List (Nat × Tr)) : List (Nat × Nat) → Prop
  | [] => True
  | (p, q) :: l => (∃ i j a b, FineAt tk p q i j a b) ∧ AllF tk l
theorem AllF.mem {tk : List (Nat × Tr)} {p q : Nat} : ∀ {l : List (Nat × Nat)}, AllF tk l → (p, q) ∈ l → ∃ i j a b, FineAt tk p q i j a b
  | [], _, h => by cases h
  | (p', q') :: l, h, hm => by
    rcases List.mem_cons.1 hm with e | hm
    · cases e; exact h.1
    · exact AllF.mem h.2 hm
theorem match2_get {p : Nat} : ∀ {l : List (Nat × Tr)} {m : List (Nat × Item')}, Match2 l m → ∀ {j : Nat} {b : Item'}, m[p]? = some (j, b) → ∃ y, l[p]? = some (j, y) ∧ y.ok b
  | _, _, .nil, _, _, h => by simp at h
  | x :: l, y :: m, .cons h t, j, b, hm => by
    cases p with
    | zero =>
      simp only [List.getElem?_cons_zero, Option.some.injEq] at hm ⊢
      subst hm
      exact ⟨x.2, Prod.ext h.1 rfl, h.2⟩
    | succ p => simp only [List.getElem?_cons_succ] at hm ⊢; exact match2_get t hm
theorem fineAll_pos {bef : Array Nat} : ∀ {m : List (Nat × Item')}, (∀ (p q i : Nat) (a : Item') (j : Nat) (b : Item'), p < q → m[p]? = some (i, a) → m[q]? = some (j, b) → (bef.getD j 0).testBit i = false → fine a b) → fineAll bef m
  | [], _ => trivial
  | (i, a) :: m, h => by
    refine ⟨fun y hy hb => ?_, fineAll_pos fun p q i' a' j b hpq h1 h2 h3 => h (p + 1) (q + 1) i' a' j b (by omega) (by simpa using h1) (by simpa using h2) h3⟩
    obtain ⟨q, hq⟩ := List.getElem?_of_mem hy
    exact h 0 (q + 1) i a y.1 y.2 (by omega) rfl (by simpa using hq) hb
theorem fine_ok {a b : Item'} (h : okPair (kindOf a) (kindOf b) = true) : fine a b := by
  cases a <;> cases b <;> simp [kindOf, okPair, fine] at h ⊢
theorem gA {l : List (Nat × Tr)} {x y : Nat × Tr} {p : Nat} (h : l[p]? = some y) : (l ++ [x])[p]? = some y := by
  rw [List.getElem?_append_left (List.getElem?_eq_some_iff.1 h).1]; exact h
theorem gL {l : List (Nat × Tr)} {x : Nat × Tr} {p : Nat} (h : l.length = p) : (l ++ [x])[p]? = some x := by
  subst h; simp
theorem O_nilP {S : Sys} {ops : Array Oper} {bef : Array Nat} {env : VEnv} {H : Zf} {tk : List (Nat × Tr)} {K : VEnv → Zf → Prop} (ps : List (Nat × Nat)) (hn : openPos bef (kinds tk) = ps) (hp : AllF tk ps) (h : K env H) : WO S ops bef [] env H tk K := by
  refine ⟨fun _ => noCall, fun _ => noCall_ok, fun tr htr => ⟨env, H, tr, rfl, fineAll_pos fun p q i a j b hpq h1 h2 h3 => ?_, h⟩⟩
  obtain ⟨x, e1, o1⟩ := match2_get htr h1
  obtain ⟨y, e2, o2⟩ := match2_get htr h2
  by_cases hok : okPair (kindOf a) (kindOf b) = true
  · exact fine_ok hok
  · have hm : (p, q) ∈ ps := by
      rw [← hn]
      have k1 : (kinds tk)[p]? = some (i, x.kind) := by unfold kinds; rw [List.getElem?_map, e1]; rfl
      have k2 : (kinds tk)[q]? = some (j, y.kind) := by unfold kinds; rw [List.getElem?_map, e2]; rfl
      have l1 := (List.getElem?_eq_some_iff.1 k1).1
      have l2 := (List.getElem?_eq_some_iff.1 k2).1
      refine List.mem_flatMap.2 ⟨p, List.mem_range.2 l1, List.mem_filterMap.2 ⟨q, List.mem_range.2 l2, ?_⟩⟩
      simp only [k1, k2, Tr.kind_ok o1, Tr.kind_ok o2, hpq, decide_true, h3, Bool.not_false, Bool.true_and]
      rw [if_pos (by simpa using hok)]
    obtain ⟨i', j', a', b', f⟩ := AllF.mem hp hm
    have g1 := f.l; have g2 := f.r
    rw [e1] at g1; rw [e2] at g2
    simp only [Option.some.injEq, Prod.mk.injEq] at g1 g2
    obtain ⟨_, rfl⟩ := g1
    obtain ⟨_, rfl⟩ := g2
    have h5 : a = a' := o1
    have h6 : b = b' := o2
    rw [h5, h6]; exact f.f
open Go Go.RowKit
section
variable {S : Sys} {H0 H : Zf} {rd : Option Nat} {env : VEnv} {Q : Post}
theorem B_seqJ {x y : Code} {α : Type} (mask : List Bool) (W : α → List (Nat × VVal)) (inv : α → Zf → Prop)
    (h1 : B S H0 rd x env H (loopK S H0 (fun e G => ∃ z : α, e = upd (mclear mask env) (W z) ∧ inv z G) Q)) (h2 : ∀ z G, inv z G → B S H0 rd y (upd (mclear mask env) (W z)) G Q) : B S H0 rd (.seq x y) env H Q := by
  refine Zd (h1.mono ?_)
  intro e v G hq
  cases e
  case normal =>
    obtain ⟨env', H', g, z, rfl, hi⟩ := hq
    exact Zc (Yu g (h2 z H' hi))
  all_goals exact hq
theorem B_ghLV {X : Zf} {c : Code} {env' : VEnv} {es : Nat} {v : VVal} {cs : List VVal} {len : Nat} (i : Nat) (l : LV H.length es X v cs len) (hv : env[i]? = some v) (he : env.set i (.fsl cs len es false) = env')
    (h : ∀ X', X'.length = X.length → (∀ j, YU v ≠ some (H.length + j) → X'[j]? = X[j]?) → B S H0 rd c env' (H ++ X') Q) : B S H0 rd c env (H ++ X) Q := by
  obtain ⟨X', g, h1, h2⟩ := Gh.freezeLV i l hv he
  exact Yu g (h X' h1 h2)
end
section
variable {S : Sys} {H : Zf} {ops : Array Oper} {bef : Array Nat} {env : VEnv} {K : VEnv → Zf → Prop} {pre : List Nat}
theorem P_env {env' : VEnv} (he : env = env') (h : WP S ops pre env' H K) : WP S ops pre env H K := he ▸ h
theorem P_call (p : Nat) {o : Oper} {f : FuncId} {first cap args : List VVal} {all : List VVal} {R : VVal → Zf → Prop} (hb : befOk ops bef = true) (hp : pivB ops bef pre p = true) (ho : ops[p]? = some o) (hg : Yk ops env o.guard = some true) (hc : Z5 S.C.meth env.eval o.op = some (.func f first cap, args)) (ha : first ++ args ++ cap = all)
    (hF : F S f all H R) (h : ∀ v G, R v G → WP S ops (pre ++ [p]) (env.put o.dst v) G K) : WP S ops pre env H K :=
  P_piv p hb hp ho hg hc rfl (Fv_fn (ha ▸ hF)) h
end
open Go Go.RowKit
theorem F_split0 {S : Sys} {f : FuncId} {H : Zf} {R : VVal → Zf → Prop} {es : Nat} {ex : Bool} {rest : List VVal} (h1 : F S f (.slice none 0 0 true 0 :: rest) H R) (h2 : F S f (.slice none 0 0 false 0 :: rest) H R) : F S f (.fsl [] 0 es ex :: rest) H R := by
  intro n w ι args' s r
  obtain ⟨y, ys, e, r1, r2⟩ := r
  simp only [Rel] at r1
  obtain ⟨a, c, xs, rfl, hlc, hcx, hnone, _⟩ := r1
  cases a with
  | none =>
    have := hnone rfl
    subst this
    exact h1 n w ι args' s ⟨_, ys, e, by simp [Rel], r2⟩
  | some ad => exact h2 n w ι args' s ⟨_, ys, e, by simp [Rel], r2⟩
section
variable {T : TypeId → Option VTy} {ρ : Operand → VVal} {H : Zf} {op : Op}
theorem cells_one {cs : List VVal} {off n : Nat} (h : off + n ≤ cs.length) : Zx cs off n = some ((cs.drop off).take n) := by
  unfold Zx; rw [if_pos h]
theorem v_slLH {t e : TypeId} {x : Operand} {lo hi mx : Option Operand} {y z : VTy} {b off len cap l h m : Nat} {ex : Bool} (ho : op = .slice t x lo hi mx) (hy : T t = some y) (hd : y.desc = .slice e) (hz : T e = some z) (hs : z.size = 1) (hx : ρ x = .slice (some (b, off)) len cap ex 1)
    (hb : Yt len cap (lo.map ρ) (hi.map ρ) (mx.map ρ) = some (l, h, m)) (hmx : (mx.isSome && hi.isNone) = false) (hc : len ≤ cap) (hl : l < m) : vop T ρ H op = some (.slice (some (b, off + l)) (h - l) (m - l) (ex || mx.isSome) 1, H) := by
  rw [ho]
  have h1 : ((mx.map ρ).isSome && (hi.map ρ).isNone) = false := by simpa using hmx
  simp only [vop, vslice, hy, hd, hz, hx, Option.map_some, hb, h1]
  rw [if_neg (by omega), if_pos ⟨hs, .inl hl⟩]
  simp
theorem vb_lo {len cap l : Nat} {kd : IntKind} (h : l ≤ len) (hc : len ≤ cap) : Yt len cap (some (.int kd l)) none none = some (l, len, cap) := by
  unfold Yt
  simp only
  rw [if_pos (by omega)]; rfl
theorem vb_hi {len cap h : Nat} {kd : IntKind} (hh : h ≤ cap) : Yt len cap none (some (.int kd h)) none = some (0, h, cap) := by
  unfold Yt
  simp only
  rw [if_pos (by omega)]; rfl
theorem vb_lh {len cap l h : Nat} {kd kd2 : IntKind} (hl : l ≤ h) (hh : h ≤ cap) : Yt len cap (some (.int kd l)) (some (.int kd2 h)) none = some (l, h, cap) := by
  unfold Yt
  simp only
  rw [if_pos (show (0 : Int) ≤ h ∧ (h : Int) ≤ cap by omega)]
  simp only [Int.toNat_natCast]
  rw [if_pos (by omega)]
theorem vb_lhm {len cap l h m : Nat} {kd kd2 kd3 : IntKind} (hl : l ≤ h) (hh : h ≤ m) (hm : m ≤ cap) : Yt len cap (some (.int kd l)) (some (.int kd2 h)) (some (.int kd3 m)) = some (l, h, m) := by
  unfold Yt
  simp only
  rw [if_pos (show (0 : Int) ≤ m ∧ (m : Int) ≤ cap by omega)]
  simp only [Int.toNat_natCast]
  rw [if_pos (show (0 : Int) ≤ h ∧ (h : Int) ≤ m by omega)]
  simp only [Int.toNat_natCast]
  rw [if_pos (by omega)]
theorem v_slTail {t e : TypeId} {x lo : Operand} {y z : VTy} {b n l : Nat} {ex rw' : Bool} {cs : List VVal} {kd : IntKind} (ho : op = .slice t x (some lo) none none) (hy : T t = some y) (hd : y.desc = .slice e) (hz : T e = some z) (hs : z.size = 1) (hx : ρ x = .slice (some (b, 0)) n n ex 1) (hlo : ρ lo = .int kd (l : Nat)) (hl : l ≤ n)
    (hb : H[b]? = some (.cells cs rw')) (hcs : cs.length = n) : ∃ v G, vop T ρ H op = some (v, G) ∧ G = H ∧ srcLen v = some (n - l) ∧ Z3 H 1 (n - l) v = some (cs.drop l) := by
  have hbd : Yt n n (some (ρ lo)) none none = some (l, n, n) := by rw [hlo]; exact vb_lo hl (Nat.le_refl _)
  by_cases h : l < n
  · have := v_slLH (H := H) (lo := some lo) (hi := none) (mx := none) ho hy hd hz hs hx hbd rfl (Nat.le_refl _) h
    refine ⟨_, _, this, rfl, rfl, ?_⟩
    unfold Z3
    simp only [Nat.zero_add, hb, Nat.mul_one]
    rw [cells_one (by omega), List.take_of_length_le (by rw [List.length_drop]; omega)]
  · have hln : l = n := by omega
    subst hln
    have hd0 : cs.drop l = [] := List.drop_of_length_le (by omega)
    rw [ho]
    have hb2 : Yt l l (some (ρ lo)) none none = some (l, l, l) := hbd
    simp only [vop, vslice, hy, hd, hz, hx, Option.map_some, Option.map_none, hb2, Option.isSome_none, Option.isNone_none, Bool.false_and]
    rw [if_neg (by omega)]
    by_cases h0 : l = 0
    · subst h0
      rw [if_pos ⟨hs, .inr ⟨rfl, rfl⟩⟩]
      refine ⟨_, _, rfl, rfl, rfl, ?_⟩
      unfold Z3
      simp only [Nat.zero_add, hb, Nat.mul_one, Nat.sub_self, Nat.zero_mul]
      rw [cells_one (by omega)]; simp [hd0]
    · rw [if_neg (by omega), if_pos (by simp [hs])]
      simp only [Bool.or_false, Nat.sub_self]
      by_cases hex : ex = true
      · rw [if_pos hex]
        refine ⟨_, _, rfl, rfl, rfl, ?_⟩
        unfold Z3
        simp only [hb, Nat.zero_mul]
        rw [cells_one (by omega), hd0]; simp
      · rw [if_neg hex]
        refine ⟨_, _, rfl, rfl, rfl, ?_⟩
        unfold Z3; rw [hd0]
theorem v_appIn {s x : Operand} {ats : Array TypeId} {t u e : TypeId} {z : VTy} {du : TypeDesc} {cs fs : List VVal} {b n k c : Nat} {ex : Bool}
    (ho : op = .call { callee := .builtin .append, args := #[s, x], argTypes := ats }) (hat : ats = #[t, u]) (hz : velem T t = some (e, z)) (hu : (T u).map (·.desc) = some du) (hdu : isSeq du = true) (hs1 : z.size = 1)
    (hs : ρ s = .slice (some (b, 0)) n c ex 1) (hb : H[b]? = some (.cells cs true)) (hk : srcLen (ρ x) = some k) (hsrc : Z3 H 1 k (ρ x) = some fs) (hn : fs.length = k) (h1 : fs.all VVal.one = true)
    (hby : (n + k) * z.bytes ≤ 140737488355328 ∧ n + k ≤ 140737488355328) (hc : n + k ≤ c) (hl : n ≤ cs.length) : vop T ρ H op = some (.slice (some (b, 0)) (n + k) c ex 1, H.set b (.cells (ZH cs n fs) true)) := by
  rw [ho, hat]
  simp only [vop, ZW, List.map_cons, List.map_nil, YH, hz, hs, hu, hk]
  rw [hs1, hsrc]
  simp only
  rw [if_pos ⟨by omega, h1, by omega, hby.1, hby.2, hdu⟩, if_pos trivial, hb]
  simp only
  rw [if_pos hc]
  by_cases h0 : k = 0
  · subst h0
    rw [if_pos rfl]
    have : fs = [] := List.eq_nil_of_length_eq_zero hn
    subst this
    have hsp : ZH cs n [] = cs := by unfold ZH; simp
    rw [hsp]
    have : H.set b (.cells cs true) = H := by
      apply List.ext_getElem?
      intro i
      rw [List.getElem?_set]
      by_cases e : b = i
      · subst e; rw [if_pos rfl, hb, if_pos (List.getElem?_eq_some_iff.1 hb).1]
      · rw [if_neg e]
    rw [this]; rfl
  · rw [if_neg h0, if_pos ⟨trivial, by omega⟩]; simp
theorem v_clear1 {x : Operand} {ats : Array TypeId} {t e : TypeId} {z : VTy} {b off n c : Nat} {ex : Bool} {cs : List VVal}
    (ho : op = .call { callee := .builtin .clear, args := #[x], argTypes := ats }) (hat : ats = #[t]) (hz : velem T t = some (e, z)) (hs1 : z.size = 1) (h1 : z.size = z.zero.length) (h2 : z.zero.all VVal.one = true) (hx : ρ x = .slice (some (b, off)) n c ex 1) (hb : H[b]? = some (.cells cs true)) (hl : off + n ≤ cs.length) :
    vop T ρ H op = some (.tuple [], H.set b (.cells (ZH cs off (ZG z.zero n)) true)) := by
  have hlen : (ZG z.zero n).length = n := by
    have hz1 : z.zero.length = 1 := by omega
    clear hx hl
    induction n with
    | zero => rfl
    | succ n ih => rw [ZG, List.length_append, ih, hz1]; omega
  rw [ho, hat]
  simp only [vop, ZW, List.map_cons, List.map_nil, vclear, hz, hx]
  rw [if_pos ⟨h1, by omega, h2⟩, if_pos hs1.symm]
  unfold vwrite
  simp only [hb]
  rw [if_pos (by rw [hlen]; omega)]
  rfl
end
def LVE (h es : Nat) (X : Zf) (v : VVal) (cs : List VVal) (len : Nat) : Prop := LV h es X v cs len ∨ (len = 0 ∧ cs = [] ∧ ∃ b, v = .slice (some (h + b, 0)) 0 0 true es ∧ X[b]? = some (.cells [] true))
section
variable {h es : Nat} {X : Zf} {v : VVal} {cs : List VVal} {len : Nat}
theorem LVE.init {b : Nat} (hb : X[b]? = some (.cells [] true)) : LVE h es X (.slice (some (h + b, 0)) 0 0 true es) [] 0 := .inr ⟨rfl, rfl, b, rfl, hb⟩
theorem LVE.frame {X' : Zf} (l : LVE h es X v cs len) (hf : ∀ i, YU v = some (h + i) → X'[i]? = X[i]?) : LVE h es X' v cs len := by
  rcases l with l | ⟨h0, h1, b, rfl, h2⟩
  · exact .inl (l.frame hf)
  · exact .inr ⟨h0, h1, b, rfl, by rw [hf b rfl]; exact h2⟩
theorem LVE.app (l : LVE h es X v cs len) (Y : Zf) : LVE h es (X ++ Y) v cs len := by
  rcases l with l | ⟨h0, h1, b, rfl, h2⟩
  · exact .inl (l.app Y)
  · exact .inr ⟨h0, h1, b, rfl, Zw h2⟩
theorem LVE.cells (l : LVE h es X v cs len) : v.cells = some [v] := by
  rcases l with l | ⟨_, _, b, rfl, _⟩
  · exact l.cells
  · rfl
theorem LVE.one (l : LVE h es X v cs len) : v.one = true := by
  rcases l with l | ⟨_, _, b, rfl, _⟩
  · exact l.one
  · rfl
end
section
variable {T : TypeId → Option VTy} {ρ : Operand → VVal} {H : Zf} {op : Op}
variable {S : Sys} {H0 : Zf}
end
open Go Go.RowKit
theorem get_end {X : Zf} {k : VBlk} : (X ++ [k])[X.length]? = some k := by simp
theorem set_end {X : Zf} {k k' : VBlk} : (X ++ [k]).set X.length k' = X ++ [k'] := by simp
theorem getE {H X Y : Zf} {n j i : Nat} {k : VBlk} (hn : H.length = n) (hj : X.length + i = j) (h : Y[i]? = some k) : (H ++ (X ++ Y))[n + j]? = some k := by
  subst hn; subst hj
  rw [List.getElem?_append_right (by omega), List.getElem?_append_right (by omega), show H.length + (X.length + i) - H.length - X.length = i by omega]; exact h
theorem setE {H X Y : Zf} {n j i : Nat} {k : VBlk} (hn : H.length = n) (hj : X.length + i = j) : (H ++ (X ++ Y)).set (n + j) k = H ++ (X ++ Y.set i k) := by
  subst hn; subst hj
  rw [List.set_append_right _ _ (by omega), List.set_append_right _ _ (by omega), show H.length + (X.length + i) - H.length - X.length = i by omega]
theorem setE0 {H X Y : Zf} {n j : Nat} {k0 k : VBlk} (hn : H.length = n) (hj : X.length = j) : (H ++ (X ++ k0 :: Y)).set (n + j) k = H ++ (X ++ k :: Y) := by
  rw [setE hn (i := 0) (by omega)]; rfl
theorem getE0 {H X Y : Zf} {n j : Nat} {k : VBlk} (hn : H.length = n) (hj : X.length = j) : (H ++ (X ++ k :: Y))[n + j]? = some k := getE hn (i := 0) (by omega) rfl
theorem YY {α : Type} {f : α → VVal} {l : List α} {k : Nat} (d : α) (h : k < l.length) : (l.map f)[((k : Nat) : Int).toNat * 1]? = some (f (l.getD k d)) := by
  have := fget (f := f) (l := l) (n := (k : Int)) d (by omega)
  rw [Int.toNat_natCast] at this ⊢; exact this
theorem fm_nat {α : Type} {f : α → List VVal} {m : Nat} (hf : ∀ a, (f a).length = m) : ∀ (l : List α) (n : Nat) (d : α), n < l.length → Zx (l.flatMap f) (n * m) m = some (f (l.getD n d))
  | a :: l, 0, d, _ => by
    unfold Zx
    have h1 := hf a
    rw [if_pos (by rw [List.flatMap_cons, List.length_append]; omega), List.flatMap_cons, Nat.zero_mul, List.drop_zero, List.take_left' h1]; rfl
  | a :: l, n + 1, d, h => by
    have h1 := hf a
    have := fm_nat hf l n d (by simpa using h)
    unfold Zx at this ⊢
    have e : (n + 1) * m = m + n * m := by rw [Nat.add_mul, Nat.one_mul, Nat.add_comm]
    rw [List.flatMap_cons, List.length_append, h1, e, ← List.drop_drop, List.drop_left' h1]
    by_cases hh : n * m + m ≤ (l.flatMap f).length
    · rw [if_pos hh] at this; rw [if_pos (by omega)]; exact this
    · rw [if_neg hh] at this; cases this
theorem fm_len {α : Type} {f : α → List VVal} {m : Nat} (hf : ∀ a, (f a).length = m) : ∀ (l : List α), (l.flatMap f).length = l.length * m
  | [] => by simp
  | a :: l => by rw [List.flatMap_cons, List.length_append, hf a, fm_len hf l, List.length_cons, Nat.add_mul, Nat.one_mul, Nat.add_comm]
theorem fm_under {α : Type} {f : α → List VVal} {n : Nat} (hf : ∀ a, VVal.underL n (f a) = true) : ∀ l : List α, VVal.underL n (l.flatMap f) = true
  | [] => rfl
  | a :: l => by rw [List.flatMap_cons]; exact VVal.underL_app (hf a) (fm_under hf l)
theorem bool_f {b : Bool} (h : ¬ b = true) : b = false := by cases b <;> simp_all
theorem Y3 (n : Nat) (l : List Int) : VVal.underL n (l.map iI) = true := VVal.underL_map fun _ => rfl
theorem YC (n : Nat) (l : List (BitVec 64)) : VVal.underL n (l.map iW) = true := VVal.underL_map fun _ => rfl
theorem fzI_under (n : Nat) (l : List Int) : (fzI l).under n = true := VVal.underL_map fun _ => rfl
theorem YM (n : Nat) (l : List (BitVec 64)) : (fzW l).under n = true := VVal.underL_map fun _ => rfl
theorem mapI_one (l : List Int) : (l.map iI).all VVal.one = true := by rw [List.all_map]; exact List.all_eq_true.2 fun _ _ => rfl
theorem mapW_one (l : List (BitVec 64)) : (l.map iW).all VVal.one = true := by rw [List.all_map]; exact List.all_eq_true.2 fun _ _ => rfl
theorem map_all {α : Type} {f : α → VVal} {l : List α} : Zx (l.map f) 0 (l.length * 1) = some (l.map f) := by
  unfold Zx; rw [if_pos XH20, List.drop_zero, List.take_of_length_le XH20]
theorem LV.appW {h : Nat} {X : Zf} {v : VVal} {l : List (BitVec 64)} {w : BitVec 64} {n : Nat} (r : LV h 1 X v (l.map iW ++ [iW w]) n) : LV h 1 X v ((l ++ [w]).map iW) n := by rw [List.map_append]; exact r
theorem LV.pushI {h : Nat} {X : Zf} {v : VVal} {l : List Int} {w : Int} (r : LV h 1 X v (l.map iI ++ [iI w]) (l.length + 1)) : LV h 1 X v ((l ++ [w]).map iI) (l ++ [w]).length := by rw [List.map_append, List.length_append]; exact r
theorem LV.pushW {h : Nat} {X : Zf} {v : VVal} {l : List (BitVec 64)} {w : BitVec 64} (r : LV h 1 X v (l.map iW ++ [iW w]) (l.length + 1)) : LV h 1 X v ((l ++ [w]).map iW) (l ++ [w]).length := by rw [List.map_append, List.length_append]; exact r
theorem LV.pushF {α : Type} {f : α → List VVal} {h es : Nat} {X : Zf} {v : VVal} {l : List α} {a : α} (r : LV h es X v (l.flatMap f ++ f a) (l.length + 1)) : LV h es X v ((l ++ [a]).flatMap f) (l ++ [a]).length := by
  rw [List.flatMap_append, List.length_append]; simpa using r
theorem mem_getI {l : List Int} {k : Nat} (h : k < l.length) : l.getD k 0 ∈ l := by
  rw [List.getD_eq_getElem?_getD, List.getElem?_eq_getElem h]; simp
theorem mem_getX {α : Type} {l : List α} {k : Nat} {d : α} (h : k < l.length) : l.getD k d ∈ l := by
  rw [List.getD_eq_getElem?_getD, List.getElem?_eq_getElem h]; simp
theorem Yh {α : Type} {l : List α} {k : Nat} {d : α} (h : k < l.length) : l.take (k + 1) = l.take k ++ [l.getD k d] := by
  rw [List.take_add_one, List.getD_eq_getElem?_getD, List.getElem?_eq_getElem h]; simp
theorem eq_getD {α : Type} {l r : List α} {d : α} (hl : l.length = r.length) (h : ∀ j, j < l.length → l.getD j d = r.getD j d) : l = r := by
  apply List.ext_getElem hl
  intro j h1 h2
  have := h j h1
  simpa [List.getD_eq_getElem?_getD, h1, h2] using this
theorem YK {L : Zf} {p : Nat} {k : VBlk} (h : L[p]? = some k) : L = L.set p k := by
  apply List.ext_getElem?
  intro i
  rw [List.getElem?_set]
  by_cases e : p = i
  · subst e; rw [h]; rw [if_pos rfl, if_pos (List.getElem?_eq_some_iff.1 h).1]
  · rw [if_neg e]
theorem v_lenM {T : TypeId → Option VTy} {ρ : Operand → VVal} {H : Zf} {op : Op} {a : Operand} {t kt et : TypeId} {y : VTy} {b : Nat} {es : List (VVal × VVal)} (ho : op = .call { callee := .builtin .len, args := #[a], argTypes := #[t] }) (ha : ρ a = .map (some b)) (hy : T t = some y) (hd : y.desc = .map kt et) (hb : H[b]? = some (.map es)) : vop T ρ H op = some (iI es.length, H) := by
  rw [ho]; simp [vop, ZW, vlen, ha, hy, hd, hb]
theorem qB : (∀ (p : Prop) [Decidable p], (decide p = true) = p) ∧ (∀ (p : Prop) (x : Decidable p), decide p = false ↔ ¬p) ∧ (∀ b : Bool, ((!b) = true) = (b = false)) ∧ (∀ b : Bool, ((!b) = false) = (b = true)) ∧
    (∀ (α : Type) [BEq α] [LawfulBEq α] (a b : α), (a != b) = true ↔ a ≠ b) ∧ (∀ (α : Type) [BEq α] [LawfulBEq α] (a b : α), (a == b) = true ↔ a = b) ∧ (∀ a b : Bool, ((a && b) = true) = (a = true ∧ b = true)) ∧ (∀ a b : Bool, ((a || b) = true) = (a = true ∨ b = true)) ∧
    (∀ b : Bool, (¬b = true) = (b = false)) ∧ (∀ (α : Type) [LE α] (x y : α), x ≥ y ↔ y ≤ x) ∧ (∀ (α : Type) [LT α] (x y : α), x > y ↔ y < x) ∧ (∀ a b : Int, ¬a ≤ b ↔ b < a) ∧ (∀ a b : Int, ¬a < b ↔ b ≤ a) ∧
    (∀ (α : Type) [BEq α] [LawfulBEq α] (a b : α), (a == b) = false ↔ a ≠ b) ∧ (∀ (α : Type) [BEq α] [LawfulBEq α] (a b : α), (a != b) = false ↔ a = b) ∧ (∀ (α : Type) (a b : α), (a ≠ b) = ¬a = b) ∧ (∀ (p : Prop) [Decidable p], ¬¬p ↔ p) ∧
    (∀ a : BitVec 64, (a.toNat : Int) = 0 ↔ a = 0#64) ∧ (∀ a : BitVec 64, (a.toNat : Int) = 1 ↔ a = 1#64) ∧ (∀ a b : BitVec 64, (a.toNat : Int) = b.toNat ↔ a = b) :=
  ⟨fun _ _ => decide_eq_true_eq, fun _ _ => decide_eq_false_iff_not, Bool.not_eq_true', Bool.not_eq_false', fun _ _ _ _ _ => bne_iff_ne, fun _ _ _ _ _ => beq_iff_eq, Bool.and_eq_true, Bool.or_eq_true, Bool.not_eq_true, fun _ _ _ _ => ge_iff_le, fun _ _ _ _ => gt_iff_lt, fun _ _ => Int.not_le, fun _ _ => Int.not_lt,
    fun _ _ _ _ _ => beq_eq_false_iff_ne, fun _ _ _ _ _ => bne_eq_false_iff_eq, fun _ _ _ => ne_eq _ _, fun _ _ => Decidable.not_not, fun _ => ZX, fun _ => Yc, fun _ _ => Ya⟩
theorem qN : ∀ n : Nat, (n : Int).toNat = n := Int.toNat_natCast
def mk : Nat → Nat → List Bool
  | 0, _ => []
  | n + 1, k => Nat.beq (k % 2) 1 :: mk n (k / 2)
def LdOk (H : Zf) (p v : VVal) : Prop := (∃ cs off, p = .fptr cs off ∧ cs[off]? = some v) ∨ ∃ b off cs rw, p = .ptr (some (b, off)) ∧ H[b]? = some (.cells cs rw) ∧ cs[off]? = some v
def LdOkA (H : Zf) (p : VVal) (n : Nat) (vs : List VVal) : Prop := (∃ cs off, p = .fptr cs off ∧ Zx cs off n = some vs) ∨ ∃ b off cs rw, p = .ptr (some (b, off)) ∧ H[b]? = some (.cells cs rw) ∧ Zx cs off n = some vs
section
variable {T : TypeId → Option VTy} {ρ : Operand → VVal} {H : Zf} {op : Op}
theorem v_ld {t : TypeId} {a : Operand} {y : VTy} {p v : VVal} (ho : op = .load t a) (ha : ρ a = p) (hy : T t = some y) (hd : Zo y.desc = false) (h : LdOk H p v) : vop T ρ H op = some (v, H) := by
  rcases h with ⟨cs, off, rfl, h⟩ | ⟨b, off, cs, rw', rfl, h1, h2⟩
  · exact v_loadF ho ha hy hd h
  · exact v_load ho ha hy hd h1 h2
theorem v_ldA {t : TypeId} {a : Operand} {y : VTy} {p : VVal} {n : Nat} {vs : List VVal} (ho : op = .load t a) (ha : ρ a = p) (hy : T t = some y) (hd : Zo y.desc = true) (hn : y.size = n) (h : LdOkA H p n vs) : vop T ρ H op = some (.agg vs, H) := by
  subst hn
  rcases h with ⟨cs, off, rfl, h⟩ | ⟨b, off, cs, rw', rfl, h1, h2⟩
  · exact v_loadFA ho ha hy hd h
  · exact v_loadA ho ha hy hd h1 h2
def IxOk (p : VVal) (es : Nat) (n : Int) (v : VVal) : Prop := (∃ cs len ex, p = .fsl cs len es ex ∧ (0 ≤ n ∧ n < len) ∧ v = .fptr cs (n.toNat * es)) ∨ ∃ b off len cap ex, p = .slice (some (b, off)) len cap ex es ∧ (0 ≤ n ∧ n < len) ∧ v = .ptr (some (b, off + n.toNat * es))
theorem v_ix {t e : TypeId} {x i : Operand} {y z : VTy} {k : IntKind} {n : Int} {p v : VVal} {es : Nat} (ho : op = .indexAddr t x i) (hx : ρ x = p) (hi : ρ i = .int k n) (hy : T t = some y) (hd : y.desc = .slice e) (hz : T e = some z) (hs : z.size = es) (h : IxOk p es n v) : vop T ρ H op = some (v, H) := by
  rcases h with ⟨cs, len, ex, rfl, hn, rfl⟩ | ⟨b, off, len, cap, ex, rfl, hn, rfl⟩
  · exact v_idxF ho hx hi hy hd hz hs hn
  · exact v_idx ho hx hi hy hd hz hs hn
end
section
variable {S : Sys} {H0 H H' : Zf} {ops : Array Oper} {o : Oper} {l : List Oper} {env : VEnv} {K : VEnv → Zf → Prop} {v : VVal}
theorem Lo (env' : VEnv) (hv : vop S.C.T env.eval H o.op = some (v, H')) (h : WL S H0 ops l env' H' K) (hg : Yk ops env o.guard = some true := by rfl) (hc : Z5 S.C.meth env.eval o.op = none := by rfl) (he : env.put o.dst v = env' := by rfl) : WL S H0 ops (o :: l) env H K := Zr hg hc hv he h
theorem Lf (env' : VEnv) (h : WL S H0 ops l env' H K) (hg : Yk ops env o.guard = some false := by rfl) (he : env.put o.dst .skip = env' := by rfl) : WL S H0 ops (o :: l) env H K := L_off hg he h
theorem Le (env' : VEnv) (h : WL S H0 ops l env' H K) (he : env = env' := by rfl) : WL S H0 ops l env H K := L_env he h
end
section
variable {S : Sys} {H H' : Zf} {ops : Array Oper} {bef : Array Nat} {i : Nat} {li : List Nat} {o : Oper} {env : VEnv} {tk tk' : List (Nat × Tr)} {K : VEnv → Zf → Prop} {v : VVal}
theorem Oo (env' : VEnv) (c : Cls) (ho : ops[i]? = some o) (hv : vop S.C.T env.eval H o.op = some (v, H')) (h : WO S ops bef li env' H' tk' K) (hg : Yk ops env o.guard = some true := by rfl) (hc : Z5 S.C.meth env.eval o.op = none := by rfl) (hk : Ym S.C.T o.op = c := by rfl) (he : env.put o.dst v = env' := by rfl) (ht : tk ++ [(i, .k c)] = tk' := by rfl) : WO S ops bef (i :: li) env H tk K := Z6 ho hg hc hv hk he ht h
theorem Of (env' : VEnv) (ho : ops[i]? = some o) (h : WO S ops bef li env' H tk' K) (hg : Yk ops env o.guard = some false := by rfl) (he : env.put o.dst .skip = env' := by rfl) (ht : tk ++ [(i, .k .calm)] = tk' := by rfl) : WO S ops bef (i :: li) env H tk K := O_off ho hg he ht h
end
open Go Go.RowKit
def ln (w : BitVec 64) : Nat := if w.toNat = 0 then 0 else Nat.log2 w.toNat + 1
theorem ln_le {w : BitVec 64} {m : Nat} : ln w ≤ m ↔ w.toNat < 2 ^ m := by
  unfold ln
  by_cases h : w.toNat = 0
  · rw [if_pos h, h]; simp [Nat.two_pow_pos]
  · rw [if_neg h]
    constructor
    · intro e; exact (Nat.log2_lt h).1 (by omega)
    · intro e; have := (Nat.log2_lt h).2 e; omega
theorem le_ext2 {a b : Nat} (h : ∀ k, a ≤ k ↔ b ≤ k) : a = b := Nat.le_antisymm ((h b).2 (Nat.le_refl _)) ((h a).1 (Nat.le_refl _))
theorem ZQ {w : BitVec 64} {k : Nat} (h : 2 ^ k ≤ w.toNat) : ln w = k + ln (w >>> k) := by
  apply le_ext2
  intro m
  rw [ln_le]
  by_cases hm : m < k
  · have : 2 ^ m < 2 ^ k := Nat.pow_lt_pow_right (by omega) hm
    omega
  · have e : 2 ^ m = 2 ^ k * 2 ^ (m - k) := by rw [← Nat.pow_add]; congr 1; omega
    have : (k + ln (w >>> k) ≤ m ↔ ln (w >>> k) ≤ m - k) := by omega
    rw [this, ln_le, BitVec.toNat_ushiftRight, Nat.shiftRight_eq_div_pow, Nat.div_lt_iff_lt_mul (Nat.two_pow_pos k), e, Nat.mul_comm]
theorem ln_64 (w : BitVec 64) : ln w ≤ 64 := ln_le.2 w.isLt
theorem ln_high {w : BitVec 64} {u : Int} (h : 0 ≤ u) : u ≤ (ln w : Int) - 1 ↔ ¬ w >>> u.toNat = 0#64 := by
  have h1 : (u ≤ (ln w : Int) - 1) ↔ ¬ ln w ≤ u.toNat := by omega
  rw [h1, ln_le]
  refine not_congr ?_
  rw [← BitVec.toNat_inj, BitVec.toNat_ushiftRight, Nat.shiftRight_eq_div_pow]
  show _ ↔ _ = 0
  rw [Nat.div_eq_zero_iff]
  have := Nat.two_pow_pos u.toNat
  omega
def l8 : ByteArray := ⟨((List.range 256).map fun n => UInt8.ofNat (if n = 0 then 0 else Nat.log2 n + 1)).toArray⟩
theorem l8_at {n : Nat} (h : n < 256) : l8[n]? = some (UInt8.ofNat (if n = 0 then 0 else Nat.log2 n + 1)) := by
  show (ByteArray.mk _)[n]? = _
  have hs : l8.size = 256 := by simp [l8, ByteArray.size]
  rw [show (ByteArray.mk ((List.range 256).map fun n => UInt8.ofNat (if n = 0 then 0 else Nat.log2 n + 1)).toArray) = l8 from rfl]
  rw [getElem?_pos l8 n (by rw [hs]; exact h)]
  congr 1
  show l8.data[n]'_ = _
  simp [l8]
theorem wrap_u8 {n : Nat} : IntKind.u8.wrap (n : Int) = ((n % 256 : Nat) : Int) := by
  simp [IntKind.wrap, IntKind.bits, IntKind.signed]
section
variable {T : TypeId → Option VTy} {ρ : Operand → VVal} {H : Zf} {op : Op}
theorem v_l8 {t : TypeId} {x i : Operand} {s : ByteArray} {w : BitVec 64} {y : VTy} (ho : op = .index t x i) (hx : ρ x = .str s) (hs : s = l8) (hi : ρ i = .int .u8 (IntKind.u8.wrap (w.toNat : Int))) (hy : T t = some y) (hd : y.desc = .string) (hw : w.toNat < 256) : vop T ρ H op = some (.int .u8 (ln w : Nat), H) := by
  subst hs
  rw [ho]
  simp only [vop, hx, hi, vindex, hy, hd]
  rw [wrap_u8, Nat.mod_eq_of_lt hw, if_pos (by omega), Int.toNat_natCast, l8_at hw]
  simp only [Option.map_some]
  congr 1; congr 1; congr 1
  unfold ln
  by_cases h : w.toNat = 0
  · simp [h]
  · simp only [if_neg h]
    have h8 : w.toNat.log2 < 8 := (Nat.log2_lt h).2 hw
    simp only [UInt8.toNat_ofNat']
    rw [Nat.mod_eq_of_lt (by omega)]
end
open Go Go.RowKit
theorem wrap_ofInt (n : Int) : IntKind.u64.wrap n = ((BitVec.ofInt 64 n).toNat : Int) := by
  have e : IntKind.u64.wrap n = n % 18446744073709551616 := by simp [IntKind.wrap, IntKind.bits, IntKind.signed]
  rw [e, BitVec.toNat_ofInt]
  show n % 18446744073709551616 = ((n % 18446744073709551616).toNat : Int)
  have : 0 ≤ n % 18446744073709551616 := Int.emod_nonneg _ (by decide)
  omega
section
variable {T : TypeId → Option VTy} {ρ : Operand → VVal} {H : Zf} {op : Op} {s d : TypeId} {x : Operand} {ys yd : VTy} {k : IntKind} {n : Int}
theorem v_cv {j : IntKind} (ho : op = .convert s d x) (hx : ρ x = .int k n) (hs : T s = some ys) (hd : T d = some yd) (hj : yd.desc = .int j) : vop T ρ H op = some (.int j (j.wrap n), H) := by
  rw [ho]; simp only [vop, Yl, hx, hs, hd, hj]
theorem v_cvI (ho : op = .convert s d x) (hx : ρ x = .int k n) (hs : T s = some ys) (hd : T d = some yd) (hj : yd.desc = .int .i64) (h : -9223372036854775808 ≤ n ∧ n < 9223372036854775808) : vop T ρ H op = some (iI n, H) := by
  rw [v_cv ho hx hs hd hj, wrap_i n h]
theorem v_cvW (ho : op = .convert s d x) (hx : ρ x = .int k n) (hs : T s = some ys) (hd : T d = some yd) (hj : yd.desc = .int .u64) : vop T ρ H op = some (iW (BitVec.ofInt 64 n), H) := by
  rw [v_cv ho hx hs hd hj, wrap_ofInt]
theorem v_shrN {t ty : TypeId} {x y : Operand} {a : BitVec 64} (m : Nat) (ho : op = .binOp .shr t x y ty) (hx : ρ x = .int .u64 a.toNat) (hy : ρ y = .int k (m : Nat)) : vop T ρ H op = some (iW (a >>> m), H) := by
  have := v_shrW (T := T) (H := H) ho hx hy (by omega)
  rwa [Int.toNat_natCast] at this
end
structure RG (b es : Nat) (X : Zf) (j : Nat) (v : VVal) (cs : List VVal) (n : Nat) : Prop where
  c : X[j]? = some (.cells [v] true)
  l : LV b es X v cs n
  n : YU v ≠ some (b + j)
def Kp (b j : Nat) (X : Zf) (v : VVal) (X' : Zf) (v' : VVal) : Prop := ∀ i k, X[i]? = some k → i ≠ j → YU v ≠ some (b + i) → X'[i]? = some k ∧ YU v' ≠ some (b + i)
theorem Kp.refl (b j : Nat) (X : Zf) (v : VVal) : Kp b j X v X v := fun _ _ h _ h2 => ⟨h, h2⟩
theorem Kp.trans {b j : Nat} {X X1 X2 : Zf} {v v1 v2 : VVal} (h1 : Kp b j X v X1 v1) (h2 : Kp b j X1 v1 X2 v2) : Kp b j X v X2 v2 := fun i k h3 h4 h5 => by
  obtain ⟨a, c⟩ := h1 i k h3 h4 h5
  exact h2 i k a h4 c
theorem RG.push {b es : Nat} {X : Zf} {j : Nat} {v : VVal} {cs new : List VVal} {n k : Nat} (r : RG b es X j v cs n) {Y1 : Zf} (h1 : Y1.length = X.length) (h2 : ∀ i, YU v ≠ some (b + i) → Y1[i]? = X[i]?) {m m2 : Nat}
    (h3 : LV b es (Y1 ++ [VBlk.cells new true, VBlk.cells (cs ++ new) true]) (.slice (some (b + (X.length + 1), 0)) m m2 false es) (cs ++ new) k) :
    RG b es ((Y1 ++ [VBlk.cells new true, VBlk.cells (cs ++ new) true]).set j (VBlk.cells [VVal.slice (some (b + (X.length + 1), 0)) m m2 false es] true)) j (.slice (some (b + (X.length + 1), 0)) m m2 false es) (cs ++ new) k ∧
      Kp b j X v ((Y1 ++ [VBlk.cells new true, VBlk.cells (cs ++ new) true]).set j (VBlk.cells [VVal.slice (some (b + (X.length + 1), 0)) m m2 false es] true)) (.slice (some (b + (X.length + 1), 0)) m m2 false es) := by
  have hj : j < X.length := ZY r.c
  refine ⟨⟨?_, ?_, ?_⟩, ?_⟩
  · exact List.getElem?_set_self (by simp; omega)
  · refine LV.frame h3 fun i hi => ?_
    simp only [YU, Option.some.injEq] at hi
    rw [List.getElem?_set_ne (by omega)]
  · simp only [YU, ne_eq, Option.some.injEq]; omega
  · intro i k hk hij hv
    have hi : i < X.length := ZY hk
    refine ⟨?_, ?_⟩
    · rw [List.getElem?_set_ne (Ne.symm hij), List.getElem?_append_left (by omega), h2 i hv]; exact hk
    · simp only [YU, ne_eq, Option.some.injEq]; omega
open Go Go.RowKit
theorem setB {H L X : Zf} {n j : Nat} {k : VBlk} (hn : H.length = n) (hj : j < L.length) : ((H ++ L) ++ X).set (n + j) k = (H ++ L.set j k) ++ X := by
  subst hn
  rw [List.set_append_left _ _ (by simp; omega), List.set_append_right _ _ (by omega), Nat.add_sub_cancel_left]
theorem getB {H L X : Zf} {n j : Nat} {k : VBlk} (hn : H.length = n) (hj : L[j]? = some k) : ((H ++ L) ++ X)[n + j]? = some k := Zw (ZL hn hj)
section
variable {T : TypeId → Option VTy} {ρ : Operand → VVal} {B : Zf} {op : Op}
theorem Y4 {h : Nat} {s x : Operand} {ats : Array TypeId} {t u e : TypeId} {z : VTy} {du : TypeDesc} {v : VVal} {Y : Zf} {cs new : List VVal} {len k : Nat} {kx : Nat}
    (ho : op = .call { callee := .builtin .append, args := #[s, x], argTypes := ats }) (hat : ats = #[t, u]) (hz : velem T t = some (e, z)) (hu : (T u).map (·.desc) = some du) (hdu : isSeq du = true)
    (hs : ρ s = v) (hx : ρ x = .slice (some (B.length + Y.length, 0)) k kx true z.size) (hh : B.length = h) (l : LV h z.size Y v cs len) (hn : new.length = k * z.size) (h1 : new.all VVal.one = true) (hp : 0 < z.size)
    (hb : (len + k) * z.bytes ≤ 140737488355328 ∧ len + k ≤ 140737488355328) (hk : 0 < k) :
    ∃ u G, vop T ρ (B ++ (Y ++ [.cells new true])) op = some (u, G) ∧ ∃ Y1, u = .slice (some (h + (Y.length + 1), 0)) (len + k) (len + k) false z.size ∧ G = B ++ (Y1 ++ [.cells new true, .cells (cs ++ new) true]) ∧ Y1.length = Y.length ∧ (∀ i, YU v ≠ some (h + i) → Y1[i]? = Y[i]?) ∧
      LV h z.size (Y1 ++ [.cells new true, .cells (cs ++ new) true]) (.slice (some (h + (Y.length + 1), 0)) (len + k) (len + k) false z.size) (cs ++ new) (len + k) := by
  subst hh
  exact v_appX ho hat hz hu hdu hs hx l hn h1 hp hb hk
end
section
variable {S : Sys} {H0 : Zf}
theorem Gh.cellLV {vs : List VVal} {H L X : Zf} {c j h es : Nat} {cs2 cs : List VVal} {v : VVal} {len : Nat} (hc : L[c]? = some (.cells cs2 true)) (hj : cs2[j]? = some v) (hh : (H ++ L).length = h) (l : LV h es X v cs len) :
    ∃ X', Gh S H0 vs ((H ++ L) ++ X) vs ((H ++ L.set c (.cells (cs2.set j (.fsl cs len es false)) true)) ++ X') ∧ X'.length = X.length ∧ ∀ i, YU v ≠ some (h + i) → X'[i]? = X[i]? := by
  have hcl : c < L.length := ZY hc
  have hc' : ((H ++ L) ++ X)[H.length + c]? = some (.cells cs2 true) := getB rfl hc
  rcases l.2 with ⟨rfl, rfl⟩ | ⟨h0, b, rfl, hb⟩
  · refine ⟨X, ?_, rfl, fun _ _ => rfl⟩
    have hcs : cs = [] := List.eq_nil_of_length_eq_zero (by rw [l.1]; omega)
    subst hcs
    have := Gh.cellNil (S := S) (H0 := H0) (vs := vs) (es' := es) _ j hc' hj
    rwa [setB rfl hcl] at this
  · refine ⟨X.set b .dead, ?_, by simp, fun i hi => by rw [List.getElem?_set_ne (fun e => hi (by subst e; rfl))]⟩
    have hbl : b < X.length := ZY hb
    have hg : ((H ++ L) ++ X)[h + b]? = some (.cells cs true) := by subst hh; exact ZL rfl hb
    have hlen : (H ++ L).length = H.length + L.length := by simp
    have hl : Zx cs 0 (len * es) = some cs := by
      unfold Zx; rw [if_pos (by rw [l.1]; omega), List.drop_zero, List.take_of_length_le (by rw [l.1]; omega)]
    have := Gh.cell (S := S) (H0 := H0) (vs := vs) _ j hc' hj (by omega) hg hl (Nat.le_refl _)
    rw [show ((H ++ L) ++ X).set (h + b) .dead = (H ++ L) ++ X.set b .dead by subst hh; exact ZO rfl, setB rfl hcl] at this
    exact this
theorem B_ghCell {rd : Option Nat} {env : VEnv} {Q : Post} {H L X : Zf} {c1 : Code} (c j : Nat) {h es : Nat} {cs2 cs : List VVal} {v : VVal} {len : Nat} (l : LV h es X v cs len) (hc : L[c]? = some (.cells cs2 true)) (hj : cs2[j]? = some v) (hh : (H ++ L).length = h)
    (k : ∀ X', X'.length = X.length → (∀ i, YU v ≠ some (h + i) → X'[i]? = X[i]?) → B S H0 rd c1 env ((H ++ L.set c (.cells (cs2.set j (.fsl cs len es false)) true)) ++ X') Q) : B S H0 rd c1 env ((H ++ L) ++ X) Q := by
  obtain ⟨X', g, h1, h2⟩ := Gh.cellLV (S := S) (H0 := H0) (vs := env) hc hj hh l
  exact Yu g (k X' h1 h2)
theorem B_ghLVh {rd : Option Nat} {env env' : VEnv} {Q : Post} {B0 X : Zf} {c : Code} {h es : Nat} {v : VVal} {cs : List VVal} {len : Nat} (i : Nat) (l : LV h es X v cs len) (hh : B0.length = h) (hv : env[i]? = some v) (he : env.set i (.fsl cs len es false) = env')
    (k : ∀ X', X'.length = X.length → (∀ j, YU v ≠ some (h + j) → X'[j]? = X[j]?) → B S H0 rd c env' (B0 ++ X') Q) : B S H0 rd c env (B0 ++ X) Q := by
  subst hh; exact B_ghLV i l hv he k
theorem Gh.freezeEnd {vs vs' : List VVal} {B0 X : Zf} {cs : List VVal} (i : Nat) (hv : vs[i]? = some (.ptr (some (B0.length + X.length, 0)))) (he : vs.set i (.fptr cs 0) = vs') : Gh S H0 vs (B0 ++ (X ++ [.cells cs true])) vs' (B0 ++ (X ++ [.dead])) := by
  have := Gh.freezePtrL (S := S) (H0 := H0) (H := B0) (L := X ++ [.cells cs true]) i X.length hv get_end he
  rwa [set_end] at this
end
section
variable {T : TypeId → Option VTy} {ρ : Operand → VVal} {H : Zf} {op : Op} {t e : TypeId} {x : Operand} {y z : VTy} {k : Nat} {kd : IntKind}
theorem v_iHi {hi : Operand} {l : List Int} (ho : op = .slice t x none (some hi) none) (hy : T t = some y) (hd : y.desc = .slice e) (hz : T e = some z) (hs : z.size = 1) (hx : ρ x = fzI l) (hh : ρ hi = .int kd (k : Nat)) (hk : k ≤ l.length) : vop T ρ H op = some (fzI (l.take k), H) := by
  rw [v_sliceHi ho hy hd hz hs hx hh hk XH20]
  simp [fzI, Nat.min_eq_left hk, List.map_take]
end
theorem LV.keep {h es : Nat} {X Y1 : Zf} {v s : VVal} {cs : List VVal} {len : Nat} (l : LV h es X v cs len) (hd : ∀ n, YU v = some n → YU s ≠ some n) (hY : ∀ i, YU s ≠ some (h + i) → Y1[i]? = X[i]?) : LV h es Y1 v cs len :=
  LV.frame l fun i hi => hY i (hd _ hi)
theorem LV.lt {h es : Nat} {X : Zf} {v : VVal} {cs : List VVal} {len : Nat} (l : LV h es X v cs len) : ∀ n, YU v = some n → n < h + X.length := fun n hn => by
  rcases l.2 with ⟨_, rfl⟩ | ⟨_, b, rfl, hb⟩
  · cases hn
  · simp only [YU, Option.some.injEq] at hn
    have := ZY hb; omega
theorem LV.far {h es m : Nat} {X : Zf} {v : VVal} {cs : List VVal} {len : Nat} (l : LV h es X v cs len) (hm : X.length ≤ m) {o : Nat} {n c e2 : Nat} {ex : Bool} : ∀ k, YU v = some k → YU (.slice (some (h + m, o)) n c ex e2) ≠ some k := fun k hk e => by
  have := l.lt k hk
  simp only [YU, Option.some.injEq] at e; omega
def Dj (v s : VVal) : Prop := ∀ n, YU v = some n → YU s ≠ some n
theorem Dj.symm {v s : VVal} (d : Dj v s) : Dj s v := fun n h e => d n e h
theorem Dj.nil (v : VVal) {es : Nat} : Dj v (.slice none 0 0 true es) := fun n _ e => by cases e
theorem LV.keepN {h es e2 n n2 : Nat} {X Y1 Z : Zf} {w v1 v2 : VVal} {cs cs2 : List VVal} (hY3 : LV h es (Y1 ++ Z) w cs n) (l2 : LV h e2 X v2 cs2 n2) (d : Dj v2 v1) (hY2 : ∀ i, YU v1 ≠ some (h + i) → Y1[i]? = X[i]?) : LV h e2 (Y1 ++ Z) v2 cs2 n2 := (LV.keep l2 d hY2).app Z
theorem LV.djN {h es e2 a b n n2 : Nat} {X X' : Zf} {v2 : VVal} {cs cs2 : List VVal} (hY3 : LV h es X' (.slice (some (h + (X.length + 1), 0)) a b false es) cs n) (l2 : LV h e2 X v2 cs2 n2) : Dj v2 (.slice (some (h + (X.length + 1), 0)) a b false es) := LV.far l2 (Nat.le_succ _)
open Go Go.RowKit
structure Gz where
  n : Nat
  p : Nat
  e : Nat
  deriving DecidableEq
instance : Add Gz := ⟨fun a b => ⟨a.n + b.n, a.p + b.p, a.e + b.e⟩⟩
instance : Zero Gz := ⟨⟨0, 0, 0⟩⟩
theorem Gz.ext' {a b : Gz} (h1 : a.n = b.n) (h2 : a.p = b.p) (h3 : a.e = b.e) : a = b := by cases a; cases b; simp only at h1 h2 h3; subst h1 h2 h3; rfl
theorem Gz.add_n (a b : Gz) : (a + b).n = a.n + b.n := rfl
theorem Gz.add_p (a b : Gz) : (a + b).p = a.p + b.p := rfl
theorem Gz.add_e (a b : Gz) : (a + b).e = a.e + b.e := rfl
theorem Gz.assoc (a b c : Gz) : a + b + c = a + (b + c) := Gz.ext' (Nat.add_assoc _ _ _) (Nat.add_assoc _ _ _) (Nat.add_assoc _ _ _)
theorem Gz.zero_add (a : Gz) : 0 + a = a := Gz.ext' (Nat.zero_add _) (Nat.zero_add _) (Nat.zero_add _)
theorem Gz.add_zero (a : Gz) : a + 0 = a := Gz.ext' (Nat.add_zero _) (Nat.add_zero _) (Nat.add_zero _)
theorem Gz.comm (a b : Gz) : a + b = b + a := Gz.ext' (Nat.add_comm _ _) (Nat.add_comm _ _) (Nat.add_comm _ _)
abbrev iN (n : Nat) : VVal := iW (BitVec.ofNat 64 n)
abbrev gaB (g : Gz) : VBlk := .cells [iN g.n, iN g.p, iN g.e] true
theorem iN_add (a b : Nat) : BitVec.ofNat 64 a + BitVec.ofNat 64 b = BitVec.ofNat 64 (a + b) := by
  apply BitVec.eq_of_toNat_eq; simp [BitVec.toNat_add]
theorem iN_one (a : Nat) : BitVec.ofNat 64 a + 1#64 = BitVec.ofNat 64 (a + 1) := iN_add a 1
def IterP (S : Sys) (l s : Nat) : List (Gz × VVal) → Gz → Zf → (Bool → Zf → Prop) → Prop
  | [], d, G, K => ∀ g, G[s]? = some (gaB g) → K true (G.set s (gaB (g + d)))
  | (d0, x) :: xs, d, G, K => ∀ g, G[s]? = some (gaB g) → ∀ L, Fv S (.yield l) [x] (G.set s (gaB (g + d0)) ++ L) fun v G' => ∃ b G1 J, v = .bool b ∧ G' = G1 ++ (L ++ J) ∧ G1.length = G.length ∧ if b = true then (∃ g1, G1[s]? = some (gaB g1)) ∧ IterP S l s xs d G1 K else K false G1
open Go Go.RowKit
def RV (h : Nat) (X : Zf) (v : VVal) (rc : List VVal) : Prop :=
  (rc = [] ∧ v = .slice none 0 0 true 0) ∨ ∃ b cap cs, v = .slice (some (h + b, 0)) rc.length cap false 1 ∧ X[b]? = some (.cells cs true) ∧ cs.length = cap ∧ rc.length ≤ cap ∧ cs.take rc.length = rc
theorem RV.nil (h : Nat) (X : Zf) : RV h X (.slice none 0 0 true 0) [] := .inl ⟨rfl, rfl⟩
theorem RV.cells {h : Nat} {X : Zf} {v : VVal} {rc : List VVal} (r : RV h X v rc) : v.cells = some [v] := by
  rcases r with ⟨_, rfl⟩ | ⟨b, cap, cs, rfl, _⟩ <;> rfl
theorem RV.one {h : Nat} {X : Zf} {v : VVal} {rc : List VVal} (r : RV h X v rc) : v.one = true := by
  rcases r with ⟨_, rfl⟩ | ⟨b, cap, cs, rfl, _⟩ <;> rfl
theorem RV.app {h : Nat} {X : Zf} {v : VVal} {rc : List VVal} (r : RV h X v rc) (Y : Zf) : RV h (X ++ Y) v rc := by
  rcases r with h1 | ⟨b, cap, cs, h1, h2, h3⟩
  · exact .inl h1
  · exact .inr ⟨b, cap, cs, h1, Zw h2, h3⟩
section
variable {T : TypeId → Option VTy} {ρ : Operand → VVal} {H : Zf} {op : Op}
end
open Go
def wdP (P : Nat → Bool) (k : Nat) : BitVec 64 := wd fun i => decide (i < k) && P i
theorem wdP_0 (P : Nat → Bool) : wdP P 0 = 0#64 := YJ fun i _ => by simp [wdP, wd_bit]
theorem wdP_yes {P : Nat → Bool} {k : Nat} (h : P k = true) : wdP P k ||| 1#64 <<< k = wdP P (k + 1) := by
  unfold wdP
  rw [wd_orShl]
  refine wd_congr fun i hi => ?_
  by_cases h1 : i = k
  · subst h1; simp [h]
  · by_cases h2 : i < k
    · have : i < k + 1 := by omega
      simp [h1, h2, this]
    · have : ¬ i < k + 1 := by omega
      simp [h1, h2, this]
theorem wdP_no {P : Nat → Bool} {k : Nat} (h : P k = false) : wdP P k = wdP P (k + 1) := by
  unfold wdP
  refine wd_congr fun i hi => ?_
  by_cases h1 : i = k
  · subst h1; simp [h]
  · by_cases h2 : i < k
    · have : i < k + 1 := by omega
      simp [h2, this]
    · have : ¬ i < k + 1 := by omega
      simp [h2, this]
theorem wdP_bit {P : Nat → Bool} {k i : Nat} (hi : i < 64) : (wdP P k).getLsbD i = (decide (i < k) && P i) := by unfold wdP; rw [wd_bit]; simp [hi]
def bfr (m : Nat) (R : Nat → Nat → Bool) (a b : Int) : Bool := decide (0 ≤ a ∧ a < m) && (decide (0 ≤ b ∧ b < m) && R a.toNat b.toNat)
def prW (m : Nat) (R : Nat → Nat → Bool) (a : Int) : BitVec 64 := wdP (fun i => bfr m R i a) m
def rdP (m : Nat) (R : Nat → Nat → Bool) (d : BitVec 64) (a : Nat) : Bool := !d.getLsbD a && (prW m R a &&& ~~~d == 0#64)
def rdW (m : Nat) (R : Nat → Nat → Bool) (d : BitVec 64) : BitVec 64 := wdP (rdP m R d) m
def dnA (m : Nat) (R : Nat → Nat → Bool) (s : BitVec 64) (a : Nat) : Bool := !s.getLsbD a || (decide (a < m) && (prW m R a &&& ~~~s == 0#64))
def dnW (m : Nat) (R : Nat → Nat → Bool) (s : BitVec 64) : Bool := (List.range 64).all (dnA m R s)
section
variable {m : Nat} {R : Nat → Nat → Bool} {ps ss : List (BitVec 64)}
theorem Ord.prs (o : Ord m R ps ss) (a : Int) : (if 0 ≤ a ∧ a < ps.length then ps.getD a.toNat 0 else 0) = prW m R a := by
  rw [o.pl]
  refine YJ fun i hi => ?_
  unfold prW
  rw [wdP_bit hi]
  by_cases h : 0 ≤ a ∧ a < m
  · rw [if_pos h, o.pg _ (by omega)]
    unfold bfr
    rw [decide_eq_true h, Bool.true_and, Int.toNat_natCast]
    cases hR : R i a.toNat with
    | false => simp
    | true => have := (o.rg _ _ hR).1; simp [this]
  · rw [if_neg h]; unfold bfr; rw [decide_eq_false h]; simp
theorem Ord.pr (o : Ord m R ps ss) {a : Nat} (h : a < m) : ps.getD a 0 = prW m R a := by
  rw [← o.prs, if_pos (by rw [o.pl]; omega), Int.toNat_natCast]
theorem Ord.rd (o : Ord m R ps ss) (d : BitVec 64) : readyW ps d = rdW m R d := by
  refine YJ fun i hi => ?_
  rw [readyW_bit hi, o.pl]
  unfold rdW
  rw [wdP_bit hi]
  by_cases h : i < m
  · rw [o.pr h]; unfold rdP; simp [h, Bool.and_comm]
  · simp [h]
theorem Ord.dn (o : Ord m R ps ss) (s : BitVec 64) : downW ps s = dnW m R s := by
  rw [Bool.eq_iff_iff]
  unfold downW dnW
  rw [List.all_eq_true, List.all_eq_true]
  constructor
  · intro h a ha
    have ha := List.mem_range.1 ha
    unfold dnA
    cases hs : s.getLsbD a with
    | false => rfl
    | true =>
      have := h a (mem_pl.2 ⟨Nat.zero_le _, ha, hs⟩)
      unfold downA at this
      rw [o.pl] at this
      simp only [Bool.and_eq_true, decide_eq_true_eq] at this
      rw [o.pr this.1] at this
      simp [this]
  · intro h a ha
    obtain ⟨_, h1, h2⟩ := mem_pl.1 ha
    have := h a (List.mem_range.2 h1)
    unfold dnA at this
    rw [h2] at this
    simp only [Bool.not_true, Bool.false_or, Bool.and_eq_true, decide_eq_true_eq] at this
    unfold downA
    rw [o.pl, o.pr this.1]; simp [this]
end
section
variable {m : Nat} {R : Nat → Nat → Bool} {ps ss : List (BitVec 64)}
end
set_option autoImplicit true
open Go
def lk (J : List (BitVec 64)) (a b : Nat) : Bool := (J.getD a 0).getLsbD b
def nxW (J : List (BitVec 64)) (w : BitVec 64) : BitVec 64 := (pl w 0).foldl (fun n a => n ||| J.getD a 0) 0#64
theorem lk_lt {J : List (BitVec 64)} {a b : Nat} (h : lk J a b = true) : b < 64 := BitVec.lt_of_getLsbD h
theorem fold_bit {J : List (BitVec 64)} {b : Nat} : ∀ {l : List Nat} {n : BitVec 64}, (l.foldl (fun n a => n ||| J.getD a 0) n).getLsbD b = true ↔ n.getLsbD b = true ∨ ∃ a, a ∈ l ∧ lk J a b = true
  | [], n => by simp
  | a :: l, n => by
    rw [List.foldl_cons, fold_bit, BitVec.getLsbD_or, Bool.or_eq_true]
    constructor
    · rintro ((h | h) | ⟨c, hc, h⟩)
      · exact .inl h
      · exact .inr ⟨a, List.mem_cons_self .., h⟩
      · exact .inr ⟨c, List.mem_cons_of_mem _ hc, h⟩
    · rintro (h | ⟨c, hc, h⟩)
      · exact .inl (.inl h)
      · rcases List.mem_cons.1 hc with rfl | hc
        · exact .inl (.inr h)
        · exact .inr ⟨c, hc, h⟩
theorem nxW_bit {J : List (BitVec 64)} {w : BitVec 64} {b : Nat} : (nxW J w).getLsbD b = true ↔ ∃ a, w.getLsbD a = true ∧ lk J a b = true := by
  unfold nxW
  rw [fold_bit]
  constructor
  · rintro (h | ⟨a, ha, h⟩)
    · simp at h
    · exact ⟨a, (mem_pl.1 ha).2.2, h⟩
  · rintro ⟨a, ha, h⟩
    exact .inr ⟨a, mem_pl.2 ⟨Nat.zero_le _, BitVec.lt_of_getLsbD ha, ha⟩, h⟩
def spr (J : List (BitVec 64)) (s : BitVec 64) : BitVec 64 := wd fun b => s.getLsbD b || (List.range 64).any fun a => s.getLsbD a && rv (lk J) 64 a b
theorem spr_bit {J : List (BitVec 64)} {s : BitVec 64} {b : Nat} (hb : b < 64) : (spr J s).getLsbD b = true ↔ s.getLsbD b = true ∨ ∃ a, s.getLsbD a = true ∧ rv (lk J) 64 a b = true := by
  unfold spr
  rw [wd_bit]
  simp only [hb, decide_true, Bool.true_and, Bool.or_eq_true, List.any_eq_true, List.mem_range, Bool.and_eq_true]
  constructor
  · rintro (h | ⟨a, _, h⟩)
    · exact .inl h
    · exact .inr ⟨a, h⟩
  · rintro (h | ⟨a, h⟩)
    · exact .inl h
    · exact .inr ⟨a, BitVec.lt_of_getLsbD h.1, h⟩
def closedW (J : List (BitVec 64)) (w : BitVec 64) : Prop := ∀ a b, w.getLsbD a = true → lk J a b = true → w.getLsbD b = true
def subW (v w : BitVec 64) : Prop := ∀ a, v.getLsbD a = true → w.getLsbD a = true
theorem subW.ext {v w : BitVec 64} (h : subW v w) (h' : subW w v) : v = w := YJ fun i _ => by
  cases hv : v.getLsbD i with
  | true => rw [h i hv]
  | false => cases hw : w.getLsbD i with
    | true => rw [h' i hw] at hv; cases hv
    | false => rfl
theorem spr_sub {J : List (BitVec 64)} {s : BitVec 64} : subW s (spr J s) := fun a h => (spr_bit (BitVec.lt_of_getLsbD h)).2 (.inl h)
theorem spr_closed {J : List (BitVec 64)} {s : BitVec 64} : closedW J (spr J s) := by
  intro a b ha h
  have ha' := BitVec.lt_of_getLsbD ha
  refine (spr_bit (lk_lt h)).2 (.inr ?_)
  rcases (spr_bit ha').1 ha with h1 | ⟨c, h1, h2⟩
  · exact ⟨a, h1, rv_mono (Nat.zero_le 64) h⟩
  · exact ⟨c, h1, rv_trans ha' h2 (rv_mono (Nat.zero_le 64) h)⟩
theorem spr_least {J : List (BitVec 64)} {s w : BitVec 64} (h : subW s w) (hc : closedW J w) : subW (spr J s) w := by
  intro b hb
  rcases (spr_bit (BitVec.lt_of_getLsbD hb)).1 hb with h1 | ⟨a, h1, h2⟩
  · exact h b h1
  · exact rv_least (R := fun a b => w.getLsbD a = true → w.getLsbD b = true) (fun a b h ha => hc a b ha h) (fun _ _ _ _ h1 h2 h => h2 (h1 h)) h2 (h a h1)
theorem spr_eq {J : List (BitVec 64)} {s w : BitVec 64} (h : subW s w) (hw : subW w (spr J s)) (hc : closedW J w) : w = spr J s := hw.ext (spr_least h hc)
structure SprI (J : List (BitVec 64)) (s0 s f : BitVec 64) : Prop where
  a : subW s0 s
  b : subW s (spr J s0)
  c : ∀ a b, s.getLsbD a = true → f.getLsbD a = false → lk J a b = true → s.getLsbD b = true
theorem SprI.init {J : List (BitVec 64)} {s : BitVec 64} : SprI J s s s := ⟨fun _ h => h, spr_sub, fun a b h h' => by rw [h] at h'; cases h'⟩
theorem SprI.done {J : List (BitVec 64)} {s0 s : BitVec 64} (h : SprI J s0 s 0#64) : s = spr J s0 := spr_eq h.a h.b fun a b ha hl => h.c a b ha (by simp) hl
theorem SprI.next {J : List (BitVec 64)} {s0 s f : BitVec 64} (hf : subW f s) (h : SprI J s0 s f) : SprI J s0 (s ||| nxW J f) (nxW J f &&& ~~~s) := by
  refine ⟨fun a ha => ?_, fun b hb => ?_, fun a b ha hf' hl => ?_⟩
  · rw [BitVec.getLsbD_or, h.a a ha]; rfl
  · rw [BitVec.getLsbD_or, Bool.or_eq_true] at hb
    rcases hb with hb | hb
    · exact h.b b hb
    · obtain ⟨a, ha, hl⟩ := nxW_bit.1 hb
      exact spr_closed a b (h.b a (hf a ha)) hl
  · rw [BitVec.getLsbD_or, Bool.or_eq_true]
    have ha64 := BitVec.lt_of_getLsbD ha
    by_cases hs : s.getLsbD a = true
    · cases hfa : f.getLsbD a with
      | true => exact .inr (nxW_bit.2 ⟨a, hfa, hl⟩)
      | false => exact .inl (h.c a b hs hfa hl)
    · rw [BitVec.getLsbD_or, Bool.or_eq_true] at ha
      have hn := ha.resolve_left hs
      rw [BitVec.getLsbD_and, BitVec.getLsbD_not, hn, Bool.true_and, decide_eq_true ha64, Bool.true_and] at hf'
      exact absurd (by simpa using hf') hs
theorem come_le (s : BitVec 64) : Yz 64 s ≤ 64 := by unfold Yz; exact Nat.le_trans List.countP_le_length (by simp)
theorem come_grow {s t : BitVec 64} (h : subW s t) (hx : ∃ a, t.getLsbD a = true ∧ s.getLsbD a = false) : Yz 64 s < Yz 64 t := by
  obtain ⟨a, h1, h2⟩ := hx
  exact countP_lt (fun x _ => h x) ⟨a, List.mem_range.2 (BitVec.lt_of_getLsbD h1), h1, h2⟩
structure Rk (J : List (BitVec 64)) : Prop where
  len : J.length = 64
  acy : ∀ a, rv (lk J) 64 a a = false
def rk0 : List (BitVec 64) := List.replicate 64 0#64
theorem lk_0 {a b : Nat} : lk rk0 a b = false := by
  unfold lk rk0
  rw [List.getD_eq_getElem?_getD, List.getElem?_replicate]
  split <;> simp
theorem Rk.zero : Rk rk0 := ⟨by unfold rk0; simp, fun a => by
  cases h : rv (lk rk0) 64 a a with
  | false => rfl
  | true => exact (rv_least (R := fun _ _ => False) (fun a b h => by rw [lk_0] at h; cases h) (fun _ _ _ _ h _ => h) h).elim⟩
theorem Rk.less {J J' : List (BitVec 64)} (r : Rk J) (hl : J'.length = J.length) (h : ∀ a b, lk J' a b = true → lk J a b = true) : Rk J' := ⟨hl.trans r.len, fun a => by
  cases hr : rv (lk J') 64 a a with
  | false => rfl
  | true =>
    have := rv_least (R := fun a b => rv (lk J) 64 a b = true) (fun a b e => rv_mono (Nat.zero_le 64) (h a b e)) (fun _ _ _ hc h1 h2 => rv_trans hc h1 h2) hr
    rw [r.acy a] at this; cases this⟩
def hgt (J : List (BitVec 64)) (a : Nat) : Nat := (List.range 64).countP (rv (lk J) 64 a)
open Go
abbrev GSt : Type := List Int × BitVec 64
def grL (g : Int → GSt → Bool × GSt) (row : Int) : List Nat → GSt → Bool × GSt
  | [], s => (false, s)
  | u :: l, s =>
    if s.2.getLsbD u = true then grL g row l s
    else if s.1.getD u 0 = 0 then (true, (s.1.set u (row + 1), s.2 ||| 1#64 <<< u))
    else if (g (s.1.getD u 0 - 1) (s.1, s.2 ||| 1#64 <<< u)).1 = true then (true, ((g (s.1.getD u 0 - 1) (s.1, s.2 ||| 1#64 <<< u)).2.1.set u (row + 1), (g (s.1.getD u 0 - 1) (s.1, s.2 ||| 1#64 <<< u)).2.2))
    else grL g row l (g (s.1.getD u 0 - 1) (s.1, s.2 ||| 1#64 <<< u)).2
def grw (rows : List (BitVec 64)) : Nat → Int → GSt → Bool × GSt
  | 0, _, s => (false, s)
  | n + 1, row, s => grL (grw rows n) row (pl (rows.getD row.toNat 0 &&& ~~~s.2) 0) s
def ownd (O : List Int) (r : Int) : Nat := (List.range 64).countP fun u => O.getD u 0 == r + 1
structure Gok (rows : List (BitVec 64)) (O : List Int) : Prop where
  len : O.length = 64
  nn : ∀ u, u < 64 → 0 ≤ O.getD u 0 ∧ O.getD u 0 ≤ rows.length
  may : ∀ u, u < 64 → O.getD u 0 ≠ 0 → (rows.getD (O.getD u 0 - 1).toNat 0).getLsbD u = true
theorem ZZ {O : List Int} {u v : Nat} {r : Int} (h : u < O.length) : (O.set u r).getD v 0 = if v = u then r else O.getD v 0 := by
  rw [List.getD_eq_getElem?_getD, List.getElem?_set]
  by_cases e : u = v
  · subst e; rw [if_pos rfl, if_pos h, if_pos rfl]; rfl
  · rw [if_neg e, if_neg (fun x => e x.symm), List.getD_eq_getElem?_getD]
theorem Gok.set {rows : List (BitVec 64)} {O : List Int} (k : Gok rows O) {u : Nat} {row : Int} (hu : u < 64) (hr : 0 ≤ row ∧ row < rows.length) (hm : (rows.getD row.toNat 0).getLsbD u = true) : Gok rows (O.set u (row + 1)) := by
  have hul : u < O.length := by rw [k.len]; exact hu
  refine ⟨by rw [List.length_set]; exact k.len, fun v hv => ?_, fun v hv h => ?_⟩
  · rw [ZZ hul]; split
    · omega
    · exact k.nn v hv
  · rw [ZZ hul] at h ⊢
    split
    · rename_i e; subst e; rw [show row + 1 - 1 = row by omega]; exact hm
    · rename_i e; rw [if_neg e] at h; exact k.may v hv h
theorem own_set {O : List Int} {u : Nat} {row r : Int} (hO : O.length = 64) (hu : u < 64) : ownd (O.set u (row + 1)) r + (if O.getD u 0 = r + 1 then 1 else 0) = ownd O r + if row = r then 1 else 0 := by
  have hul : u < O.length := by rw [hO]; exact hu
  have h : ∀ n, (List.range n).countP (fun v => (O.set u (row + 1)).getD v 0 == r + 1) + (if u < n ∧ O.getD u 0 = r + 1 then 1 else 0) = (List.range n).countP (fun v => O.getD v 0 == r + 1) + if u < n ∧ row = r then 1 else 0 := by
    intro n
    induction n with
    | zero => simp
    | succ n ih =>
      rw [List.range_succ, List.countP_append, List.countP_append, List.countP_singleton, List.countP_singleton, ZZ hul]
      by_cases e : n = u
      · subst e
        simp only [Nat.lt_irrefl, false_and, if_false, Nat.add_zero] at ih
        simp only [if_true, Nat.lt_succ_self, true_and, beq_iff_eq]
        rw [ih]
        by_cases h1 : row = r
        · have : row + 1 = r + 1 := by omega
          simp only [h1, if_true]; omega
        · have : ¬ row + 1 = r + 1 := by omega
          simp only [this, h1, if_false]; omega
      · rw [if_neg e]
        have e2 : (u < n + 1) ↔ u < n := by omega
        simp only [e2]; omega
  have := h 64
  simp only [hu, true_and] at this
  exact this
structure Gro (rows : List (BitVec 64)) (row : Int) (s : GSt) (b : Bool) (t : GSt) : Prop where
  sub : subW s.2 t.2
  yes : b = true → Gok rows t.1 ∧ (∀ u, s.2.getLsbD u = true → t.1.getD u 0 = s.1.getD u 0) ∧ ∀ r, 0 ≤ r → ownd t.1 r = ownd s.1 r + if row = r then 1 else 0
  no : b = false → t.1 = s.1 ∧ (∀ u, (rows.getD row.toNat 0).getLsbD u = true → t.2.getLsbD u = true) ∧ ∀ u, t.2.getLsbD u = true → s.2.getLsbD u = false → s.1.getD u 0 ≠ 0 ∧ subW (rows.getD (s.1.getD u 0 - 1).toNat 0) t.2
theorem or1 {w : BitVec 64} {u a : Nat} (hu : u < 64) : (w ||| 1#64 <<< u).getLsbD a = true ↔ w.getLsbD a = true ∨ a = u := by
  rw [or_bit]; simp only [Bool.or_eq_true, Bool.and_eq_true, decide_eq_true_eq]
  constructor
  · rintro (h | ⟨h, _⟩)
    · exact .inl h
    · exact .inr h
  · rintro (h | h)
    · exact .inl h
    · exact .inr ⟨h, by omega⟩
theorem grL_ok {rows : List (BitVec 64)} {g : Int → GSt → Bool × GSt} {row : Int} (hr : 0 ≤ row ∧ row < rows.length) {k : Nat}
    (hg : ∀ (r : Int) t, 0 ≤ r → r < rows.length → Gok rows t.1 → 64 - Yz 64 t.2 < k → Gro rows r t (g r t).1 (g r t).2) :
    ∀ {l : List Nat} {s0 s : GSt}, (∀ u, u ∈ l → (rows.getD row.toNat 0).getLsbD u = true) → Gok rows s.1 → 64 - Yz 64 s.2 ≤ k → s.1 = s0.1 → subW s0.2 s.2 →
      (∀ u, (rows.getD row.toNat 0).getLsbD u = true → s.2.getLsbD u = true ∨ u ∈ l) → (∀ u, s.2.getLsbD u = true → s0.2.getLsbD u = false → s0.1.getD u 0 ≠ 0 ∧ subW (rows.getD (s0.1.getD u 0 - 1).toNat 0) s.2) →
      Gro rows row s0 (grL g row l s).1 (grL g row l s).2
  | [], s0, s, _, _, _, he, hsub, hall, hcl => by
    refine ⟨hsub, (fun h => by cases h), fun _ => ⟨he, fun u hu => (hall u hu).elim id (fun h => by cases h), hcl⟩⟩
  | u :: l, s0, s, hl, hk, hm, he, hsub, hall, hcl => by
    have hu := hl u (List.mem_cons_self ..)
    have hu64 := BitVec.lt_of_getLsbD hu
    have hl' : ∀ v, v ∈ l → (rows.getD row.toNat 0).getLsbD v = true := fun v hv => hl v (List.mem_cons_of_mem _ hv)
    have huO : u < s.1.length := by rw [hk.len]; exact hu64
    rw [grL]
    split
    · rename_i hs
      refine grL_ok hr hg hl' hk hm he hsub (fun v hv => ?_) hcl
      rcases hall v hv with h | h
      · exact .inl h
      · rcases List.mem_cons.1 h with e | h
        · subst e; exact .inl hs
        · exact .inr h
    · rename_i hs
      have hsf : s.2.getLsbD u = false := by cases h : s.2.getLsbD u <;> simp_all
      have hs0 : s0.2.getLsbD u = false := by
        cases h : s0.2.getLsbD u with
        | false => rfl
        | true => rw [hsub u h] at hsf; cases hsf
      have hs1 : subW s.2 (s.2 ||| 1#64 <<< u) := fun a ha => (or1 hu64).2 (.inl ha)
      have hnn := hk.nn u hu64
      split
      · rename_i h0
        refine ⟨fun a ha => hs1 a (hsub a ha), fun _ => ⟨hk.set hu64 hr hu, fun v hv => ?_, fun r hr0 => ?_⟩, (fun h => by cases h)⟩
        · rw [ZZ huO, if_neg (fun e => by subst e; rw [hv] at hs0; cases hs0), he]
        · have := own_set (row := row) (r := r) hk.len hu64
          rw [h0] at this
          rw [← he]
          rw [if_neg (by omega)] at this; exact this
      · rename_i h0
        have hgk := hg (s.1.getD u 0 - 1) (s.1, s.2 ||| 1#64 <<< u) (by omega) (by omega) hk (by
          have := come_grow hs1 ⟨u, (or1 hu64).2 (.inr rfl), hsf⟩
          have := come_le (s.2 ||| 1#64 <<< u)
          simp only; omega)
        split
        · rename_i hb
          obtain ⟨g1, g2, g3⟩ := hgk.yes hb
          have hlen := g1.len
          refine ⟨fun a ha => hgk.sub a (hs1 a (hsub a ha)), fun _ => ⟨g1.set hu64 hr hu, fun v hv => ?_, fun r hr0 => ?_⟩, (fun h => by cases h)⟩
          · rw [ZZ (by rw [hlen]; exact hu64), if_neg (fun e => by subst e; rw [hv] at hs0; cases hs0), g2 v (hs1 v (hsub v hv)), he]
          · have h1 := own_set (row := row) (r := r) hlen hu64
            have h2 := g3 r hr0
            have h3 := g2 u ((or1 hu64).2 (.inr rfl))
            simp only at h2 h3
            rw [h3] at h1
            rw [← he]
            show ownd ((g (s.1.getD u 0 - 1) (s.1, s.2 ||| 1#64 <<< u)).2.1.set u (row + 1)) r = ownd s.1 r + (if row = r then 1 else 0)
            by_cases hq : s.1.getD u 0 = r + 1
            · rw [if_pos hq] at h1; rw [if_pos (by omega)] at h2; omega
            · rw [if_neg hq] at h1; rw [if_neg (by omega)] at h2; omega
        · rename_i hb
          have hbf : (g (s.1.getD u 0 - 1) (s.1, s.2 ||| 1#64 <<< u)).1 = false := by
            cases h : (g (s.1.getD u 0 - 1) (s.1, s.2 ||| 1#64 <<< u)).1 <;> simp_all
          obtain ⟨g1, g2, g3⟩ := hgk.no hbf
          simp only at g1 g2 g3
          have hsub2 : subW s.2 (g (s.1.getD u 0 - 1) (s.1, s.2 ||| 1#64 <<< u)).2.2 := fun a ha => hgk.sub a (hs1 a ha)
          refine grL_ok hr hg hl' (by rw [g1]; exact hk) ?_ (g1.trans he) (fun a ha => hsub2 a (hsub a ha)) (fun v hv => ?_) fun v hv hv0 => ?_
          · have : Yz 64 s.2 ≤ Yz 64 (g (s.1.getD u 0 - 1) (s.1, s.2 ||| 1#64 <<< u)).2.2 := List.countP_mono_left fun x _ hx => hsub2 x hx
            omega
          · rcases hall v hv with h | h
            · exact .inl (hsub2 v h)
            · rcases List.mem_cons.1 h with e | h
              · subst e; exact .inl (hgk.sub v ((or1 hu64).2 (.inr rfl)))
              · exact .inr h
          · rw [← he]
            by_cases h1 : s.2.getLsbD v = true
            · have := hcl v h1 hv0
              rw [← he] at this
              exact ⟨this.1, fun a ha => hsub2 a (this.2 a ha)⟩
            · by_cases e : v = u
              · subst e; exact ⟨h0, g2⟩
              · have h1f : (s.2 ||| 1#64 <<< u).getLsbD v = false := by
                  cases h : (s.2 ||| 1#64 <<< u).getLsbD v with
                  | false => rfl
                  | true => exact ((or1 hu64).1 h).elim (fun h => absurd h h1) fun h => absurd h e
                exact g3 v hv h1f
theorem grw_ok {rows : List (BitVec 64)} : ∀ {n : Nat} {row : Int} {s : GSt}, 0 ≤ row → row < rows.length → Gok rows s.1 → 64 - Yz 64 s.2 < n → Gro rows row s (grw rows n row s).1 (grw rows n row s).2
  | 0, row, s, _, _, _, h => by omega
  | n + 1, row, s, h1, h2, hk, h => by
    rw [grw]
    refine grL_ok (k := n) ⟨h1, h2⟩ (fun r t a b c d => grw_ok a b c (by omega)) (fun u hu => ?_) hk (by omega) rfl (fun _ h => h) (fun u hu => ?_) fun u hu hu' => by rw [hu] at hu'; cases hu'
    · have := (mem_pl.1 hu).2.2
      rw [BitVec.getLsbD_and, Bool.and_eq_true] at this; exact this.1
    · have hu64 := BitVec.lt_of_getLsbD hu
      cases hs : s.2.getLsbD u with
      | true => exact .inl rfl
      | false => exact .inr (mem_pl.2 ⟨Nat.zero_le _, hu64, by rw [BitVec.getLsbD_and, hu, BitVec.getLsbD_not, hs]; simp [hu64]⟩)
theorem come_le2 {s t : BitVec 64} (h : subW s t) : Yz 64 s ≤ Yz 64 t := List.countP_mono_left fun x _ hx => h x hx
open Go
structure MatU (l : List (BitVec 64)) (us : List Nat) : Prop where
  len : us.length = l.length
  nd : us.Nodup
  ok : ∀ k, k < l.length → (l.getD k 0).getLsbD (us.getD k 0) = true
def Mat (l : List (BitVec 64)) : Prop := ∃ us, MatU l us
def szO (rows : List (BitVec 64)) : Nat → List Int × Nat
  | 0 => (List.replicate 64 0, 0)
  | k + 1 => ((grw rows 65 k ((szO rows k).1, 0#64)).2.1, if (grw rows 65 k ((szO rows k).1, 0#64)).1 = true then (szO rows k).2 + 1 else (szO rows k).2)
def szN (rows : List (BitVec 64)) : Nat := (szO rows rows.length).2
theorem szO_le {rows : List (BitVec 64)} : ∀ {k : Nat}, (szO rows k).2 ≤ k
  | 0 => Nat.le_refl _
  | k + 1 => by
    have := @szO_le rows k
    rw [szO]; simp only; split <;> omega
theorem Gok.init {rows : List (BitVec 64)} : Gok rows (List.replicate 64 0) := by
  have h : ∀ u, (List.replicate 64 (0 : Int)).getD u 0 = 0 := fun u => by
    rw [List.getD_eq_getElem?_getD, List.getElem?_replicate]; split <;> rfl
  exact ⟨by simp, fun u _ => by rw [h]; omega, fun u _ h' => absurd (h u) h'⟩
theorem szO_gro {rows : List (BitVec 64)} {k : Nat} (hk : k < rows.length) (hg : Gok rows (szO rows k).1) : Gro rows k ((szO rows k).1, 0#64) (grw rows 65 k ((szO rows k).1, 0#64)).1 (grw rows 65 k ((szO rows k).1, 0#64)).2 :=
  grw_ok (by omega) (by omega) hg (by rw [come_0]; omega)
theorem szO_ok {rows : List (BitVec 64)} : ∀ {k : Nat}, k ≤ rows.length → Gok rows (szO rows k).1
  | 0, _ => Gok.init
  | k + 1, h => by
    have hg := szO_gro (show k < rows.length by omega) (szO_ok (by omega))
    rw [szO]
    cases hb : (grw rows 65 k ((szO rows k).1, 0#64)).1 with
    | true => exact (hg.yes hb).1
    | false => rw [show ((grw rows 65 (k : Int) ((szO rows k).1, 0#64)).2.1, _).1 = _ from rfl, (hg.no hb).1]; exact szO_ok (by omega)
theorem ownd_0 {r : Int} (h : 0 ≤ r) : ownd (List.replicate 64 0) r = 0 := by
  unfold ownd
  rw [List.countP_eq_zero]
  intro u hu
  rw [List.getD_eq_getElem?_getD, List.getElem?_replicate]
  split <;> simp <;> omega
theorem szO_own {rows : List (BitVec 64)} : ∀ {k : Nat}, k ≤ rows.length → (szO rows k).2 = k → ∀ r : Nat, ownd (szO rows k).1 r = if r < k then 1 else 0
  | 0, _, _, r => by rw [szO]; simp only; rw [ownd_0 (by omega)]; rfl
  | k + 1, h, hn, r => by
    have hg := szO_gro (show k < rows.length by omega) (szO_ok (by omega))
    have hle := @szO_le rows k
    rw [szO] at hn
    simp only at hn
    cases hb : (grw rows 65 k ((szO rows k).1, 0#64)).1 with
    | false => rw [hb] at hn; simp at hn; omega
    | true =>
      rw [hb] at hn; simp only [if_true] at hn
      have ih := szO_own (show k ≤ rows.length by omega) (by omega) r
      have := (hg.yes hb).2.2 r (by omega)
      rw [szO]; simp only
      rw [this]; simp only
      rw [ih]
      by_cases e : r = k
      · subst e; simp
      · have : ¬ ((k : Int) = (r : Int)) := by omega
        rw [if_neg this]
        by_cases h1 : r < k
        · rw [if_pos h1, if_pos (by omega)]
        · rw [if_neg h1, if_neg (by omega)]
theorem nodup_sub : ∀ {l m : List Nat}, l.Nodup → (∀ x, x ∈ l → x ∈ m) → l.length ≤ m.length
  | [], m, _, _ => by simp
  | x :: l, m, hn, h => by
    have hx := h x (List.mem_cons_self ..)
    have hn' := List.nodup_cons.1 hn
    have := nodup_sub (l := l) (m := m.erase x) hn'.2 fun y hy => by
      have hne : y ≠ x := fun e => hn'.1 (e ▸ hy)
      exact (List.mem_erase_of_ne hne).2 (h y (List.mem_cons_of_mem _ hy))
    rw [List.length_erase_of_mem hx] at this
    have hp := List.length_pos_of_mem hx
    rw [List.length_cons]; omega
theorem pl_nodup (w : BitVec 64) : (pl w 0).Nodup := by
  unfold pl
  exact List.Nodup.sublist List.filter_sublist (List.nodup_range' ..)
theorem own_one {O : List Int} {u v : Nat} {r : Int} (hu : u < 64) (hv : v < 64) (h1 : O.getD u 0 = r + 1) (h2 : O.getD v 0 = r + 1) (hne : u ≠ v) : 2 ≤ ownd O r := by
  unfold ownd
  rw [List.countP_eq_length_filter]
  exact nodup_sub (l := [u, v]) (by simp [hne]) fun x hx => by
    simp only [List.mem_cons, List.not_mem_nil, or_false] at hx
    rcases hx with rfl | rfl
    · exact List.mem_filter.2 ⟨List.mem_range.2 hu, by rw [beq_iff_eq]; exact h1⟩
    · exact List.mem_filter.2 ⟨List.mem_range.2 hv, by rw [beq_iff_eq]; exact h2⟩
theorem nodup_getD {us : List Nat} (h : us.Nodup) {i j : Nat} (hi : i < us.length) (hj : j < us.length) (e : us.getD i 0 = us.getD j 0) : i = j := by
  rw [List.getD_eq_getElem?_getD, List.getD_eq_getElem?_getD, List.getElem?_eq_getElem hi, List.getElem?_eq_getElem hj] at e
  have hp := List.pairwise_iff_getElem.1 (List.nodup_iff_pairwise_ne.1 h)
  rcases Nat.lt_trichotomy i j with h1 | h1 | h1
  · exact absurd e (hp i j hi hj h1)
  · exact h1
  · exact absurd (Eq.symm e) (hp j i hj hi h1)
theorem no_mat {rows : List (BitVec 64)} {k : Nat} (hk : k < rows.length) (hn : (szO rows k).2 = k) (hb : (grw rows 65 k ((szO rows k).1, 0#64)).1 = false) : ¬ Mat rows := by
  rintro ⟨us, hm⟩
  have hok := szO_ok (rows := rows) (k := k) (by omega)
  have hg := szO_gro hk hok
  obtain ⟨_, h1, h2⟩ := hg.no hb
  have hown := szO_own (rows := rows) (k := k) (by omega) hn
  simp only at h1 h2
  let S := (grw rows 65 k ((szO rows k).1, 0#64)).2.2
  let O := (szO rows k).1
  have h2' : ∀ u, u ∈ pl S 0 → u < 64 ∧ O.getD u 0 ≠ 0 ∧ subW (rows.getD (O.getD u 0 - 1).toNat 0) S := fun u hu => by
    have hb := (mem_pl.1 hu).2
    exact ⟨hb.1, h2 u hb.2 (by simp)⟩
  -- the owner of such a place is one of the rows before
  have hlt : ∀ u, u ∈ pl S 0 → (O.getD u 0 - 1).toNat < k := fun u hu => by
    have hu2 := h2' u hu
    have hnn := hok.nn u hu2.1
    have h0 : O.getD u 0 ≠ 0 := hu2.2.1
    have hpos : 0 < ownd O ((O.getD u 0 - 1).toNat : Nat) := by
      unfold ownd
      rw [List.countP_pos_iff]
      exact ⟨u, List.mem_range.2 hu2.1, by
        have : O.getD u 0 = (((O.getD u 0 - 1).toNat : Nat) : Int) + 1 := by
          have : 0 ≤ O.getD u 0 := hnn.1
          omega
        simpa using this⟩
    have := hown (O.getD u 0 - 1).toNat
    by_cases h : (O.getD u 0 - 1).toNat < k
    · exact h
    · rw [if_neg h] at this
      have : ownd O ((O.getD u 0 - 1).toNat : Nat) = 0 := this
      omega
  have hus : us.length = rows.length := hm.len
  have hnd : ((pl S 0).map fun u => us.getD (O.getD u 0 - 1).toNat 0).Nodup := by
    rw [List.nodup_iff_pairwise_ne, List.pairwise_map]
    refine (List.nodup_iff_pairwise_ne.1 (pl_nodup S)).imp_of_mem ?_
    intro u v hu hv hne e
    have l1 := hlt u hu
    have l2 := hlt v hv
    have e' := nodup_getD hm.nd (by omega) (by omega) e
    have hu2 := h2' u hu
    have hv2 := h2' v hv
    have n1 : 0 ≤ O.getD u 0 := (hok.nn u hu2.1).1
    have n2 : 0 ≤ O.getD v 0 := (hok.nn v hv2.1).1
    have hu0 := hu2.2.1
    have hv0 := hv2.2.1
    have := own_one (O := O) (r := O.getD u 0 - 1) hu2.1 hv2.1 (by omega) (by omega) hne
    have h3 := hown (O.getD u 0 - 1).toNat
    rw [if_pos l1, show (((O.getD u 0 - 1).toNat : Nat) : Int) = O.getD u 0 - 1 by omega] at h3
    have h3 : ownd O (O.getD u 0 - 1) = 1 := h3
    omega
  have hall : ((us.getD k 0) :: (pl S 0).map fun u => us.getD (O.getD u 0 - 1).toNat 0).Nodup := by
    refine List.nodup_cons.2 ⟨fun hmem => ?_, hnd⟩
    obtain ⟨u, hu, e⟩ := List.mem_map.1 hmem
    have l1 := hlt u hu
    have := nodup_getD hm.nd (by omega) (by omega) e
    omega
  have := nodup_sub hall (m := pl S 0) fun x hx => by
    rcases List.mem_cons.1 hx with rfl | hx
    · have hk' := hm.ok k hk
      exact mem_pl.2 ⟨Nat.zero_le _, BitVec.lt_of_getLsbD hk', h1 _ (by rw [Int.toNat_natCast]; exact hk')⟩
    · obtain ⟨u, hu, rfl⟩ := List.mem_map.1 hx
      have hk' := hm.ok (O.getD u 0 - 1).toNat (by have := hlt u hu; omega)
      exact mem_pl.2 ⟨Nat.zero_le _, BitVec.lt_of_getLsbD hk', (h2' u hu).2.2 _ hk'⟩
  rw [List.length_cons, List.length_map] at this
  omega
theorem szO_step {rows : List (BitVec 64)} (hm : Mat rows) : ∀ {k : Nat}, k ≤ rows.length → (szO rows k).2 = k
  | 0, _ => rfl
  | k + 1, h => by
    have ih := szO_step hm (show k ≤ rows.length by omega)
    rw [szO]; simp only
    cases hb : (grw rows 65 k ((szO rows k).1, 0#64)).1 with
    | true => simp; omega
    | false => exact absurd hm (no_mat (by omega) ih hb)
theorem full_iff {rows : List (BitVec 64)} : szN rows = rows.length ↔ Mat rows := by
  constructor
  · intro h
    have hok := szO_ok (rows := rows) (Nat.le_refl _)
    have hown := szO_own (rows := rows) (Nat.le_refl _) h
    have hex : ∀ r, r < rows.length → ∃ u, u < 64 ∧ (szO rows rows.length).1.getD u 0 = (r : Int) + 1 := fun r hr => by
      have := hown r
      rw [if_pos hr] at this
      have : 0 < ownd (szO rows rows.length).1 r := by omega
      unfold ownd at this
      obtain ⟨u, hu, e⟩ := List.countP_pos_iff.1 this
      exact ⟨u, List.mem_range.1 hu, by simpa using e⟩
    let f : Nat → Nat := fun r => ((List.range 64).find? fun u => (szO rows rows.length).1.getD u 0 == (r : Int) + 1).getD 0
    have hf : ∀ r, r < rows.length → f r < 64 ∧ (szO rows rows.length).1.getD (f r) 0 = (r : Int) + 1 := fun r hr => by
      obtain ⟨u, hu, e⟩ := hex r hr
      cases hfd : (List.range 64).find? fun u => (szO rows rows.length).1.getD u 0 == (r : Int) + 1 with
      | none =>
        have := List.find?_eq_none.1 hfd u (List.mem_range.2 hu)
        rw [e] at this; simp at this
      | some v =>
        have h1 := List.mem_of_find?_eq_some hfd
        have h2 := List.find?_some hfd
        show ((List.range 64).find? fun u => (szO rows rows.length).1.getD u 0 == (r : Int) + 1).getD 0 < 64 ∧ (szO rows rows.length).1.getD (((List.range 64).find? fun u => (szO rows rows.length).1.getD u 0 == (r : Int) + 1).getD 0) 0 = (r : Int) + 1
        rw [hfd]
        exact ⟨List.mem_range.1 h1, by simpa using h2⟩
    have hg : ∀ k, k < rows.length → ((List.range rows.length).map f).getD k 0 = f k := fun k hk => by
      rw [List.getD_eq_getElem?_getD, List.getElem?_map, List.getElem?_range hk]; rfl
    refine ⟨(List.range rows.length).map f, by simp, ?_, fun k hk => ?_⟩
    · rw [List.nodup_iff_pairwise_ne, List.pairwise_map]
      refine (List.nodup_iff_pairwise_ne.1 List.nodup_range).imp_of_mem ?_
      intro a b ha hb hne e
      have h1 := (hf a (List.mem_range.1 ha)).2
      have h2 := (hf b (List.mem_range.1 hb)).2
      rw [e, h2] at h1
      omega
    · rw [hg k hk]
      have := hf k hk
      have hmay := hok.may (f k) this.1 (by rw [this.2]; omega)
      rw [this.2, show (k : Int) + 1 - 1 = k by omega, Int.toNat_natCast] at hmay
      exact hmay
  · intro h; exact szO_step h (Nat.le_refl _)
open Go
def msk (l : List (BitVec 64)) (t : BitVec 64) : List (BitVec 64) := l.map fun w => w &&& ~~~t
theorem Ye {l : List (BitVec 64)} {t : BitVec 64} : (msk l t).length = l.length := by unfold msk; simp
theorem msk_bit {w t : BitVec 64} {u : Nat} : (w &&& ~~~t).getLsbD u = true ↔ w.getLsbD u = true ∧ t.getLsbD u = false := by
  rw [BitVec.getLsbD_and, BitVec.getLsbD_not, Bool.and_eq_true]
  constructor
  · rintro ⟨h1, h2⟩; exact ⟨h1, by simpa [BitVec.lt_of_getLsbD h1] using h2⟩
  · rintro ⟨h1, h2⟩; exact ⟨h1, by rw [h2, decide_eq_true (BitVec.lt_of_getLsbD h1)]; rfl⟩
theorem msk_0 {l : List (BitVec 64)} : msk l 0#64 = l := by
  unfold msk
  conv => rhs; rw [← List.map_id l]
  apply List.map_congr_left
  intro w _
  refine YJ fun i hi => ?_
  rw [BitVec.getLsbD_and, BitVec.getLsbD_not, BitVec.getLsbD_zero, decide_eq_true hi]
  simp
theorem msk_msk {l : List (BitVec 64)} {s t : BitVec 64} : msk (msk l s) t = msk l (s ||| t) := by
  unfold msk
  rw [List.map_map]
  apply List.map_congr_left
  intro w _
  refine YJ fun i hi => ?_
  simp only [Function.comp, BitVec.getLsbD_and, BitVec.getLsbD_not, BitVec.getLsbD_or, hi, decide_true, Bool.true_and, Bool.not_or, Bool.and_assoc]
def Yp (l : List (BitVec 64)) (t : BitVec 64) : Bool := szN (msk l t) == l.length
theorem fullB_iff {l : List (BitVec 64)} {t : BitVec 64} : Yp l t = true ↔ Mat (msk l t) := by
  unfold Yp; rw [beq_iff_eq, ← full_iff, Ye]
theorem matU_nil {us : List Nat} : MatU [] us ↔ us = [] := by
  constructor
  · intro h; exact List.eq_nil_of_length_eq_zero h.len
  · rintro rfl; exact ⟨rfl, List.nodup_nil, fun k h => by simp at h⟩
theorem matU_cons {w : BitVec 64} {l : List (BitVec 64)} {u : Nat} {us : List Nat} : MatU (w :: l) (u :: us) ↔ w.getLsbD u = true ∧ u ∉ us ∧ MatU l us := by
  constructor
  · intro h
    have hn := List.nodup_cons.1 h.nd
    exact ⟨h.ok 0 (by simp), hn.1, ⟨by simpa using h.len, hn.2, fun k hk => h.ok (k + 1) (by simpa using hk)⟩⟩
  · rintro ⟨h1, h2, h3⟩
    refine ⟨by simp [h3.len], List.nodup_cons.2 ⟨h2, h3.nd⟩, fun k hk => ?_⟩
    cases k with
    | zero => exact h1
    | succ k => exact h3.ok k (by simpa using hk)
theorem matU_msk : ∀ {l : List (BitVec 64)} {us : List Nat} {t : BitVec 64}, MatU (msk l t) us ↔ MatU l us ∧ ∀ u, u ∈ us → t.getLsbD u = false
  | [], us, t => by
    show MatU [] us ↔ _
    rw [matU_nil]
    constructor
    · rintro rfl; exact ⟨rfl, fun u h => by cases h⟩
    · exact fun h => h.1
  | w :: l, [], t => by
    constructor
    · intro h; have := h.len; simp [msk] at this
    · intro h; have := h.1.len; simp at this
  | w :: l, u :: us, t => by
    show MatU ((w &&& ~~~t) :: msk l t) (u :: us) ↔ _
    rw [matU_cons, matU_cons, matU_msk, msk_bit]
    constructor
    · rintro ⟨⟨h1, h2⟩, h3, h4, h5⟩
      exact ⟨⟨h1, h3, h4⟩, fun v hv => (List.mem_cons.1 hv).elim (fun e => e ▸ h2) (h5 v)⟩
    · rintro ⟨⟨h1, h2, h3⟩, h4⟩
      exact ⟨⟨h1, h4 u (List.mem_cons_self ..)⟩, h2, h3, fun v hv => h4 v (List.mem_cons_of_mem _ hv)⟩
theorem one_bit {u v : Nat} (hu : u < 64) : (1#64 <<< u : BitVec 64).getLsbD v = false ↔ v ≠ u := by
  rw [shl_bit]
  by_cases h : v = u
  · subst h; simp [hu]
  · simp [h]
theorem mat_cons {w : BitVec 64} {l : List (BitVec 64)} : Mat (w :: l) ↔ ∃ u, w.getLsbD u = true ∧ Mat (msk l (1#64 <<< u)) := by
  constructor
  · rintro ⟨us, h⟩
    cases us with
    | nil => have := h.len; simp at this
    | cons u us =>
      obtain ⟨h1, h2, h3⟩ := matU_cons.1 h
      have hu := BitVec.lt_of_getLsbD h1
      exact ⟨u, h1, us, matU_msk.2 ⟨h3, fun v hv => (one_bit hu).2 fun e => h2 (e ▸ hv)⟩⟩
  · rintro ⟨u, h1, us, h2⟩
    have hu := BitVec.lt_of_getLsbD h1
    obtain ⟨h3, h4⟩ := matU_msk.1 h2
    exact ⟨u :: us, matU_cons.2 ⟨h1, fun hm => (one_bit hu).1 (h4 u hm) rfl, h3⟩⟩
theorem mat_consT {w : BitVec 64} {l : List (BitVec 64)} {t : BitVec 64} : Mat (msk (w :: l) t) ↔ ∃ u, (w &&& ~~~t).getLsbD u = true ∧ Mat (msk l (t ||| 1#64 <<< u)) := by
  show Mat ((w &&& ~~~t) :: msk l t) ↔ _
  rw [mat_cons]
  simp only [msk_msk]
def lst : List (BitVec 64) → BitVec 64 → List Nat
  | [], _ => []
  | w :: l, t => match (pl (w &&& ~~~t) 0).find? (fun u => Yp l (t ||| 1#64 <<< u)) with
    | some u => u :: lst l (t ||| 1#64 <<< u)
    | none => lst l t
theorem lst_ok : ∀ {l : List (BitVec 64)} {t : BitVec 64}, Mat (msk l t) → MatU (msk l t) (lst l t)
  | [], t, _ => matU_nil.2 rfl
  | w :: l, t, h => by
    obtain ⟨u, h1, h2⟩ := mat_consT.1 h
    rw [lst]
    cases hf : (pl (w &&& ~~~t) 0).find? (fun u => Yp l (t ||| 1#64 <<< u)) with
    | none =>
      have := List.find?_eq_none.1 hf u (mem_pl.2 ⟨Nat.zero_le _, BitVec.lt_of_getLsbD h1, h1⟩)
      rw [fullB_iff.2 h2] at this; simp at this
    | some v =>
      have hv := (mem_pl.1 (List.mem_of_find?_eq_some hf)).2
      have hv2 : Mat (msk l (t ||| 1#64 <<< v)) := fullB_iff.1 (by have := List.find?_some hf; exact this)
      have ih := matU_msk.1 (lst_ok hv2)
      show MatU ((w &&& ~~~t) :: msk l t) _
      refine matU_cons.2 ⟨hv.2, fun hm => ?_, matU_msk.2 ⟨ih.1, fun x hx => ?_⟩⟩
      · have := ih.2 v hm
        rw [BitVec.getLsbD_or, Bool.or_eq_false_iff] at this
        exact (one_bit hv.1).1 this.2 rfl
      · have := ih.2 x hx
        rw [BitVec.getLsbD_or, Bool.or_eq_false_iff] at this
        exact this.1
def frF (l : List (BitVec 64)) (i : Nat) (us : List Nat) : BitVec 64 := us.foldl (fun f u => if Yp (l.eraseIdx i) (1#64 <<< u) = true then f ||| 1#64 <<< u else f) 0#64
def frW (l : List (BitVec 64)) (i : Nat) : BitVec 64 := frF l i (pl (l.getD i 0) 0)
theorem frF_snoc {l : List (BitVec 64)} {i : Nat} {us : List Nat} {u : Nat} : frF l i (us ++ [u]) = if Yp (l.eraseIdx i) (1#64 <<< u) = true then frF l i us ||| 1#64 <<< u else frF l i us := by
  unfold frF; rw [List.foldl_append]; rfl
open Go
theorem subW_refl (s : BitVec 64) : subW s s := fun _ h => h
theorem subW_trans {a b c : BitVec 64} (h : subW a b) (k : subW b c) : subW a c := fun u x => k u (h u x)
theorem subW_or {s : BitVec 64} {u : Nat} : subW s (s ||| 1#64 <<< u) := fun a h => by rw [or_bit, h, Bool.true_or]
theorem grL_subA {g : Int → GSt → Bool × GSt} {row : Int} (hg : ∀ r t, subW t.2 (g r t).2.2) : ∀ (l : List Nat) (s : GSt), subW s.2 (grL g row l s).2.2
  | [], s => subW_refl _
  | u :: l, s => by
    rw [grL]
    split
    · exact grL_subA hg l s
    · split
      · exact subW_or
      · have h1 : subW s.2 (g (s.1.getD u 0 - 1) (s.1, s.2 ||| 1#64 <<< u)).2.2 := subW_trans subW_or (hg _ (s.1, s.2 ||| 1#64 <<< u))
        split
        · exact h1
        · exact subW_trans h1 (grL_subA hg l _)
theorem grw_subA {rows : List (BitVec 64)} : ∀ (n : Nat) (row : Int) (s : GSt), subW s.2 (grw rows n row s).2.2
  | 0, _, s => subW_refl _
  | n + 1, row, s => grL_subA (grw_subA n) _ s
theorem grL_filter {g : Int → GSt → Bool × GSt} {row : Int} (hg : ∀ r t, subW t.2 (g r t).2.2) {t : BitVec 64} : ∀ (l : List Nat) (s : GSt), subW t s.2 → grL g row (l.filter fun u => !t.getLsbD u) s = grL g row l s
  | [], s, _ => rfl
  | u :: l, s, h => by
    rw [List.filter_cons]
    by_cases hu : t.getLsbD u = true
    · rw [if_neg (by simp [hu]), grL_filter hg l s h, grL, if_pos (h u hu)]
    · rw [if_pos (by simp [hu]), grL, grL]
      split
      · exact grL_filter hg l s h
      · split
        · rfl
        · split
          · rfl
          · exact grL_filter hg l _ (subW_trans (subW_trans h subW_or) (hg _ (s.1, s.2 ||| 1#64 <<< u)))
theorem pl_filter {w t : BitVec 64} : pl (w &&& ~~~t) 0 = (pl w 0).filter fun u => !t.getLsbD u := by
  unfold pl
  rw [List.filter_filter]
  apply List.filter_congr
  intro u hu
  have h64 : u < 64 := by simp at hu; omega
  simp [BitVec.getLsbD_and, BitVec.getLsbD_not, h64, Bool.and_comm]
theorem grw_all {rows : List (BitVec 64)} {n : Nat} {row : Int} {s : GSt} : grw rows (n + 1) row s = grL (grw rows n) row (pl (rows.getD row.toNat 0) 0) s := by
  rw [grw, pl_filter, grL_filter (grw_subA n) _ _ (subW_refl _)]
def edN (rows : List (BitVec 64)) : Nat → Nat
  | 0 => 0
  | k + 1 => if (szO rows k).2 = k then edN rows k + Yz 64 (grw rows 65 k ((szO rows k).1, 0#64)).2.2 else edN rows k
theorem szO_more {rows : List (BitVec 64)} {k : Nat} : ∀ (j : Nat), (szO rows (k + j)).2 ≤ (szO rows k).2 + j
  | 0 => Nat.le_refl _
  | j + 1 => by
    have := @szO_more rows k j
    rw [← Nat.add_assoc, szO]; simp only; split <;> omega
theorem szO_yes {rows : List (BitVec 64)} {k : Nat} (h : (szO rows k).2 = k) (hb : (grw rows 65 k ((szO rows k).1, 0#64)).1 = true) : (szO rows (k + 1)).2 = k + 1 := by
  rw [szO]; simp only; rw [if_pos hb, h]
theorem edN_yes {rows : List (BitVec 64)} {k : Nat} (h : (szO rows k).2 = k) : edN rows (k + 1) = edN rows k + Yz 64 (grw rows 65 k ((szO rows k).1, 0#64)).2.2 := by rw [edN, if_pos h]
theorem szO_no {rows : List (BitVec 64)} {k : Nat} (h : (szO rows k).2 = k) (hb : (grw rows 65 k ((szO rows k).1, 0#64)).1 = false) {m : Nat} (hm : k < m) : (szO rows m).2 < m := by
  have h1 : (szO rows (k + 1)).2 = k := by rw [szO]; simp only; rw [if_neg (by rw [hb]; decide), h]
  obtain ⟨j, rfl⟩ : ∃ j, m = k + 1 + j := ⟨m - (k + 1), by omega⟩
  have := @szO_more rows (k + 1) j
  omega
theorem edN_no {rows : List (BitVec 64)} {k : Nat} (h : (szO rows k).2 = k) (hb : (grw rows 65 k ((szO rows k).1, 0#64)).1 = false) : ∀ (j : Nat), edN rows (k + 1 + j) = edN rows (k + 1)
  | 0 => rfl
  | j + 1 => by
    have := szO_no h hb (show k < k + 1 + j by omega)
    rw [← Nat.add_assoc, edN, if_neg (by omega), edN_no h hb j]
def fuG (l : List (BitVec 64)) (t : BitVec 64) : Gz := ⟨0, 0, edN (msk l t) l.length⟩
theorem full_yes {l : List (BitVec 64)} {t : BitVec 64} (h : (szO (msk l t) l.length).2 = l.length) : Yp l t = true := by
  unfold Yp szN; rw [Ye, h, beq_self_eq_true]
theorem full_no {l : List (BitVec 64)} {t : BitVec 64} {k : Nat} (hk : k < l.length) (h : (szO (msk l t) k).2 = k) (hb : (grw (msk l t) 65 k ((szO (msk l t) k).1, 0#64)).1 = false) : Yp l t = false ∧ edN (msk l t) l.length = edN (msk l t) (k + 1) := by
  have h1 := szO_no h hb hk
  refine ⟨?_, ?_⟩
  · unfold Yp szN; rw [Ye, beq_eq_false_iff_ne]; omega
  · have := edN_no h hb (l.length - (k + 1))
    rwa [show k + 1 + (l.length - (k + 1)) = l.length by omega] at this
theorem nof {b : Bool} (h : b = false) : ¬ b = true := by rw [h]; decide
def mkT (l : List (BitVec 64)) (t : BitVec 64) (k : Nat) : List (BitVec 64) := msk (l.take k) t ++ l.drop k
theorem mkT_len {l : List (BitVec 64)} {t : BitVec 64} {k : Nat} : (mkT l t k).length = l.length := by
  unfold mkT; rw [List.length_append, Ye, List.length_take, List.length_drop]; omega
theorem mkT_0 {l : List (BitVec 64)} {t : BitVec 64} : mkT l t 0 = l := by unfold mkT msk; simp
theorem mkT_all {l : List (BitVec 64)} {t : BitVec 64} : mkT l t l.length = msk l t := by unfold mkT; simp
theorem mkT_get {l : List (BitVec 64)} {t : BitVec 64} {k : Nat} (h : k < l.length) : (mkT l t k).getD k 0 = l.getD k 0 := by
  unfold mkT
  rw [List.getD_eq_getElem?_getD, List.getElem?_append_right (by rw [Ye, List.length_take]; omega), Ye, List.length_take, Nat.min_eq_left (by omega), Nat.sub_self, List.getElem?_drop, Nat.add_zero, List.getD_eq_getElem?_getD]
theorem mkT_set {l : List (BitVec 64)} {t : BitVec 64} {k : Nat} (h : k < l.length) : (mkT l t k).set k (l.getD k 0 &&& ~~~t) = mkT l t (k + 1) := by
  unfold mkT
  rw [List.set_append_right _ _ (by rw [Ye, List.length_take]; omega), Ye, List.length_take, Nat.min_eq_left (by omega), Nat.sub_self, List.take_succ_eq_append_getElem h, List.drop_eq_getElem_cons h, List.getD_eq_getElem?_getD, List.getElem?_eq_getElem h]
  show msk (l.take k) t ++ ((l[k] &&& ~~~t) :: l.drop (k + 1)) = _
  unfold msk
  rw [List.map_append, List.append_assoc]; rfl
open Go
abbrev fzN (a : List Nat) : VVal := .fsl (a.map fun (n : Nat) => iI (n : Nat)) a.length 1 false
def zI (a : List Nat) : List Int := a.map fun (n : Nat) => (n : Int)
theorem zI_len {a : List Nat} : (zI a).length = a.length := by unfold zI; rw [List.length_map]
theorem fzN_is (a : List Nat) : fzN a = fzI (zI a) := by unfold fzI zI; rw [List.map_map, List.length_map]; rfl
def szP (a : List Nat) : Nat → Nat
  | 0 => 0
  | k + 1 => if a.getD k 0 = szP a k then szP a k + 1 else szP a k
def Pat (a : List Nat) : Prop := ∀ k, k < a.length → a.getD k 0 ≤ szP a k
theorem Yy {a : List Nat} : ∀ {k : Nat}, szP a k ≤ k
  | 0 => Nat.le_refl _
  | k + 1 => by have := @Yy a k; rw [szP]; split <;> omega
def Yb (ws : List (BitVec 64)) (a : List Nat) : Nat → List (BitVec 64)
  | 0 => []
  | k + 1 => if a.getD k 0 = (Yb ws a k).length then Yb ws a k ++ [ws.getD k 0] else (Yb ws a k).set (a.getD k 0) ((Yb ws a k).getD (a.getD k 0) 0 &&& ws.getD k 0)
theorem YB {ws : List (BitVec 64)} {a : List Nat} : ∀ {k : Nat}, (Yb ws a k).length = szP a k
  | 0 => rfl
  | k + 1 => by
    have ih := @YB ws a k
    rw [Yb, szP, ih]
    split
    · rw [List.length_append, ih]; rfl
    · rw [List.length_set, ih]
theorem blkN_new {ws : List (BitVec 64)} {a : List Nat} {k : Nat} (h : (a.getD k 0 : Int) = ((Yb ws a k).length : Int)) : Yb ws a (k + 1) = Yb ws a k ++ [ws.getD k 0] := by
  rw [Yb, if_pos (by omega)]
theorem blkN_old {ws : List (BitVec 64)} {a : List Nat} {k : Nat} (h : ¬ (a.getD k 0 : Int) = ((Yb ws a k).length : Int)) : Yb ws a (k + 1) = (Yb ws a k).set (a.getD k 0) ((Yb ws a k).getD (a.getD k 0) 0 &&& ws.getD k 0) := by
  rw [Yb, if_neg (by omega)]
theorem fget0N {α : Type} {f : α → VVal} {l : List α} {k : Nat} (d : α) (h : k < l.length) : (l.map f)[0 + ((k : Nat) : Int).toNat * 1]? = some (f (l.getD k d)) := by
  rw [Nat.zero_add]; exact YY d h
theorem LV.pos {h es : Nat} {X : Zf} {v : VVal} {cs : List VVal} {len : Nat} (l : LV h es X v cs len) (h0 : 0 < len) : ∃ b, v = .slice (some (h + b, 0)) len len false es ∧ X[b]? = some (.cells cs true) := by
  rcases l.2 with ⟨h1, _⟩ | ⟨_, b, h2, h3⟩
  · omega
  · exact ⟨b, h2, h3⟩
theorem LV.upW {h b n : Nat} {X : Zf} {l : List (BitVec 64)} {l' : List (BitVec 64)} (r : LV h 1 X (.slice (some (h + b, 0)) n n false 1) (l.map iW) n) (hn : 0 < n) (hb : b < X.length) (e : l'.length = l.length) : LV h 1 (X.set b (.cells (l'.map iW) true)) (.slice (some (h + b, 0)) n n false 1) (l'.map iW) n :=
  ⟨by have := r.1; rw [List.length_map] at this ⊢; omega, .inr ⟨hn, b, rfl, List.getElem?_set_self hb⟩⟩
def kpR (ws : List (BitVec 64)) (rss : List (List Rul)) (a : List Nat) : Bool := (rss.getD (a.length - 1) []).all fun r => erl r ws.length (zI a)
def kpB (ws : List (BitVec 64)) (rss : List (List Rul)) (a : List Nat) : Bool :=
  if (Yb ws a a.length).getD (a.getD (a.length - 1) 0) 0 = 0 then false else if kpR ws rss a = true then Yp (Yb ws a a.length) 0#64 else false
def kpG (u : Nat) (ws : List (BitVec 64)) (rss : List (List Rul)) (a : List Nat) : Gz :=
  ⟨1, u, 0⟩ + if (Yb ws a a.length).getD (a.getD (a.length - 1) 0) 0 = 0 then 0 else if kpR ws rss a = true then fuG (Yb ws a a.length) 0#64 else 0
theorem kpK_0 {ws : List (BitVec 64)} {rss : List (List Rul)} {a : List Nat} {u : Nat} (h : (Yb ws a a.length).getD (a.getD (a.length - 1) 0) 0 = 0) : kpB ws rss a = false ∧ kpG u ws rss a = ⟨1, u, 0⟩ := by
  unfold kpB kpG; rw [if_pos h, if_pos h]; exact ⟨rfl, Gz.add_zero _⟩
theorem kpK_1 {ws : List (BitVec 64)} {rss : List (List Rul)} {a : List Nat} {u : Nat} (h : ¬ (Yb ws a a.length).getD (a.getD (a.length - 1) 0) 0 = 0) (h2 : kpR ws rss a = false) : kpB ws rss a = false ∧ kpG u ws rss a = ⟨1, u, 0⟩ := by
  unfold kpB kpG; rw [if_neg h, if_neg h, h2]; exact ⟨rfl, Gz.add_zero _⟩
theorem kpK_2 {ws : List (BitVec 64)} {rss : List (List Rul)} {a : List Nat} {u : Nat} (h : ¬ (Yb ws a a.length).getD (a.getD (a.length - 1) 0) 0 = 0) (h2 : kpR ws rss a = true) : kpB ws rss a = Yp (Yb ws a a.length) 0#64 ∧ kpG u ws rss a = ⟨1, u, 0⟩ + fuG (Yb ws a a.length) 0#64 := by
  unfold kpB kpG; rw [if_neg h, if_neg h, h2]; exact ⟨rfl, rfl⟩
theorem all_step {f : Rul → Bool} {l : List Rul} {k : Nat} {d : Rul} (hk : k < l.length) (h : (l.take k).all f = true) (h2 : f (l.getD k d) = true) : (l.take (k + 1)).all f = true := by
  rw [Yh (d := d) hk, List.all_append, h, List.all_cons, h2]; rfl
theorem all_full {f : Rul → Bool} {l : List Rul} {k : Nat} (hk : l.length ≤ k) (h : (l.take k).all f = true) : l.all f = true := by rwa [List.take_of_length_le hk] at h
theorem all_bad {f : Rul → Bool} {l : List Rul} {k : Nat} {d : Rul} (hk : k < l.length) (h2 : f (l.getD k d) = false) : l.all f = false := by
  rw [← List.take_append_drop (k + 1) l, Yh (d := d) hk, List.all_append, List.all_append, List.all_cons, h2, Bool.false_and, Bool.and_false, Bool.false_and]
section
variable {H L : Zf} {y : Nat} {g : Gz}
theorem ga_n0 (hs : H[y]? = some (gaB g)) : (H ++ L).set y (.cells (ZH [iN g.n, iN g.p, iN g.e] (0 + 0) [iW (BitVec.ofNat 64 g.n + 1#64)]) true) = H.set y (gaB ⟨g.n + 1, g.p, g.e⟩) ++ L := by
  rw [iN_one, Yx (ZY hs)]; rfl
theorem ga_p {u : Nat} (hy : y < H.length) : (H.set y (gaB g) ++ L).set y (.cells (ZH [iN g.n, iN g.p, iN g.e] (0 + 1) [iW (BitVec.ofNat 64 g.p + BitVec.ofInt 64 (u : Nat))]) true) = H.set y (gaB ⟨g.n, g.p + u, g.e⟩) ++ L := by
  rw [BitVec.ofInt_natCast, iN_add, Yx (by rw [List.length_set]; exact hy), List.set_set]; rfl
end
open Go
section
variable (kp : List Nat → Bool) (kg : List Nat → Gz)
def frL (f : List Nat → Nat → Gz × Option (List Nat)) (row : List Nat) (blocks : Nat) : List Nat → Gz × Option (List Nat)
  | [] => (0, none)
  | x :: xs =>
    if kp (row ++ [x]) = true then
      match f (row ++ [x]) (max blocks (x + 1)) with
      | (d, some s) => (kg (row ++ [x]) + d, some s)
      | (d, none) => (kg (row ++ [x]) + d + (frL f row blocks xs).1, (frL f row blocks xs).2)
    else (kg (row ++ [x]) + (frL f row blocks xs).1, (frL f row blocks xs).2)
def frm : Nat → List Nat → Nat → Gz × Option (List Nat)
  | 0, row, _ => (0, some row)
  | m + 1, row, blocks => frL kp kg (frm m) row blocks (List.range (blocks + 1))
def pats : Nat → List Nat → Nat → List (List Nat)
  | 0, row, _ => [row]
  | m + 1, row, blocks => (List.range (blocks + 1)).flatMap fun x => pats m (row ++ [x]) (max blocks (x + 1))
def keptN (n : Nat) (a : List Nat) : Bool := (List.range a.length).all fun j => decide (j < n) || kp (a.take (j + 1))
theorem keptN_iff {n : Nat} {a : List Nat} : keptN kp n a = true ↔ ∀ j, j < a.length → n ≤ j → kp (a.take (j + 1)) = true := by
  unfold keptN
  rw [List.all_eq_true]
  constructor
  · intro h j hj hn
    have := h j (List.mem_range.2 hj)
    rw [Bool.or_eq_true, decide_eq_true_eq] at this
    rcases this with h | h
    · omega
    · exact h
  · intro h j hj
    rw [Bool.or_eq_true, decide_eq_true_eq]
    by_cases hn : j < n
    · exact .inl hn
    · exact .inr (h j (List.mem_range.1 hj) (by omega))
theorem pats_len : ∀ {m : Nat} {row : List Nat} {blocks : Nat} {a : List Nat}, a ∈ pats m row blocks → ∃ z, a = row ++ z ∧ z.length = m
  | 0, row, _, a, h => by rw [pats, List.mem_singleton] at h; exact ⟨[], by rw [h, List.append_nil], rfl⟩
  | m + 1, row, blocks, a, h => by
    rw [pats, List.mem_flatMap] at h
    obtain ⟨x, _, h⟩ := h
    obtain ⟨z, rfl, hz⟩ := pats_len h
    exact ⟨x :: z, by rw [List.append_assoc]; rfl, by rw [List.length_cons, hz]⟩
theorem find_eq {α : Type} {p q : α → Bool} : ∀ {l : List α}, (∀ a, a ∈ l → p a = q a) → l.find? p = l.find? q
  | [], _ => rfl
  | a :: l, h => by
    rw [List.find?_cons, List.find?_cons, h a (List.mem_cons_self ..), find_eq fun b hb => h b (List.mem_cons_of_mem _ hb)]
theorem frL_find {f : List Nat → Nat → Gz × Option (List Nat)} {g : List Nat → Nat → List (List Nat)} {row : List Nat} {blocks : Nat} {n : Nat} (hn : n = row.length)
    (hf : ∀ r b, r.length = n + 1 → (f r b).2 = (g r b).find? (keptN kp (n + 1))) (hg : ∀ r b a, r.length = n + 1 → a ∈ g r b → ∃ z, a = r ++ z) : ∀ xs : List Nat, (frL kp kg f row blocks xs).2 = (xs.flatMap fun x => g (row ++ [x]) (max blocks (x + 1))).find? (keptN kp n)
  | [] => rfl
  | x :: xs => by
    have hl : (row ++ [x]).length = n + 1 := by rw [List.length_append, hn]; rfl
    have ih := frL_find (blocks := blocks) hn hf hg xs
    have hkey : ∀ a, a ∈ g (row ++ [x]) (max blocks (x + 1)) → keptN kp n a = (kp (row ++ [x]) && keptN kp (n + 1) a) := by
      intro a ha
      obtain ⟨z, rfl⟩ := hg _ _ _ hl ha
      rw [Bool.eq_iff_iff, Bool.and_eq_true, keptN_iff, keptN_iff]
      have ht : (row ++ [x] ++ z).take (n + 1) = row ++ [x] := by rw [List.take_append_of_le_length (by omega), List.take_of_length_le (by omega)]
      constructor
      · intro h
        exact ⟨by have := h n (by rw [List.length_append, hl]; omega) (Nat.le_refl _); rwa [ht] at this, fun j hj hn => h j hj (by omega)⟩
      · rintro ⟨h1, h2⟩ j hj hjn
        by_cases e : j = n
        · subst e; rw [ht]; exact h1
        · exact h2 j hj (by omega)
    have hfind : (g (row ++ [x]) (max blocks (x + 1))).find? (keptN kp n) = if kp (row ++ [x]) = true then (f (row ++ [x]) (max blocks (x + 1))).2 else none := by
      by_cases hk : kp (row ++ [x]) = true
      · rw [if_pos hk, hf _ _ hl]
        exact find_eq fun a ha => by rw [hkey a ha, hk, Bool.true_and]
      · rw [if_neg hk, List.find?_eq_none]
        intro a ha
        rw [hkey a ha, Bool.eq_false_iff.2 hk, Bool.false_and]; decide
    rw [frL, List.flatMap_cons, List.find?_append, hfind, ← ih]
    split
    · split
      · rename_i h; rw [h]; rfl
      · rename_i h; rw [h]; rfl
    · rfl
theorem frm_find : ∀ (m : Nat) (row : List Nat) (blocks : Nat), (frm kp kg m row blocks).2 = (pats m row blocks).find? (keptN kp row.length)
  | 0, row, _ => by
    rw [frm, pats, List.find?_singleton, if_pos]
    rw [keptN_iff]; intro j h1 h2; omega
  | m + 1, row, blocks => by
    rw [frm, pats]
    refine frL_find kp kg rfl (fun r b h => ?_) (fun r b a _ ha => ?_) _
    · rw [frm_find m r b, h]
    · obtain ⟨z, h, _⟩ := pats_len ha; exact ⟨z, h⟩
end
open Go
abbrev Told : Type := List (Gz × List Nat) × Gz
def addF (d : Gz) : Told → Told
  | ([], e) => ([], d + e)
  | ((d0, x) :: xs, e) => ((d + d0, x) :: xs, e)
def catT (a b : Told) : Told := (a.1 ++ (addF a.2 b).1, (addF a.2 b).2)
theorem addF_snd {d : Gz} {a : Told} : (addF d a).1.map Prod.snd = a.1.map Prod.snd := by
  obtain ⟨l, e⟩ := a
  cases l with
  | nil => rfl
  | cons x l => rfl
theorem catT_snd {a b : Told} : (catT a b).1.map Prod.snd = a.1.map Prod.snd ++ b.1.map Prod.snd := by
  unfold catT; rw [List.map_append, addF_snd]
set_option autoImplicit false
open Go Go.RowKit
theorem gaB_add {a b e : Gz} (h : gaB a = gaB b) : gaB (a + e) = gaB (b + e) := by
  simp only [VBlk.cells.injEq, List.cons.injEq, VVal.int.injEq, true_and, and_true] at h
  have w : ∀ {a b : Nat}, ((BitVec.ofNat 64 a).toNat : Int) = ((BitVec.ofNat 64 b).toNat : Int) → BitVec.ofNat 64 a = BitVec.ofNat 64 b := fun h => BitVec.eq_of_toNat_eq (by omega)
  simp only [gaB, iN, Gz.add_n, Gz.add_p, Gz.add_e, ← iN_add, w h.1, w h.2.1, w h.2.2]
section
variable {S : Sys} {l s : Nat}
theorem IterP.mono {K K' : Bool → Zf → Prop} (hk : ∀ b G, K b G → K' b G) : ∀ {xs : List (Gz × VVal)} {d : Gz} {G : Zf}, IterP S l s xs d G K → IterP S l s xs d G K'
  | [], d, G, h => fun g hg => hk _ _ (h g hg)
  | (d0, x) :: xs, d, G, h => fun g hg L => (h g hg L).mono (by
    rintro v G' ⟨b, G1, J, h1, h2, h3, h4⟩
    refine ⟨b, G1, J, h1, h2, h3, ?_⟩
    cases b
    · exact hk _ _ h4
    · exact ⟨h4.1, IterP.mono hk h4.2⟩)
def tv (T : Told) : List (Gz × VVal) := T.1.map fun p => (p.1, fzN p.2)
theorem IterP.addF {K : Bool → Zf → Prop} {d g : Gz} {T : Told} {G : Zf} (hg : G[s]? = some (gaB g)) (h : IterP S l s (tv (addF d T)) (addF d T).2 G K) : IterP S l s (tv T) T.2 (G.set s (gaB (g + d))) K := by
  have hs := ZY hg
  obtain ⟨xs, e⟩ := T
  cases xs with
  | nil =>
    intro g' hg'
    rw [List.getElem?_set_self hs] at hg'
    have e1 := gaB_add (e := e) (Option.some.inj hg').symm
    rw [List.set_set, e1, Gz.assoc]
    exact h g hg
  | cons p xs =>
    obtain ⟨d0, x⟩ := p
    intro g' hg' L
    rw [List.getElem?_set_self hs] at hg'
    have e1 := gaB_add (e := d0) (Option.some.inj hg').symm
    have := h g hg L
    rw [List.set_set, e1, Gz.assoc]
    refine this.mono ?_
    rintro v G' ⟨b, G1, J, h1, h2, h3, h4⟩
    exact ⟨b, G1, J, h1, h2, by rw [List.length_set]; exact h3, h4⟩
theorem IterP.catT {K : Bool → Zf → Prop} {b : Told} {da : Gz} : ∀ {xs : List (Gz × List Nat)} {G : Zf}, IterP S l s (tv (catT (xs, da) b)) (catT (xs, da) b).2 G K → IterP S l s (tv (xs, da)) da G (fun c G' => if c = true then IterP S l s (tv b) b.2 G' K else K false G')
  | [], G, h => fun g hg => IterP.addF hg h
  | (d0, x) :: xs, G, h => fun g hg L => by
    refine (h g hg L).mono ?_
    rintro v G' ⟨c, G1, J, h1, h2, h3, h4⟩
    refine ⟨c, G1, J, h1, h2, h3, ?_⟩
    cases c
    · exact h4
    · exact ⟨h4.1, IterP.catT h4.2⟩
end
open Go Go.RowKit
section
variable {T : TypeId → Option VTy} {ρ : Operand → VVal} {H : Zf} {op : Op}
end
theorem LV.behind {h0 h es : Nat} {X Y : Zf} {v : VVal} {cs : List VVal} {len : Nat} (e : h0 = h + X.length) (l : LV h0 es Y v cs len) : LV h es (X ++ Y) v cs len := by
  subst e
  refine ⟨l.1, ?_⟩
  rcases l.2 with h1 | ⟨h1, b, h2, h3⟩
  · exact .inl h1
  · exact .inr ⟨h1, X.length + b, by rw [h2, Nat.add_assoc], by rw [List.getElem?_append_right (by omega), Nat.add_sub_cancel_left]; exact h3⟩
abbrev rcN (row : List Nat) : List VVal := row.map fun (n : Nat) => iI (n : Nat)
theorem rcN_snoc {row : List Nat} {k : Nat} : rcN (row ++ [k]) = rcN row ++ [iI (k : Nat)] := List.map_append
section
variable {T : TypeId → Option VTy} {ρ : Operand → VVal} {H : Zf} {op : Op}
end
open Go Go.RowKit
structure RW {α : Type} (f : α → List VVal) (es h : Nat) (Z : Zf) (vs : List VVal) (rss : List (List α)) : Prop where
  len : vs.length = rss.length
  lv : ∀ i, i < rss.length → LV h es Z (vs.getD i .skip) ((rss.getD i []).flatMap f) (rss.getD i []).length
  dj : ∀ i j, i < rss.length → j < rss.length → i ≠ j → Dj (vs.getD i .skip) (vs.getD j .skip)
section
variable {α : Type} {f : α → List VVal} {es h : Nat} {Z : Zf} {vs : List VVal} {rss : List (List α)}
theorem getD_rep {β : Type} {n i : Nat} {a d : β} (h : i < n) : (List.replicate n a).getD i d = a := by
  rw [List.getD_eq_getElem?_getD, List.getElem?_replicate, if_pos h]; rfl
theorem RW.init {n : Nat} : RW f es h Z (List.replicate n (.slice none 0 0 true 0)) (List.replicate n []) where
  len := by rw [List.length_replicate, List.length_replicate]
  lv := fun i hi => by
    rw [List.length_replicate] at hi
    rw [getD_rep hi, getD_rep hi]; exact LV.nil _ _ _
  dj := fun i j hi hj _ => by
    rw [List.length_replicate] at hi hj
    rw [getD_rep hi, getD_rep hj]; exact Dj.nil _
theorem RW.app (r : RW f es h Z vs rss) (Y : Zf) : RW f es h (Z ++ Y) vs rss := ⟨r.len, fun i hi => (r.lv i hi).app Y, r.dj⟩
theorem getD_setS {β : Type} {l : List β} {i j : Nat} {a d : β} (h : i < l.length) : (l.set i a).getD j d = if j = i then a else l.getD j d := by
  rw [List.getD_eq_getElem?_getD, List.getElem?_set]
  by_cases e : i = j
  · subst e; rw [if_pos rfl, if_pos h, if_pos rfl]; rfl
  · rw [if_neg e, if_neg (Ne.symm e), List.getD_eq_getElem?_getD]
theorem RW.step (r : RW f es h Z vs rss) {i : Nat} (hi : i < rss.length) {Y1 W : Zf} {a b : Nat} {x : α} (hY2 : ∀ k, YU (vs.getD i .skip) ≠ some (h + k) → Y1[k]? = Z[k]?)
    (hY3 : LV h es (Y1 ++ W) (.slice (some (h + (Z.length + 1), 0)) a b false es) ((rss.getD i []).flatMap f ++ f x) ((rss.getD i []).length + 1)) :
    RW f es h (Y1 ++ W) (vs.set i (.slice (some (h + (Z.length + 1), 0)) a b false es)) (rss.set i (rss.getD i [] ++ [x])) where
  len := by rw [List.length_set, List.length_set]; exact r.len
  lv := fun j hj => by
    rw [List.length_set] at hj
    rw [getD_setS (by rw [r.len]; exact hi), getD_setS hi]
    by_cases e : j = i
    · subst e; rw [if_pos rfl, if_pos rfl, List.flatMap_append, List.length_append, List.flatMap_singleton]; exact hY3
    · rw [if_neg e, if_neg e]; exact LV.keepN hY3 (r.lv j hj) (r.dj j i hj hi e) hY2
  dj := fun j k hj hk hjk => by
    rw [List.length_set] at hj hk
    rw [getD_setS (by rw [r.len]; exact hi), getD_setS (by rw [r.len]; exact hi)]
    by_cases e : j = i
    · subst e; rw [if_pos rfl, if_neg (Ne.symm hjk)]; exact (LV.djN hY3 (r.lv k hk)).symm
    · rw [if_neg e]
      by_cases e2 : k = i
      · subst e2; rw [if_pos rfl]; exact LV.djN hY3 (r.lv j hj)
      · rw [if_neg e2]; exact r.dj j k hj hk hjk
def frzK (f : α → List VVal) (es : Nat) (rss : List (List α)) (vs : List VVal) (k : Nat) : List VVal := (rss.take k).map (fun l => .fsl (l.flatMap f) l.length es false) ++ vs.drop k
theorem RW.freezeK {S : Sys} {H0 H L : Zf} {env : List VVal} {c : Nat} (r : RW f es h Z vs rss) (hc : L[c]? = some (.cells vs true)) (hh : (H ++ L).length = h) : ∀ k, k ≤ rss.length →
    ∃ Z', Gh S H0 env ((H ++ L) ++ Z) env ((H ++ L.set c (.cells (frzK f es rss vs k) true)) ++ Z') ∧ Z'.length = Z.length ∧ ∀ i, k ≤ i → i < rss.length → LV h es Z' (vs.getD i .skip) ((rss.getD i []).flatMap f) (rss.getD i []).length
  | 0, _ => ⟨Z, by
      rw [show frzK f es rss vs 0 = vs by unfold frzK; simp, ← YK hc]; exact Gh.refl _ _ _ _, rfl, fun i _ hi => r.lv i hi⟩
  | k + 1, hk => by
    obtain ⟨Z1, g1, l1, h1⟩ := r.freezeK (S := S) (H0 := H0) (env := env) hc hh k (by omega)
    have hcl : c < L.length := ZY hc
    have hlen := r.len
    have hk' : k < vs.length := by omega
    have hj : (frzK f es rss vs k)[k]? = some (vs.getD k .skip) := by
      unfold frzK
      rw [List.getElem?_append_right (by simp; omega), List.length_map, List.length_take, Nat.min_eq_left (by omega), Nat.sub_self, List.getElem?_drop, Nat.add_zero, List.getD_eq_getElem?_getD, List.getElem?_eq_getElem hk']; rfl
    obtain ⟨Z2, g2, l2, h2⟩ := Gh.cellLV (S := S) (H0 := H0) (vs := env) (H := H) (L := L.set c (.cells (frzK f es rss vs k) true)) (List.getElem?_set_self hcl) hj (by rw [List.length_append, List.length_set, ← List.length_append]; exact hh) (h1 k (Nat.le_refl _) (by omega))
    have e : (frzK f es rss vs k).set k (.fsl ((rss.getD k []).flatMap f) (rss.getD k []).length es false) = frzK f es rss vs (k + 1) := by
      unfold frzK
      rw [List.set_append_right _ _ (by simp; omega), List.length_map, List.length_take, Nat.min_eq_left (by omega), Nat.sub_self, List.drop_eq_getElem_cons hk', List.set_cons_zero, List.take_succ_eq_append_getElem (by omega), List.map_append, List.append_assoc, List.getD_eq_getElem?_getD, List.getElem?_eq_getElem (by omega)]; rfl
    refine ⟨Z2, Gh.trans g1 (by rw [List.set_set, e] at g2; exact g2), l2.trans l1, fun i hi1 hi2 => ?_⟩
    exact LV.frame (h1 i (by omega) hi2) fun j hj => h2 j fun e2 => r.dj i k hi2 (by omega) (by omega) _ hj e2
theorem RW.freeze {S : Sys} {H0 H L : Zf} {env : List VVal} {c : Nat} (r : RW f es h Z vs rss) (hc : L[c]? = some (.cells vs true)) (hh : (H ++ L).length = h) :
    ∃ Z', Gh S H0 env ((H ++ L) ++ Z) env ((H ++ L.set c (.cells (rss.map fun l => .fsl (l.flatMap f) l.length es false) true)) ++ Z') := by
  obtain ⟨Z', g, _⟩ := r.freezeK (S := S) (H0 := H0) (env := env) hc hh rss.length (Nat.le_refl _)
  refine ⟨Z', ?_⟩
  have : frzK f es rss vs rss.length = rss.map fun l => .fsl (l.flatMap f) l.length es false := by
    unfold frzK; rw [List.take_length, List.drop_eq_nil_of_le (by rw [r.len]; omega), List.append_nil]
  rwa [this] at g
theorem B_ghRW {S : Sys} {H0 H L : Zf} {rd : Option Nat} {env : VEnv} {Q : Post} {c1 : Code} (c : Nat) (r : RW f es h Z vs rss) (hc : L[c]? = some (.cells vs true)) (hh : (H ++ L).length = h)
    (k : ∀ Z', B S H0 rd c1 env (H ++ (L.set c (.cells (rss.map fun l => .fsl (l.flatMap f) l.length es false) true) ++ Z')) Q) : B S H0 rd c1 env ((H ++ L) ++ Z) Q := by
  obtain ⟨Z', g⟩ := r.freeze (S := S) (H0 := H0) (env := env) hc hh
  rw [List.append_assoc H (L.set _ _)] at g
  exact Yu g (k Z')
end
theorem Yq {l : List VVal} {n : Nat} (h : n = l.length) : Zx l 0 (n * 1) = some l := by
  unfold Zx; rw [if_pos (by omega), List.drop_zero, List.take_of_length_le (by omega)]
open Go Go.RowKit
section
variable {S : Sys} {H0 H : Zf} {rd : Option Nat} {env : VEnv} {Q : Post}
theorem B_rangePJ {f1 : FuncId} {caps : List VVal} {g : Operand} {ps : Array Nat} {asg body : Code} (gs : Nat) (xs : List (Gz × VVal)) (dend : Gz) (hrd : ∀ l0, rd = some l0 → ∃ st p fn tmps ps asg body, H[l0]? = some (.loop st p fn tmps ps asg body)) (hg : env.eval g = .func f1 [] caps)
    (hAll : ∀ (l : Nat) (G : Zf) (K : Bool → Zf → Prop), (∃ g1, G[gs]? = some (gaB g1)) → IterP S l gs xs dend G K → F S f1 ([.yield l] ++ caps) G fun v G' => ∃ b G1 J, G' = G1 ++ J ∧ K b G1)
    {σ : Type} (hp : VBlk → σ → Zf) (s0 : σ) (h0 : ∀ k, H ++ [k] = hp k s0) (hlen : ∀ k s, (hp k s).length = H.length + 1) (hget : ∀ k s, (hp k s)[H.length]? = some k) (hset : ∀ k k' s, (hp k s).set H.length k' = hp k' s)
    (gg : σ → Gz) (up : Gz → σ → σ) 
    (inv : List (Gz × VVal) → σ → Prop) (hga : ∀ k s pre, inv pre s → (hp k s)[gs]? = some (gaB (gg s))) (hup : ∀ k s d pre, inv pre s → (hp k s).set gs (gaB (gg s + d)) = hp k (up d s)) (hi : inv [] s0) (X : Code → List (Gz × VVal) → (Gz × VVal) → σ → Prop) (hps : ps.toList.length = 1)
    (round : ∀ pre d c post s, xs = pre ++ (d, c) :: post → inv pre s → ∀ L (kr kb : VBlk), kr = .loop .ready none 0 env ps.toList asg body → kb = .loop .busy none 0 env ps.toList asg body →
      B S (hp kr (up d s) ++ L) (some H.length) asg (YL env ps.toList [c]) (hp kr (up d s) ++ L) (fun ex env1 H1 => ex = .normal ∧ ∃ s1, H1 = hp kr s1 ++ L ∧ B S (hp kr (up d s) ++ L) (some H.length) body env1 (hp kb s1 ++ L)
        (fun ex2 _ H2 => ∃ s2 J, H2 = hp kb s2 ++ (L ++ J) ∧ ((ex2 = .normal ∧ inv (pre ++ [(d, c)]) s2) ∨ (∃ j, jumpOf ex2 = some (some j) ∧ X j pre (d, c) s2)))))
    (done : ∀ s k, k = VBlk.loop .exhausted none 0 env ps.toList asg body → inv xs s → ∀ J, Q .normal env (hp k (up dend s) ++ J))
    (stop : ∀ j pre c post s k, k = VBlk.loop .exhausted (some j) 0 env ps.toList asg body → xs = pre ++ c :: post → X j pre c s → ∀ J, jumpTo (some j) env (hp k s ++ J) Q) : B S H0 rd (.rangeFunc g ps asg body) env H Q := by
  let rec' : LoopState → Option Code → VBlk := fun st p => .loop st p 0 env ps.toList asg body
  let Kf : Bool → Zf → Prop := fun b G => if b = true then (∃ s, G = hp (rec' .ready none) (up dend s) ∧ inv xs s) else ∃ j pre c post s, G = hp (rec' .done (some j)) s ∧ xs = pre ++ c :: post ∧ X j pre c s
  have gone : ∀ {k s g1 pre}, inv pre s → (hp k s)[gs]? = some (gaB g1) → gaB g1 = gaB (gg s) := fun hv h => (Option.some.inj (h.symm.trans (hga _ _ _ hv)))
  have hup' : ∀ {k s g1 d pre}, inv pre s → (hp k s)[gs]? = some (gaB g1) → (hp k s).set gs (gaB (g1 + d)) = hp k (up d s) := by
    intro k s g1 d pre hv h
    have e := gone hv h
    simp only [VBlk.cells.injEq, List.cons.injEq, VVal.int.injEq, true_and, and_true] at e
    have w : ∀ {a b : Nat}, ((BitVec.ofNat 64 a).toNat : Int) = ((BitVec.ofNat 64 b).toNat : Int) → BitVec.ofNat 64 a = BitVec.ofNat 64 b := fun h => BitVec.eq_of_toNat_eq (by omega)
    have z : gaB (g1 + d) = gaB (gg s + d) := by
      simp only [gaB, iN, Gz.add_n, Gz.add_p, Gz.add_e, ← iN_add, w e.1, w e.2.1, w e.2.2]
    rw [z, hup _ _ _ _ hv]
  have lenlt : ∀ k s, H.length < (hp k s).length := fun k s => by rw [hlen]; omega
  have key : ∀ (ys pre : List (Gz × VVal)) (s : σ), xs = pre ++ ys → inv pre s → IterP S H.length gs ys dend (hp (rec' .ready none) s) Kf := by
    intro ys
    induction ys with
    | nil =>
      intro pre s hx hs g1 hg1
      rw [List.append_nil] at hx
      rw [hup' hs hg1]
      show if true = true then _ else _
      rw [if_pos rfl]
      exact ⟨s, rfl, hx ▸ hs⟩
    | cons c ys ih =>
      obtain ⟨d, c⟩ := c
      intro pre s hx hs g1 hg1 L
      rw [hup' hs hg1]
      have hr := round pre d c ys s hx hs L _ _ rfl rfl
      refine Fv_yield (p := none) (fn := 0) (tmps := env) (ps := ps.toList) (body := body) (Zw (hget _ _)) (by simp [hps]) _ rfl (hr.mono ?_)
      rintro ex env1 H1 ⟨rfl, s1, rfl, hb⟩
      refine ⟨rfl, none, 0, env, ps.toList, asg, body, Zw (hget _ s1), ?_⟩
      rw [List.set_append_left _ _ (lenlt _ _), hset]
      refine hb.mono ?_
      rintro ex2 env2 H2 ⟨s2, J, rfl, h2⟩
      rcases h2 with ⟨rfl, h2⟩ | ⟨j, hj, h2⟩
      · refine ⟨none, rfl, .busy, none, 0, env, ps.toList, asg, body, Zw (hget _ s2), true, hp (rec' .ready none) s2, J, rfl, ?_, by rw [hlen, hlen], ?_⟩
        · rw [List.set_append_left _ _ (lenlt _ _), hset]; rfl
        · rw [if_pos rfl]
          exact ⟨⟨_, hga _ _ _ h2⟩, ih (pre ++ [(d, c)]) s2 (by rw [hx]; simp) h2⟩
      · refine ⟨some j, hj, .busy, none, 0, env, ps.toList, asg, body, Zw (hget _ s2), false, hp (rec' .done (some j)) s2, J, rfl, ?_, by rw [hlen, hlen], ?_⟩
        · rw [List.set_append_left _ _ (lenlt _ _), hset]; rfl
        · rw [if_neg (by simp)]
          show if false = true then _ else _
          rw [if_neg (by simp)]
          exact ⟨j, pre, (d, c), ys, s2, rfl, hx, h2⟩
  refine B_range hrd hg (hAll H.length _ Kf ⟨gg s0, by rw [h0]; exact hga _ _ _ hi⟩ (by rw [h0]; exact key xs [] s0 rfl hi)) ?_
  rintro v H2 ⟨b, G1, J, rfl, hK⟩
  cases b
  · have hK : ∃ j pre c post s, G1 = hp (rec' .done (some j)) s ∧ xs = pre ++ c :: post ∧ X j pre c s := by simpa [Kf] using hK
    obtain ⟨j, pre, c, post, s, rfl, hx, hX⟩ := hK
    refine ⟨.done, some j, 0, env, ps.toList, asg, body, Zw (hget _ s), by simp, ?_⟩
    rw [List.set_append_left _ _ (lenlt _ _), hset]
    exact stop j pre c post s _ rfl hx hX J
  · have hK : ∃ s, G1 = hp (rec' .ready none) (up dend s) ∧ inv xs s := by simpa [Kf] using hK
    obtain ⟨s, rfl, hs⟩ := hK
    refine ⟨.ready, none, 0, env, ps.toList, asg, body, Zw (hget _ _), by simp, ?_⟩
    rw [List.set_append_left _ _ (lenlt _ _), hset]
    exact done s _ rfl hs J
end
section
variable {T : TypeId → Option VTy} {ρ : Operand → VVal} {H : Zf} {op : Op} {t e : TypeId} {x : Operand} {y z : VTy} {k : Nat} {kd : IntKind}
theorem v_clipN {hi mx : Operand} {l : List Nat} (ho : op = .slice t x none (some hi) (some mx)) (hy : T t = some y) (hd : y.desc = .slice e) (hz : T e = some z) (hs : z.size = 1) (hx : ρ x = fzN l) (hh : ρ hi = .int kd (l.length : Nat)) (hm : ρ mx = .int kd (l.length : Nat)) : vop T ρ H op = some (.fsl (rcN l) l.length 1 true, H) := by
  rw [ho]
  have hb : Yt l.length l.length none (some (.int kd (l.length : Nat))) (some (.int kd (l.length : Nat))) = some (0, l.length, l.length) := by
    unfold Yt
    simp only
    rw [if_pos (by omega)]
    simp only [Int.toNat_natCast]
    rw [if_pos (by omega)]
  have hc : Zx (rcN l) (0 * 1) ((l.length - 0) * 1) = some (rcN l) := by
    unfold Zx; rw [if_pos XH20, Nat.zero_mul, List.drop_zero, List.take_of_length_le XH20]
  simp only [vop, vslice, hy, hd, hz, hx, Option.map_some, Option.map_none, hh, hm, hb, Option.isSome_some, Option.isNone_some, Bool.true_and, hs, if_true, hc]
  simp
theorem v_appFX {s x : Operand} {ats : Array TypeId} {t u e : TypeId} {z : VTy} {du : TypeDesc} {L : Zf} {fs : List VVal} {c : VVal} {j n kx : Nat}
    (ho : op = .call { callee := .builtin .append, args := #[s, x], argTypes := ats }) (hat : ats = #[t, u]) (hz : velem T t = some (e, z)) (hu : (T u).map (·.desc) = some du) (hdu : isSeq du = true) (hz1 : z.size = 1)
    (hs : ρ s = .fsl fs n 1 true) (hx : ρ x = .slice (some (H.length + j, 0)) 1 kx true 1) (hj : L[j]? = some (.cells [c] true)) (h1 : c.one = true) (hn : fs.length = n) (hb : (n + 1) * z.bytes ≤ 140737488355328 ∧ n + 1 ≤ 140737488355328) :
    vop T ρ (H ++ L) op = some (.slice (some (H.length + L.length, 0)) (n + 1) (n + 1) false 1, H ++ (L ++ [.cells (fs ++ [c]) true])) := by
  have hk' : srcLen (ρ x) = some 1 := by rw [hx]; rfl
  have hsrc : Z3 (H ++ L) z.size 1 (ρ x) = some [c] := by
    rw [hx, hz1]
    simp only [Z3]
    rw [ZL rfl hj]; rfl
  have hc : Zx fs 0 (n * 1) = some fs := Yq hn.symm
  rw [ho, hat]
  simp only [vop, ZW, List.map_cons, List.map_nil, YH, hz, hs, hu, hk']
  rw [hsrc]
  simp only
  rw [if_pos ⟨by rw [hz1]; rfl, by simp [h1], by rw [hz1]; decide, hb.1, hb.2, hdu, trivial, by decide, hz1.symm⟩, hc]
  simp
end
open Go Go.RowKit
section
variable {T : TypeId → Option VTy} {ρ : Operand → VVal} {H : Zf} {op : Op}
theorem v_appNF {s x : Operand} {ats : Array TypeId} {t u e : TypeId} {z : VTy} {du : TypeDesc} {L : Zf} {cs : List VVal} {k : Nat} {ex : Bool}
    (ho : op = .call { callee := .builtin .append, args := #[s, x], argTypes := ats }) (hat : ats = #[t, u]) (hz : velem T t = some (e, z)) (hu : (T u).map (·.desc) = some du) (hdu : isSeq du = true)
    (hs : ρ s = .slice none 0 0 true 0) (hx : ρ x = .fsl cs k z.size ex) (hn : cs.length = k * z.size) (h1 : cs.all VVal.one = true) (hp : 0 < z.size) (h0 : 0 < k)
    (hb : k * z.bytes ≤ 140737488355328 ∧ k ≤ 140737488355328) :
    vop T ρ (H ++ L) op = some (.slice (some (H.length + L.length, 0)) k k false z.size, H ++ (L ++ [.cells cs true])) := by
  have hk' : srcLen (ρ x) = some k := by rw [hx]; rfl
  have hsrc : Z3 (H ++ L) z.size k (ρ x) = some cs := by
    rw [hx]
    show Zx cs 0 (k * z.size) = some cs
    unfold Zx; rw [if_pos (by omega), List.drop_zero, List.take_of_length_le (by omega)]
  rw [ho, hat]
  simp only [vop, ZW, List.map_cons, List.map_nil, YH, hz, hs, hu, hk']
  rw [hsrc]
  simp only
  rw [if_pos ⟨hn, h1, hp, by simpa using hb.1, by simpa using hb.2, hdu⟩, if_neg (by simp), if_neg (by omega), if_neg (by decide)]
  simp
theorem v_wHi {t e : TypeId} {x hi : Operand} {y z : VTy} {l : List (BitVec 64)} {k : Nat} {kd : IntKind} (ho : op = .slice t x none (some hi) none) (hy : T t = some y) (hd : y.desc = .slice e) (hz : T e = some z) (hs : z.size = 1) (hx : ρ x = fzW l) (hh : ρ hi = .int kd (k : Nat)) (hk : k ≤ l.length) : vop T ρ H op = some (fzW (l.take k), H) := by
  rw [v_sliceHi ho hy hd hz hs hx hh hk XH20]
  simp [fzW, Nat.min_eq_left hk, List.map_take]
end
section
variable {T : TypeId → Option VTy} {H : Zf}
end
set_option autoImplicit true
open Go
section
variable {kp : List Nat → Bool} {kg : List Nat → Gz} {f : List Nat → Nat → Gz × Option (List Nat)} {row : List Nat} {blocks : Nat}
theorem range_drop {n k : Nat} (h : k < n) : (List.range n).drop k = k :: (List.range n).drop (k + 1) := by
  rw [List.drop_eq_getElem_cons (by simpa using h)]; simp
end
theorem getD_snoc {row : List Nat} {k j : Nat} (h : j < row.length) : (row ++ [k]).getD j 0 = row.getD j 0 := by
  rw [List.getD_eq_getElem?_getD, List.getElem?_append_left h, List.getD_eq_getElem?_getD]
theorem getD_last {row : List Nat} {k : Nat} : (row ++ [k]).getD row.length 0 = k := by
  rw [List.getD_eq_getElem?_getD, List.getElem?_append_right (Nat.le_refl _), Nat.sub_self]; rfl
theorem szP_snoc {row : List Nat} {k : Nat} : ∀ {j : Nat}, j ≤ row.length → szP (row ++ [k]) j = szP row j
  | 0, _ => rfl
  | j + 1, h => by rw [szP, szP, szP_snoc (by omega), getD_snoc (by omega)]
theorem Pat_nil : Pat [] := fun k h => absurd h (by simp)
theorem Pat_snoc {row : List Nat} {k : Nat} (h : Pat row) (hk : k ≤ szP row row.length) : Pat (row ++ [k]) := by
  intro j hj
  rw [List.length_append] at hj
  have hj : j < row.length + 1 := hj
  by_cases e : j = row.length
  · subst e; rw [getD_last, szP_snoc (Nat.le_refl _)]; exact hk
  · rw [getD_snoc (by omega), szP_snoc (by omega)]; exact h j (by omega)
theorem szP_next {row : List Nat} {k : Nat} (hk : k ≤ szP row row.length) : szP (row ++ [k]) (row ++ [k]).length = max (szP row row.length) (k + 1) := by
  rw [List.length_append]
  show szP (row ++ [k]) (row.length + 1) = _
  rw [szP, szP_snoc (Nat.le_refl _), getD_last]
  split <;> omega
open Go
abbrev rz : Rul := (0, 0, [], ())
def addS (r : Rul) (rss : List (List Rul)) : Nat → List (List Rul)
  | 0 => rss
  | s + 1 => (addS r rss s).set (r.steps.getD s 0).toNat ((addS r rss s).getD (r.steps.getD s 0).toNat [] ++ [r])
def addR (n : Nat) (rs : List Rul) : Nat → List (List Rul)
  | 0 => List.replicate n []
  | m + 1 => addS (rs.getD m rz) (addR n rs m) (rs.getD m rz).steps.length
theorem addS_len {r : Rul} {rss : List (List Rul)} : ∀ {s : Nat}, (addS r rss s).length = rss.length
  | 0 => rfl
  | s + 1 => by rw [addS, List.length_set, addS_len]
theorem addR_len {n : Nat} {rs : List Rul} : ∀ {m : Nat}, (addR n rs m).length = n
  | 0 => by rw [addR, List.length_replicate]
  | m + 1 => by rw [addR, addS_len, addR_len]
theorem getD_setL {β : Type} {l : List β} {i j : Nat} {a d : β} : (l.set i a).getD j d = if j = i ∧ i < l.length then a else l.getD j d := by
  rw [List.getD_eq_getElem?_getD, List.getElem?_set]
  by_cases e : i = j
  · subst e
    rw [if_pos rfl]
    by_cases h : i < l.length
    · rw [if_pos h, if_pos ⟨rfl, h⟩]; rfl
    · rw [if_neg h, if_neg (fun e => h e.2), List.getD_eq_getElem?_getD, List.getElem?_eq_none (by omega)]
  · rw [if_neg e, if_neg (fun h => e h.1.symm), List.getD_eq_getElem?_getD]
theorem addS_row {r : Rul} {rss : List (List Rul)} {i : Nat} : ∀ {s : Nat}, ((addS r rss s).getD i []).length ≤ (rss.getD i []).length + s
  | 0 => Nat.le_refl _
  | s + 1 => by
    have ih := @addS_row r rss i s
    rw [addS, getD_setL]
    split
    · rename_i h; rw [← h.1, List.length_append]; show _ + 1 ≤ _; omega
    · omega
theorem addR_row {n : Nat} {rs : List Rul} {i c : Nat} (h : ∀ r, r ∈ rs → r.steps.length ≤ c) : ∀ {m : Nat}, m ≤ rs.length → ((addR n rs m).getD i []).length ≤ m * c
  | 0, _ => by
    rw [addR, List.getD_eq_getElem?_getD, List.getElem?_replicate]; split <;> simp
  | m + 1, hm => by
    have ih := addR_row (n := n) (i := i) h (m := m) (by omega)
    have h1 := @addS_row (rs.getD m rz) (addR n rs m) i (rs.getD m rz).steps.length
    have h2 := h _ (mem_getX (d := rz) (l := rs) (k := m) (by omega))
    rw [addR, Nat.succ_mul]; omega
theorem addS_mem {r r' : Rul} {rss : List (List Rul)} {i : Nat} (hs : ∀ x, x ∈ r.steps → 0 ≤ x ∧ x < rss.length) : ∀ {s : Nat}, s ≤ r.steps.length → (r' ∈ (addS r rss s).getD i [] ↔ r' ∈ rss.getD i [] ∨ (r' = r ∧ (i : Int) ∈ r.steps.take s))
  | 0, _ => by simp [addS]
  | s + 1, h => by
    have ih := addS_mem (r' := r') (i := i) hs (s := s) (by omega)
    have hx := hs _ (mem_getI (l := r.steps) (k := s) (by omega))
    rw [addS, getD_setL, Yh (d := 0) (by omega), addS_len]
    by_cases e : i = (r.steps.getD s 0).toNat
    · rw [if_pos ⟨e, by omega⟩, List.mem_append, List.mem_singleton, ← e, ih, List.mem_append, List.mem_singleton]
      have : (i : Int) = r.steps.getD s 0 := by omega
      simp only [this]
      constructor
      · rintro ((h | h) | h)
        · exact .inl h
        · exact .inr ⟨h.1, .inl h.2⟩
        · exact .inr ⟨h, .inr trivial⟩
      · rintro (h | ⟨h, _⟩)
        · exact .inl (.inl h)
        · exact .inr h
    · rw [if_neg (fun h => e h.1), ih]
      have : ¬ (i : Int) = r.steps.getD s 0 := by omega
      simp only [List.mem_append, List.mem_singleton, this, or_false]
theorem addR_mem {n : Nat} {rs : List Rul} {r' : Rul} {i : Nat} (hs : ∀ r, r ∈ rs → ∀ x, x ∈ r.steps → 0 ≤ x ∧ x < n) : ∀ {m : Nat}, m ≤ rs.length → (r' ∈ (addR n rs m).getD i [] ↔ r' ∈ rs.take m ∧ (i : Int) ∈ r'.steps)
  | 0, _ => by
    rw [addR, List.getD_eq_getElem?_getD, List.getElem?_replicate]; split <;> simp
  | m + 1, hm => by
    have ih := addR_mem (r' := r') (i := i) hs (m := m) (by omega)
    have hr := mem_getX (d := rz) (l := rs) (k := m) (by omega)
    rw [addR, addS_mem (by rw [addR_len]; exact hs _ hr) (Nat.le_refl _), ih, List.take_length, Yh (d := rz) (by omega), List.mem_append, List.mem_singleton]
    constructor
    · rintro (⟨h1, h2⟩ | ⟨rfl, h2⟩)
      · exact ⟨.inl h1, h2⟩
      · exact ⟨.inr rfl, h2⟩
    · rintro ⟨h1 | rfl, h2⟩
      · exact .inl ⟨h1, h2⟩
      · exact .inr ⟨rfl, h2⟩
def YZ (p : Pb) : List (List Rul) := addR p.who.length p.rules p.rules.length
open Go
theorem Pat.lt {a : List Nat} (h : Pat a) : ∀ {n i : Nat}, n ≤ a.length → i < n → a.getD i 0 < szP a n
  | n + 1, i, hn, hi => by
    have := h n (by omega)
    rw [szP]
    by_cases e : i = n
    · subst e; split <;> omega
    · have := h.lt (n := n) (i := i) (by omega) (by omega)
      split <;> omega
def plN (a us : List Nat) : List Nat := a.map fun b => us.getD b 0
theorem plN_len {a us : List Nat} : (plN a us).length = a.length := List.length_map _
def plK (a us : List Nat) (k : Nat) : List Nat := (plN a us).take k ++ List.replicate (a.length - k) 0
theorem plK_len {a us : List Nat} {k : Nat} (h : k ≤ a.length) : (plK a us k).length = a.length := by
  unfold plK; rw [List.length_append, List.length_take, plN_len, List.length_replicate]; omega
theorem plK_all {a us : List Nat} : plK a us a.length = plN a us := by
  unfold plK; rw [Nat.sub_self, List.replicate_zero, List.append_nil, List.take_of_length_le (by rw [plN_len]; omega)]
theorem plK_step {a us : List Nat} {k : Nat} (h : k < a.length) : (plK a us k).set k (us.getD (a.getD k 0) 0) = plK a us (k + 1) := by
  unfold plK
  rw [List.set_append_right _ _ XH31, List.length_take, plN_len, Nat.min_eq_left (by omega), Nat.sub_self, show a.length - k = (a.length - (k + 1)) + 1 by omega, List.replicate_succ, List.set_cons_zero, Yh (d := 0) (by rw [plN_len]; exact h), List.append_assoc]
  congr 2
  unfold plN
  simp [List.getD_eq_getElem?_getD, h]
theorem rep_rc (n : Nat) : ZG [iI 0] n = rcN (List.replicate n 0) := by
  induction n with
  | zero => rfl
  | succ n ih => rw [List.replicate_succ]; show iI 0 :: ZG [iI 0] n = _; rw [ih]; rfl
theorem spl_N {l : List Nat} {k v : Nat} (h : k < l.length) : ZH (rcN l) (0 + k * 1) [iI (v : Nat)] = rcN (l.set k v) := by
  rw [show 0 + k * 1 = k by omega]
  unfold ZH
  rw [show rcN (l.set k v) = (rcN l).set k (iI (v : Nat)) from List.map_set, List.set_eq_take_append_cons_drop, if_pos (by rw [List.length_map]; exact h)]; simp
open Go
theorem pats_pat : ∀ {m : Nat} {row : List Nat} {a : List Nat}, Pat row → a ∈ pats m row (szP row row.length) → Pat a
  | 0, row, a, hp, h => by rw [pats, List.mem_singleton] at h; exact h ▸ hp
  | m + 1, row, a, hp, h => by
    rw [pats, List.mem_flatMap] at h
    obtain ⟨x, hx, h⟩ := h
    have hx := List.mem_range.1 hx
    rw [← szP_next (by omega)] at h
    exact pats_pat (Pat_snoc hp (by omega)) h
def fdA (u : Nat) (ws : List (BitVec 64)) (rss : List (List Rul)) : Option (List Nat) := (frm (kpB ws rss) (kpG u ws rss) ws.length [] 0).2.map fun a => plN a (lst (Yb ws a a.length) 0#64)
open Go
theorem take_getD {l : List Nat} {k i : Nat} (h : i < k) : (l.take k).getD i 0 = l.getD i 0 := by
  rw [List.getD_eq_getElem?_getD, List.getElem?_take, if_pos h, List.getD_eq_getElem?_getD]
theorem szP_take {a : List Nat} {k : Nat} : ∀ {j : Nat}, j ≤ k → szP (a.take k) j = szP a j
  | 0, _ => rfl
  | j + 1, h => by rw [szP, szP, szP_take (by omega), take_getD (by omega)]
theorem szP_mono {a : List Nat} {j : Nat} : ∀ {k : Nat}, j ≤ k → szP a j ≤ szP a k
  | 0, h => by obtain rfl : j = 0 := by omega
               exact Nat.le_refl _
  | k + 1, h => by
    by_cases e : j = k + 1
    · rw [e]; exact Nat.le_refl _
    · have := szP_mono (a := a) (j := j) (k := k) (by omega)
      rw [szP]; split <;> omega
theorem szP_pos {a : List Nat} {k : Nat} (h : 0 < k) : a.getD 0 0 = 0 → 0 < szP a k := fun h0 => by
  have := szP_mono (a := a) (j := 1) (k := k) (by omega)
  rw [szP, h0] at this
  have h1 : (if 0 = szP a 0 then szP a 0 + 1 else szP a 0) = 1 := rfl
  omega
theorem getD_setS' {β : Type} {l : List β} {i j : Nat} {a d : β} (h : i < l.length) : (l.set i a).getD j d = if j = i then a else l.getD j d := by
  rw [getD_setL]
  by_cases e : j = i
  · rw [if_pos ⟨e, h⟩, if_pos e]
  · rw [if_neg (fun h => e h.1), if_neg e]
theorem blk_bit {ws : List (BitVec 64)} {a : List Nat} : ∀ {k : Nat}, (∀ i, i < k → a.getD i 0 ≤ szP a i) → ∀ {b u : Nat}, b < szP a k → (((Yb ws a k).getD b 0).getLsbD u = true ↔ ∀ i, i < k → a.getD i 0 = b → (ws.getD i 0).getLsbD u = true)
  | 0, _, b, u, h => absurd h (by simp [szP])
  | k + 1, hp, b, u, h => by
    have ih := blk_bit (ws := ws) (a := a) (k := k) (fun i hi => hp i (by omega)) (b := b) (u := u)
    have hl := @YB ws a k
    have hk := hp k (by omega)
    rw [szP] at h
    rw [Yb]
    by_cases e : a.getD k 0 = szP a k
    · rw [if_pos e] at h
      rw [if_pos (by rw [hl]; exact e)]
      by_cases hb : b = szP a k
      · subst hb
        rw [List.getD_eq_getElem?_getD, List.getElem?_append_right (by omega), hl, Nat.sub_self]
        constructor
        · intro h1 i hi h2
          by_cases h3 : i = k
          · subst h3; exact h1
          · -- no earlier step has that block
            have := Pat.lt (a := a.take k) (fun j hj => by
              rw [List.length_take] at hj
              have := hp j (by omega)
              rw [take_getD (by omega), szP_take (by omega)]; exact this) (n := min k a.length) (i := i) XH31
            by_cases h4 : i < a.length
            · have := this (by omega)
              rw [take_getD (by omega)] at this
              have hle : szP (a.take k) (min k a.length) ≤ szP a k := by
                rw [szP_take (by omega)]; exact szP_mono (by omega)
              omega
            · have h0 : a.getD i 0 = 0 := by rw [List.getD_eq_getElem?_getD, List.getElem?_eq_none (by omega)]; rfl
              have h00 := szP_pos (a := a) (k := k) (by omega) (by have := hp 0 (by omega); rw [szP] at this; omega)
              omega
        · intro h1; exact h1 k (by omega) e
      · have hb' : b < szP a k := by omega
        rw [List.getD_eq_getElem?_getD, List.getElem?_append_left (by omega), ← List.getD_eq_getElem?_getD, ih hb']
        constructor
        · intro h1 i hi h2
          by_cases h3 : i = k
          · subst h3; omega
          · exact h1 i (by omega) h2
        · intro h1 i hi h2; exact h1 i (by omega) h2
    · rw [if_neg e] at h
      rw [if_neg (by rw [hl]; exact e)]
      rw [getD_setS' (by omega)]
      by_cases hb : b = a.getD k 0
      · subst hb
        rw [if_pos rfl, BitVec.getLsbD_and, Bool.and_eq_true, ih h]
        constructor
        · rintro ⟨h1, h2⟩ i hi h3
          by_cases h4 : i = k
          · subst h4; exact h2
          · exact h1 i (by omega) h3
        · intro h1; exact ⟨fun i hi h2 => h1 i (by omega) h2, h1 k (by omega) rfl⟩
      · rw [if_neg hb, ih h]
        constructor
        · intro h1 i hi h2
          by_cases h3 : i = k
          · subst h3; exact absurd h2.symm hb
          · exact h1 i (by omega) h2
        · intro h1 i hi h2; exact h1 i (by omega) h2
open Go
theorem matB {ws : List (BitVec 64)} {a vs : List Nat} {k : Nat} (hp : ∀ i, i < k → a.getD i 0 ≤ szP a i) (hk : k ≤ a.length) : MatU (Yb ws a k) vs ↔ vs.length = szP a k ∧ vs.Nodup ∧ ∀ i, i < k → (ws.getD i 0).getLsbD (vs.getD (a.getD i 0) 0) = true := by
  have hl := @YB ws a k
  have hlt : ∀ i, i < k → a.getD i 0 < szP a k := fun i hi => by
    have h1 := hp i hi
    have h2 := szP_mono (a := a) (j := i + 1) (k := k) (by omega)
    rw [szP] at h2
    split at h2 <;> omega
  constructor
  · intro h
    refine ⟨by rw [h.len, hl], h.nd, fun i hi => ?_⟩
    have := h.ok (a.getD i 0) (by rw [hl]; exact hlt i hi)
    exact (blk_bit hp (hlt i hi)).1 this i hi rfl
  · rintro ⟨h1, h2, h3⟩
    exact ⟨by rw [h1, hl], h2, fun b hb => (blk_bit hp (by rw [← hl]; exact hb)).2 fun i hi e => e ▸ h3 i hi⟩
theorem mat_pre {ws : List (BitVec 64)} {a : List Nat} {j k : Nat} (hp : ∀ i, i < k → a.getD i 0 ≤ szP a i) (hk : k ≤ a.length) (hj : j ≤ k) (h : Mat (Yb ws a k)) : Mat (Yb ws a j) := by
  obtain ⟨vs, h⟩ := h
  obtain ⟨h1, h2, h3⟩ := (matB hp hk).1 h
  have hm := szP_mono (a := a) hj
  refine ⟨vs.take (szP a j), (matB (fun i hi => hp i (by omega)) (by omega)).2 ⟨by rw [List.length_take]; omega, List.Nodup.sublist (List.take_sublist ..) h2, fun i hi => ?_⟩⟩
  have hlt : a.getD i 0 < szP a j := by
    have h4 := hp i (by omega)
    have h5 := szP_mono (a := a) (j := i + 1) (k := j) (by omega)
    rw [szP] at h5
    split at h5 <;> omega
  rw [take_getD hlt]; exact h3 i (by omega)
theorem blkN_take {ws : List (BitVec 64)} {a : List Nat} {k : Nat} : ∀ {j : Nat}, j ≤ k → Yb ws (a.take k) j = Yb ws a j
  | 0, _ => rfl
  | j + 1, h => by rw [Yb, Yb, blkN_take (by omega), take_getD (by omega)]
theorem Pat.take {a : List Nat} (h : Pat a) (k : Nat) : Pat (a.take k) := fun j hj => by
  rw [List.length_take] at hj
  rw [take_getD (by omega), szP_take (by omega)]; exact h j (by omega)
theorem mat_row0 {l : List (BitVec 64)} {b : Nat} (hb : b < l.length) (h : l.getD b 0 = 0) : ¬ Mat l := by
  rintro ⟨us, h1⟩
  have := h1.ok b hb
  rw [h] at this; simp at this
theorem kpB_iff {ws : List (BitVec 64)} {rss : List (List Rul)} {a : List Nat} (ha : Pat a) (h0 : 0 < a.length) : kpB ws rss a = true ↔ kpR ws rss a = true ∧ Mat (Yb ws a a.length) := by
  have hl := @YB ws a a.length
  have hb := Pat.lt ha (Nat.le_refl a.length) (i := a.length - 1) (by omega)
  unfold kpB
  by_cases e : (Yb ws a a.length).getD (a.getD (a.length - 1) 0) 0 = 0
  · rw [if_pos e]
    constructor
    · intro h; cases h
    · rintro ⟨_, h⟩; exact absurd h (mat_row0 (by rw [hl]; exact hb) e)
  · rw [if_neg e]
    by_cases h1 : kpR ws rss a = true
    · rw [if_pos h1, fullB_iff, msk_0]; exact ⟨fun h => ⟨h1, h⟩, fun h => h.2⟩
    · rw [if_neg h1]
      constructor
      · intro h; cases h
      · rintro ⟨h, _⟩; exact absurd h h1
theorem uq_pre (l m : List Int) : uq l ≤ uq (l ++ m) ∧ uq (l ++ m) ≤ uq l + m.length := by
  refine rev_ind (P := fun m => uq l ≤ uq (l ++ m) ∧ uq (l ++ m) ≤ uq l + m.length) (by simp) (fun m x ih => ?_) m
  rw [← List.append_assoc, uq_app, List.length_append]
  show _ ∧ _ ≤ _ + (_ + 1)
  split <;> omega
theorem oft_pre (l m : List Int) : oft l ≤ oft (l ++ m) := by
  refine rev_ind (P := fun m => oft l ≤ oft (l ++ m)) (by simp) (fun m x ih => ?_) m
  rw [← List.append_assoc, oft_app]; omega
theorem rise_cut {n : Int} {k : Int} : ∀ (s : List Int) (a : Int), YS n a s = true → ∃ s1 s2, s = s1 ++ s2 ∧ (∀ x, x ∈ s1 → x < k) ∧ ∀ x, x ∈ s2 → k ≤ x
  | [], _, _ => ⟨[], [], rfl, fun x h => (by cases h), fun x h => (by cases h)⟩
  | x :: s, a, h => by
    rw [YS, Bool.and_eq_true, decide_eq_true_eq] at h
    by_cases hx : x < k
    · obtain ⟨s1, s2, rfl, h1, h2⟩ := rise_cut (k := k) s x h.2
      exact ⟨x :: s1, s2, rfl, fun y hy => (List.mem_cons.1 hy).elim (fun e => e ▸ hx) (h1 y), h2⟩
    · refine ⟨[], x :: s, rfl, fun y h => (by cases h), fun y hy => ?_⟩
      rcases List.mem_cons.1 hy with rfl | hy
      · omega
      · have := riseA_mem s x h.2 y hy; omega
theorem lbls_app (s1 s2 l : List Int) : YV (s1 ++ s2) l = YV s1 l ++ YV s2 l := by unfold YV; rw [List.filter_append, List.map_append]
theorem lft_app (s1 s2 l : List Int) : lft (s1 ++ s2) l = lft s1 l + lft s2 l := by unfold lft; rw [List.filter_append, List.length_append]
theorem lbls_out {s l : List Int} (h : ∀ x, x ∈ s → (l.length : Int) ≤ x) : YV s l = [] ∧ lft s l = s.length := by
  unfold YV lft
  rw [List.filter_eq_nil_iff.2 (fun x hx => by have := h x hx; simp; omega), List.filter_eq_self.2 (fun x hx => by have := h x hx; simp; omega)]
  exact ⟨rfl, rfl⟩
theorem lbls_in {s l m : List Int} (h : ∀ x, x ∈ s → x < (l.length : Int) ∧ x < (m.length : Int) ∧ l.getD x.toNat 0 = m.getD x.toNat 0) : YV s l = YV s m ∧ lft s l = 0 ∧ lft s m = 0 := by
  unfold YV lft
  rw [List.filter_eq_self.2 (fun x hx => by have := h x hx; simp; omega), List.filter_eq_self.2 (fun x hx => by have := h x hx; simp; omega), List.filter_eq_nil_iff.2 (fun x hx => by have := h x hx; simp; omega), List.filter_eq_nil_iff.2 (fun x hx => by have := h x hx; simp; omega)]
  exact ⟨List.map_congr_left fun x hx => (h x hx).2.2, rfl, rfl⟩
theorem kp_mono {r : Rul} {L M : List Int} {a b : Nat} (hb : b = a + M.length) (h : kp r (L ++ M) a = true) : kp r L b = true := by
  have h1 := uq_pre L M
  have h2 := oft_pre L M
  unfold kp at h ⊢
  split
  · rename_i e; rw [if_pos e] at h; simp only [decide_eq_true_eq] at h ⊢; omega
  · rename_i e; rw [if_neg e] at h
    split
    · rename_i e; rw [if_pos e] at h; simp only [decide_eq_true_eq] at h ⊢; omega
    · rename_i e; rw [if_neg e] at h
      split
      · rename_i e; rw [if_pos e] at h; simp only [decide_eq_true_eq] at h ⊢; omega
      · rename_i e; rw [if_neg e] at h
        split
        · rename_i e; rw [if_pos e] at h; simp only [decide_eq_true_eq] at h ⊢; omega
        · rename_i e; rw [if_neg e] at h; simp only [decide_eq_true_eq] at h ⊢; omega
theorem getD_takeI {l : List Int} {k i : Nat} (h : i < k) : (l.take k).getD i 0 = l.getD i 0 := by
  rw [List.getD_eq_getElem?_getD, List.getElem?_take, if_pos h, List.getD_eq_getElem?_getD]
theorem erl_pre {r : Rul} {n : Int} {l : List Int} {k : Nat} (h : erl r n l = true) : erl r n (l.take k) = true := by
  unfold erl at h ⊢
  rw [Bool.and_eq_true, Bool.and_eq_true, decide_eq_true_eq] at h
  obtain ⟨h1, h2, h3⟩ := h
  rw [h1, decide_eq_true XH31, Bool.true_and, Bool.true_and]
  by_cases hk : l.length ≤ k
  · rw [List.take_of_length_le hk]; exact h3
  have hr := h1
  unfold rck at hr
  rw [Bool.and_eq_true, Bool.and_eq_true] at hr
  obtain ⟨s1, s2, hs, ha, hb⟩ := rise_cut (k := (k : Int)) r.steps (-1) hr.2.1
  have hmem := riseA_mem _ _ hr.2.1
  have hlen : (l.take k).length = k := by rw [List.length_take]; omega
  unfold kpL at h3 ⊢
  rw [hs] at h3 ⊢
  have e1 := lbls_in (s := s1) (l := l.take k) (m := l) fun x hx => by
    have h4 := ha x hx
    have h5 := hmem x (by rw [hs]; exact List.mem_append_left _ hx)
    exact ⟨by omega, by omega, getD_takeI (by omega)⟩
  have e2 := lbls_out (s := s2) (l := l.take k) fun x hx => by have := hb x hx; omega
  have e3 := lbls_len s2 l
  rw [lbls_app, lft_app, e1.1, e1.2.1, e2.1, e2.2, List.append_nil, Nat.zero_add]
  rw [lbls_app, lft_app, e1.2.2, Nat.zero_add] at h3
  exact kp_mono (by omega) h3
theorem max_of : ∀ {s : List Int}, s ≠ [] → ∃ j, j ∈ s ∧ ∀ x, x ∈ s → x ≤ j
  | [x], _ => ⟨x, by simp, fun y hy => by simp at hy; omega⟩
  | x :: y :: s, _ => by
    obtain ⟨j, h1, h2⟩ := max_of (s := y :: s) (by simp)
    by_cases h : x ≤ j
    · exact ⟨j, List.mem_cons_of_mem _ h1, fun z hz => (List.mem_cons.1 hz).elim (fun e => e ▸ h) (h2 z)⟩
    · exact ⟨x, List.mem_cons_self .., fun z hz => (List.mem_cons.1 hz).elim (fun e => by omega) (fun h3 => by have := h2 z h3; omega)⟩
theorem rck_steps {n : Int} {r : Rul} (h : rck n r = true) : r.steps ≠ [] ∧ ∀ x, x ∈ r.steps → 0 ≤ x ∧ x < n := by
  unfold rck at h
  rw [Bool.and_eq_true, Bool.and_eq_true] at h
  refine ⟨fun e => ?_, fun x hx => ?_⟩
  · have := h.2.2
    unfold knd at this
    rw [e] at this
    simp at this
    omega
  · have := riseA_mem _ _ h.2.1 x hx; omega
theorem erl_last {r : Rul} {n : Int} {l : List Int} {j : Nat} (hl : (l.length : Int) ≤ n) (hj : j < l.length) (hmax : ∀ x, x ∈ r.steps → x ≤ j) (hr : rck n r = true) (h : erl r n (l.take (j + 1)) = true) : erl r n l = true := by
  unfold erl at h ⊢
  rw [Bool.and_eq_true, Bool.and_eq_true] at h
  rw [hr, decide_eq_true hl, Bool.true_and, Bool.true_and]
  have h3 := h.2.2
  unfold kpL at h3 ⊢
  have hlen : (l.take (j + 1)).length = j + 1 := by rw [List.length_take]; omega
  have hs := (rck_steps hr).2
  have e := lbls_in (s := r.steps) (l := l.take (j + 1)) (m := l) fun x hx => by
    have h4 := hmax x hx
    have h5 := hs x hx
    exact ⟨by omega, by omega, getD_takeI (by omega)⟩
  rw [e.1, e.2.1] at h3
  rw [e.2.2]; exact h3
theorem zI_take {a : List Nat} {k : Nat} : zI (a.take k) = (zI a).take k := by unfold zI; rw [List.map_take]
theorem kept_iff {ws : List (BitVec 64)} {rs : List Rul} {a : List Nat} (ha : Pat a) (hl : a.length = ws.length) (hr : ∀ r, r ∈ rs → rck ws.length r = true) :
    keptN (kpB ws (addR ws.length rs rs.length)) 0 a = true ↔ Mat (Yb ws a a.length) ∧ ∀ r, r ∈ rs → erl r ws.length (zI a) = true := by
  have hs : ∀ r, r ∈ rs → ∀ x, x ∈ r.steps → 0 ≤ x ∧ x < (ws.length : Int) := fun r h => (rck_steps (hr r h)).2
  have hzl : (zI a).length = a.length := zI_len
  have hkp : ∀ j, j < a.length → (kpB ws (addR ws.length rs rs.length) (a.take (j + 1)) = true ↔ (∀ r, r ∈ rs → (j : Int) ∈ r.steps → erl r ws.length ((zI a).take (j + 1)) = true) ∧ Mat (Yb ws a (j + 1))) := fun j hj => by
    have hlen : (a.take (j + 1)).length = j + 1 := by rw [List.length_take]; omega
    rw [kpB_iff (ha.take _) (by omega), hlen, blkN_take (Nat.le_refl _)]
    unfold kpR
    rw [hlen, Nat.add_sub_cancel, List.all_eq_true, zI_take]
    constructor
    · rintro ⟨h1, h2⟩
      exact ⟨fun r hr1 hr2 => h1 r ((addR_mem hs (Nat.le_refl _)).2 ⟨by rw [List.take_length]; exact hr1, hr2⟩), h2⟩
    · rintro ⟨h1, h2⟩
      refine ⟨fun r hr1 => ?_, h2⟩
      have := (addR_mem hs (Nat.le_refl _)).1 hr1
      rw [List.take_length] at this
      exact h1 r this.1 this.2
  rw [keptN_iff]
  constructor
  · intro h
    refine ⟨?_, fun r hr1 => ?_⟩
    · cases hn : a.length with
      | zero => exact ⟨[], matU_nil.2 rfl⟩
      | succ n => exact ((hkp n (by omega)).1 (h n (by omega) (Nat.zero_le _))).2
    · obtain ⟨j, hj, hmax⟩ := max_of (rck_steps (hr r hr1)).1
      have h2 := hs r hr1 j hj
      have h3 := ((hkp j.toNat (by omega)).1 (h j.toNat (by omega) (Nat.zero_le _))).1 r hr1 (by rw [Int.toNat_of_nonneg h2.1]; exact hj)
      exact erl_last (by omega) (by omega) (fun x hx => by have := hmax x hx; omega) (hr r hr1) h3
  · rintro ⟨h1, h2⟩ j hj _
    exact (hkp j hj).2 ⟨fun r hr1 _ => erl_pre (h2 r hr1), mat_pre ha (Nat.le_refl _) (by omega) h1⟩
open Go
section
variable {f : Int → Int}
end
structure PtOk (us : List Nat) (k : Nat) (a vs : List Nat) : Prop where
  len : a.length = k
  pat : Pat a
  sz : szP a k = vs.length
  nd : vs.Nodup
  ok : ∀ i, i < k → a.getD i 0 < vs.length ∧ vs.getD (a.getD i 0) 0 = us.getD i 0
structure PlanN (ws : List (BitVec 64)) (rs : List Rul) (us : List Nat) : Prop where
  len : us.length = ws.length
  may : ∀ i, i < ws.length → (ws.getD i 0).getLsbD (us.getD i 0) = true
  rul : ∀ r, r ∈ rs → erl r ws.length (zI us) = true
set_option autoImplicit false
open Go Go.RowKit
def CpN (h : Nat) (L : Zf) (v : VVal) (a : List Nat) : Prop := (a = [] ∧ v = .slice none 0 0 true 1) ∨ ∃ j, v = .slice (some (h + j, 0)) a.length a.length false 1 ∧ L[j]? = some (.cells (rcN a) true) ∧ 0 < a.length
section
variable {T : TypeId → Option VTy} {ρ : Operand → VVal} {H : Zf} {op : Op}
theorem v_cpN {s x : Operand} {ats : Array TypeId} {t u e : TypeId} {z : VTy} {du : TypeDesc} {L : Zf} {a : List Nat}
    (ho : op = .call { callee := .builtin .append, args := #[s, x], argTypes := ats }) (hat : ats = #[t, u]) (hz : velem T t = some (e, z)) (hu : (T u).map (·.desc) = some du) (hdu : isSeq du = true) (hz1 : z.size = 1)
    (hs : ρ s = .slice none 0 0 true 0) (hx : ρ x = fzN a) (hb : a.length * z.bytes ≤ 140737488355328 ∧ a.length ≤ 140737488355328) :
    ∃ v G, vop T ρ (H ++ L) op = some (v, G) ∧ ∃ Z, G = H ++ (L ++ Z) ∧ CpN H.length (L ++ Z) v a := by
  have hk' : srcLen (ρ x) = some a.length := by rw [hx]; rfl
  have h1 : (rcN a).all VVal.one = true := List.all_eq_true.2 fun v hv => by
    obtain ⟨n, _, rfl⟩ := List.mem_map.1 hv; rfl
  by_cases h0 : a.length = 0
  · obtain rfl : a = [] := List.eq_nil_of_length_eq_zero h0
    have hsrc : Z3 (H ++ L) z.size 0 (ρ x) = some [] := by
      rw [hx]; show Zx [] 0 (0 * z.size) = some []
      unfold Zx; simp
    refine ⟨_, _, ?_, [], by rw [List.append_nil], .inl ⟨rfl, rfl⟩⟩
    rw [ho, hat]
    simp only [vop, ZW, List.map_cons, List.map_nil, YH, hz, hs, hu, hk']
    simp only [List.length_nil]
    rw [hsrc]
    simp only
    rw [if_pos ⟨by simp, by simp, by rw [hz1]; decide, by simp, by simp, hdu⟩, hz1]
    simp
  · have h2 := v_appNF (H := H) (L := L) ho hat hz hu hdu hs (by rw [hx, hz1]) (by rw [hz1, List.length_map]; exact (Nat.mul_one _).symm) h1 (by rw [hz1]; decide) (by omega) hb
    refine ⟨_, _, h2, [.cells (rcN a) true], rfl, .inr ⟨L.length, by rw [hz1], get_end, by omega⟩⟩
theorem v_cpApp {s x : Operand} {ats : Array TypeId} {t u e : TypeId} {z : VTy} {du : TypeDesc} {L : Zf} {a : List Nat} {v : VVal} {b kx : Nat}
    (ho : op = .call { callee := .builtin .append, args := #[s, x], argTypes := ats }) (hat : ats = #[t, u]) (hz : velem T t = some (e, z)) (hu : (T u).map (·.desc) = some du) (hdu : isSeq du = true) (hz1 : z.size = 1)
    (hs : ρ s = v) (hx : ρ x = .slice (some (H.length + L.length, 0)) 1 kx true 1) (hc : CpN H.length L v a) (hb : (a.length + 1) * z.bytes ≤ 140737488355328 ∧ a.length + 1 ≤ 140737488355328) :
    ∃ w G, vop T ρ (H ++ (L ++ [.cells [iI (b : Nat)] true])) op = some (w, G) ∧ ∃ Z i, G = H ++ Z ∧ w = .slice (some (H.length + i, 0)) (a.length + 1) (a.length + 1) false 1 ∧ Z[i]? = some (.cells (rcN (a ++ [b])) true) := by
  have hk' : srcLen (ρ x) = some 1 := by rw [hx]; rfl
  have hsrc : Z3 (H ++ (L ++ [.cells [iI (b : Nat)] true])) z.size 1 (ρ x) = some [iI (b : Nat)] := by
    rw [hx, hz1]
    simp only [Z3]
    rw [ZL rfl get_end]; rfl
  rcases hc with ⟨rfl, rfl⟩ | ⟨j, rfl, hj, h0⟩
  · refine ⟨.slice (some ((H ++ (L ++ [VBlk.cells [iI (b : Nat)] true])).length, 0)) 1 1 false 1, (H ++ (L ++ [VBlk.cells [iI (b : Nat)] true])) ++ [.cells [iI (b : Nat)] true], ?_, (L ++ [VBlk.cells [iI (b : Nat)] true]) ++ [.cells [iI (b : Nat)] true], (L ++ [VBlk.cells [iI (b : Nat)] true]).length, by rw [List.append_assoc], by rw [List.length_append]; rfl, get_end⟩
    rw [ho, hat]
    simp only [vop, ZW, List.map_cons, List.map_nil, YH, hz, hs, hu, hk']
    rw [hsrc]
    simp only
    rw [if_pos ⟨by rw [hz1]; rfl, rfl, by rw [hz1]; decide, by simpa using hb.1, by simp, hdu⟩, if_neg (by simp), if_neg (by decide), if_neg (by decide), hz1]
  · have hjl := ZY hj
    refine ⟨.slice (some ((H ++ (L ++ [VBlk.cells [iI (b : Nat)] true])).length, 0)) (a.length + 1) (a.length + 1) false 1, ((H ++ (L ++ [VBlk.cells [iI (b : Nat)] true])).set (H.length + j) .dead) ++ [.cells (rcN a ++ [iI (b : Nat)]) true], ?_, (L ++ [VBlk.cells [iI (b : Nat)] true]).set j .dead ++ [.cells (rcN a ++ [iI (b : Nat)]) true], (L ++ [VBlk.cells [iI (b : Nat)] true]).length, by rw [ZO rfl, List.append_assoc], by rw [List.length_append], ?_⟩
    · rw [ho, hat]
      simp only [vop, ZW, List.map_cons, List.map_nil, YH, hz, hs, hu, hk']
      rw [hsrc]
      simp only
      rw [if_pos ⟨by rw [hz1]; rfl, rfl, by rw [hz1]; decide, hb.1, hb.2, hdu⟩, if_pos hz1.symm, ZL rfl (Zw hj)]
      simp only
      rw [if_neg (by omega), Yq (by rw [List.length_map])]
      simp only
      rw [if_neg (by decide), if_pos trivial]
    · rw [rcN_snoc, List.getElem?_append_right (by rw [List.length_set]; exact Nat.le_refl _), List.length_set, Nat.sub_self]; rfl
end
open Go Go.RowKit
def RD (H : Zf) (v : VVal) (l : List Int) : Prop := v = fzI l ∨ (l = [] ∧ v = .slice none 0 0 true 0) ∨ ∃ b cap cs, v = .slice (some (b, 0)) l.length cap false 1 ∧ H[b]? = some (.cells cs true) ∧ l.length ≤ cs.length ∧ cs.take l.length = l.map iI
theorem RD.fz (H : Zf) (l : List Int) : RD H (fzI l) l := .inl rfl
theorem RD.nil (H : Zf) : RD H (.slice none 0 0 true 0) [] := .inr (.inl ⟨rfl, rfl⟩)
theorem RD.app {H : Zf} {v : VVal} {l : List Int} (r : RD H v l) (L : Zf) : RD (H ++ L) v l := by
  rcases r with h | h | ⟨b, cap, cs, h1, h2, h3⟩
  · exact .inl h
  · exact .inr (.inl h)
  · exact .inr (.inr ⟨b, cap, cs, h1, Zw h2, h3⟩)
section
variable {T : TypeId → Option VTy} {ρ : Operand → VVal} {H : Zf} {op : Op}
theorem LdOk.app {H L : Zf} {p v : VVal} (h : LdOk H p v) : LdOk (H ++ L) p v := by
  rcases h with h | ⟨b, off, cs, rw, h1, h2, h3⟩
  · exact .inl h
  · exact .inr ⟨b, off, cs, rw, h1, Zw h2, h3⟩
end
open Go Go.RowKit
theorem RV.frame {h : Nat} {X X' : Zf} {v : VVal} {rc : List VVal} (r : RV h X v rc) (hf : ∀ i, YU v = some (h + i) → X'[i]? = X[i]?) : RV h X' v rc := by
  rcases r with h1 | ⟨b, cap, cs, rfl, h2, h3⟩
  · exact .inl h1
  · exact .inr ⟨b, cap, cs, rfl, by rw [hf b rfl]; exact h2, h3⟩
theorem RV.lt {h : Nat} {X : Zf} {v : VVal} {rc : List VVal} (r : RV h X v rc) : ∀ n, YU v = some n → n < h + X.length := fun n hn => by
  rcases r with ⟨_, rfl⟩ | ⟨b, cap, cs, rfl, h2, h3⟩
  · cases hn
  · simp only [YU, Option.some.injEq] at hn
    have := (List.getElem?_eq_some_iff.1 h2).1; omega
def RvF (h : Nat) (Y Y' : Zf) (v w : VVal) : Prop := Y.length ≤ Y'.length ∧ (∀ i, i < Y.length → YU v ≠ some (h + i) → Y'[i]? = Y[i]?) ∧ (YU w = YU v ∨ ∃ j, Y.length ≤ j ∧ YU w = some (h + j))
theorem RvF.keep {h es len : Nat} {Y Y' : Zf} {v w lv : VVal} {cs : List VVal} (f : RvF h Y Y' v w) (l : LV h es Y lv cs len) (d : Dj lv v) : LV h es Y' lv cs len ∧ Dj lv w := by
  refine ⟨LV.frame l fun i hi => f.2.1 i ?_ (d _ hi), fun n hn => ?_⟩
  · have := l.lt _ hi; omega
  · rcases f.2.2 with h1 | ⟨j, h1, h2⟩
    · rw [h1]; exact d n hn
    · rw [h2]; have := l.lt n hn
      simp only [ne_eq, Option.some.injEq]; omega
theorem RV.far {h m n c e2 : Nat} {o : Nat} {ex : Bool} {Y : Zf} {v : VVal} {rc : List VVal} (r : RV h Y v rc) (hm : Y.length ≤ m) : Dj (.slice (some (h + m, o)) n c ex e2) v := fun k hk e => by
  have := r.lt k e
  simp only [YU, Option.some.injEq] at hk; omega
section
variable {T : TypeId → Option VTy} {ρ : Operand → VVal} {H : Zf} {op : Op}
end
section
variable {T : TypeId → Option VTy} {ρ : Operand → VVal} {H : Zf} {op : Op}
end
section
variable {S : Sys} {H0 : Zf}
end
open Go Go.RowKit
def inB (l : List Int) (n : Nat) : Bool := l.any fun x => decide (x = (n : Int))
theorem spl_W {l : List (BitVec 64)} {k : Nat} {w : BitVec 64} (h : k < l.length) : ZH (l.map iW) (0 + k * 1) [iW w] = (l.set k w).map iW := by
  rw [show 0 + k * 1 = k by omega]
  unfold ZH
  rw [List.map_set, List.set_eq_take_append_cons_drop, if_pos (by rw [List.length_map]; exact h)]; simp
open Go Go.RowKit
section
variable {T : TypeId → Option VTy} {ρ : Operand → VVal} {H : Zf} {op : Op}
end
open Go Go.RowKit
def IterJ (S : Sys) (l : Nat) : List (List VVal) → Zf → (Bool → Zf → Prop) → Prop
  | [], G, K => K true G
  | x :: xs, G, K => ∀ L, Fv S (.yield l) x (G ++ L) fun v G' => ∃ b G1 J, v = .bool b ∧ G' = G1 ++ (L ++ J) ∧ G1.length = G.length ∧ if b = true then IterJ S l xs G1 K else K false G1
section
variable {S : Sys} {H0 H : Zf} {rd : Option Nat} {env : VEnv} {Q : Post}
theorem B_rangeJ {f1 : FuncId} {caps : List VVal} {g : Operand} {ps : Array Nat} {asg body : Code} {β : Type} (fv : β → List VVal) (np : Nat) (hnp : ∀ x, (fv x).length = np) (xs : List β) (hrd : ∀ l0, rd = some l0 → ∃ st p fn tmps ps asg body, H[l0]? = some (.loop st p fn tmps ps asg body)) (hg : env.eval g = .func f1 [] caps)
    (hAll : ∀ (l : Nat) (G : Zf) (K : Bool → Zf → Prop), IterJ S l (xs.map fv) G K → F S f1 ([.yield l] ++ caps) G fun v G' => ∃ b G1 J, G' = G1 ++ J ∧ K b G1)
    {σ : Type} (hp : VBlk → σ → Zf) (s0 : σ) (h0 : ∀ k, H ++ [k] = hp k s0) (hlen : ∀ k s, (hp k s).length = H.length + 1) (hget : ∀ k s, (hp k s)[H.length]? = some k) (hset : ∀ k k' s, (hp k s).set H.length k' = hp k' s)
    (inv : List β → σ → Prop) (hi : inv [] s0) (X : Code → List β → β → σ → Prop) (hps : ps.toList.length = np)
    (round : ∀ pre c post s, xs = pre ++ c :: post → inv pre s → ∀ L (kr kb : VBlk), kr = .loop .ready none 0 env ps.toList asg body → kb = .loop .busy none 0 env ps.toList asg body →
      B S (hp kr s ++ L) (some H.length) asg (YL env ps.toList (fv c)) (hp kr s ++ L) (fun ex env1 H1 => ex = .normal ∧ ∃ s1, H1 = hp kr s1 ++ L ∧ B S (hp kr s ++ L) (some H.length) body env1 (hp kb s1 ++ L)
        (fun ex2 _ H2 => ∃ s2 J, H2 = hp kb s2 ++ (L ++ J) ∧ ((ex2 = .normal ∧ inv (pre ++ [c]) s2) ∨ (∃ j, jumpOf ex2 = some (some j) ∧ X j pre c s2)))))
    (done : ∀ s k, k = VBlk.loop .exhausted none 0 env ps.toList asg body → inv xs s → ∀ J, Q .normal env (hp k s ++ J))
    (stop : ∀ j pre c post s k, k = VBlk.loop .exhausted (some j) 0 env ps.toList asg body → xs = pre ++ c :: post → X j pre c s → ∀ J, jumpTo (some j) env (hp k s ++ J) Q) : B S H0 rd (.rangeFunc g ps asg body) env H Q := by
  let rec' : LoopState → Option Code → VBlk := fun st p => .loop st p 0 env ps.toList asg body
  let Kf : Bool → Zf → Prop := fun b G => if b = true then (∃ s, G = hp (rec' .ready none) s ∧ inv xs s) else ∃ j pre c post s, G = hp (rec' .done (some j)) s ∧ xs = pre ++ c :: post ∧ X j pre c s
  have lenlt : ∀ k s, H.length < (hp k s).length := fun k s => by rw [hlen]; omega
  have key : ∀ (ys pre : List β) (s : σ), xs = pre ++ ys → inv pre s → IterJ S H.length (ys.map fv) (hp (rec' .ready none) s) Kf := by
    intro ys
    induction ys with
    | nil =>
      intro pre s hx hs
      rw [List.append_nil] at hx
      show ∃ s', hp (rec' .ready none) s = hp (rec' .ready none) s' ∧ inv xs s'
      exact ⟨s, rfl, hx ▸ hs⟩
    | cons c ys ih =>
      intro pre s hx hs L
      have hr := round pre c ys s hx hs L _ _ rfl rfl
      refine Fv_yield (p := none) (fn := 0) (tmps := env) (ps := ps.toList) (body := body) (Zw (hget _ _)) (by rw [hnp, hps]) _ rfl (hr.mono ?_)
      rintro ex env1 H1 ⟨rfl, s1, rfl, hb⟩
      refine ⟨rfl, none, 0, env, ps.toList, asg, body, Zw (hget _ s1), ?_⟩
      rw [List.set_append_left _ _ (lenlt _ _), hset]
      refine hb.mono ?_
      rintro ex2 env2 H2 ⟨s2, J, rfl, h2⟩
      rcases h2 with ⟨rfl, h2⟩ | ⟨j, hj, h2⟩
      · refine ⟨none, rfl, .busy, none, 0, env, ps.toList, asg, body, Zw (hget _ s2), true, hp (rec' .ready none) s2, J, rfl, ?_, by rw [hlen, hlen], ?_⟩
        · rw [List.set_append_left _ _ (lenlt _ _), hset]; rfl
        · rw [if_pos rfl]
          exact ih (pre ++ [c]) s2 (by rw [hx]; simp) h2
      · refine ⟨some j, hj, .busy, none, 0, env, ps.toList, asg, body, Zw (hget _ s2), false, hp (rec' .done (some j)) s2, J, rfl, ?_, by rw [hlen, hlen], ?_⟩
        · rw [List.set_append_left _ _ (lenlt _ _), hset]; rfl
        · rw [if_neg (by simp)]
          show ∃ j' pre' c' post' s', hp (rec' .done (some j)) s2 = hp (rec' .done (some j')) s' ∧ xs = pre' ++ c' :: post' ∧ X j' pre' c' s'
          exact ⟨j, pre, c, ys, s2, rfl, hx, h2⟩
  refine B_range hrd hg (hAll H.length _ Kf (by rw [h0]; exact key xs [] s0 rfl hi)) ?_
  rintro v H2 ⟨b, G1, J, rfl, hK⟩
  cases b
  · have hK : ∃ j pre c post s, G1 = hp (rec' .done (some j)) s ∧ xs = pre ++ c :: post ∧ X j pre c s := by simpa [Kf] using hK
    obtain ⟨j, pre, c, post, s, rfl, hx, hX⟩ := hK
    refine ⟨.done, some j, 0, env, ps.toList, asg, body, Zw (hget _ s), by simp, ?_⟩
    rw [List.set_append_left _ _ (lenlt _ _), hset]
    exact stop j pre c post s _ rfl hx hX J
  · have hK : ∃ s, G1 = hp (rec' .ready none) s ∧ inv xs s := by simpa [Kf] using hK
    obtain ⟨s, rfl, hs⟩ := hK
    refine ⟨.ready, none, 0, env, ps.toList, asg, body, Zw (hget _ _), by simp, ?_⟩
    rw [List.set_append_left _ _ (lenlt _ _), hset]
    exact done s _ rfl hs J
theorem B_frzEnd {c : Code} {env' : VEnv} {A Z : Zf} {row : List Nat} {k n cp : Nat} (i : Nat) (hv : env[i]? = some (.slice (some (A.length + Z.length, 0)) n cp false 1)) (hn : n = row.length + 1) (hc : cp = n) (he : env.set i (fzN (row ++ [k])) = env')
    (h : B S H0 rd c env' (A ++ (Z ++ [.dead])) Q) : B S H0 rd c env (A ++ (Z ++ [.cells (rcN row ++ [iI (k : Nat)]) true])) Q := by
  subst hc; subst hn
  refine Yu (Gh.freezeL (H := A) (L := Z ++ [.cells (rcN row ++ [iI (k : Nat)]) true]) (l := rcN (row ++ [k])) (vs' := env') i Z.length hv get_end (by rw [← rcN_snoc]; exact Yq (by simp)) (Nat.le_refl _) (by rw [← he]; show _ = env.set i (.fsl _ (row ++ [k]).length 1 false); rw [List.length_append]; rfl)) ?_
  rw [set_end]; exact h
end
theorem ea_fold {A L J0 J2 : Zf} {a b : VBlk} : A ++ ((((L ++ J0) ++ [a]) ++ [b]) ++ J2) = A ++ (L ++ (J0 ++ [a, b] ++ J2)) := by simp
theorem ea_fold0 {A L J0 : Zf} {a b : VBlk} : A ++ (((L ++ J0) ++ [a]) ++ [b]) = A ++ (L ++ (J0 ++ [a, b])) := by simp
set_option autoImplicit true
open Go
section
variable {kp : List Nat → Bool} {kg : List Nat → Gz} {f : List Nat → Nat → Told} {row : List Nat} {blocks : Nat}
def ptF (kp : List Nat → Bool) (kg : List Nat → Gz) (f : List Nat → Nat → Told) (row : List Nat) (blocks : Nat) : List Nat → Told
  | [] => ([], 0)
  | x :: xs => addF (kg (row ++ [x])) (if kp (row ++ [x]) = true then catT (f (row ++ [x]) (max blocks (x + 1))) (ptF kp kg f row blocks xs) else ptF kp kg f row blocks xs)
def ptT (kp : List Nat → Bool) (kg : List Nat → Gz) : Nat → List Nat → Nat → Told
  | 0, row, _ => ([(0, row)], 0)
  | m + 1, row, blocks => ptF kp kg (ptT kp kg m) row blocks (List.range (blocks + 1))
def ptR (kp : List Nat → Bool) (kg : List Nat → Gz) (f : List Nat → Nat → Told) (row : List Nat) (blocks k : Nat) : Told := ptF kp kg f row blocks ((List.range (blocks + 1)).drop k)
theorem ptR_end {k : Nat} (h : blocks < k) : ptR kp kg f row blocks k = ([], 0) := by
  unfold ptR; rw [List.drop_eq_nil_of_le (by simp; omega)]; rfl
theorem ptR_no {k : Nat} (h : k ≤ blocks) (h1 : kp (row ++ [k]) = false) : ptR kp kg f row blocks k = addF (kg (row ++ [k])) (ptR kp kg f row blocks (k + 1)) := by
  unfold ptR; rw [range_drop (by omega), ptF, if_neg (by rw [h1]; decide)]
theorem ptR_yes {k : Nat} (h : k ≤ blocks) (h1 : kp (row ++ [k]) = true) : ptR kp kg f row blocks k = addF (kg (row ++ [k])) (catT (f (row ++ [k]) (max blocks (k + 1))) (ptR kp kg f row blocks (k + 1))) := by
  unfold ptR; rw [range_drop (by omega), ptF, if_pos h1]
theorem ptT_R {m : Nat} : ptT kp kg (m + 1) row blocks = ptR kp kg (ptT kp kg m) row blocks 0 := by
  unfold ptR; rw [ptT]; rfl
theorem ptF_snd {g : List Nat → Nat → List (List Nat)} {n : Nat} (hn : n = row.length)
    (hf : ∀ r b, r.length = n + 1 → (f r b).1.map Prod.snd = (g r b).filter (keptN kp (n + 1))) (hg : ∀ r b a, r.length = n + 1 → a ∈ g r b → ∃ z, a = r ++ z) : ∀ xs : List Nat, (ptF kp kg f row blocks xs).1.map Prod.snd = (xs.flatMap fun x => g (row ++ [x]) (max blocks (x + 1))).filter (keptN kp n)
  | [] => rfl
  | x :: xs => by
    have hl : (row ++ [x]).length = n + 1 := by rw [List.length_append, hn]; rfl
    have ih := ptF_snd hn hf hg xs
    have hkey : ∀ a, a ∈ g (row ++ [x]) (max blocks (x + 1)) → keptN kp n a = (kp (row ++ [x]) && keptN kp (n + 1) a) := by
      intro a ha
      obtain ⟨z, rfl⟩ := hg _ _ _ hl ha
      rw [Bool.eq_iff_iff, Bool.and_eq_true, keptN_iff, keptN_iff]
      have ht : (row ++ [x] ++ z).take (n + 1) = row ++ [x] := by rw [List.take_append_of_le_length (by omega), List.take_of_length_le (by omega)]
      constructor
      · intro h
        exact ⟨by have := h n (by rw [List.length_append, hl]; omega) (Nat.le_refl _); rwa [ht] at this, fun j hj hn => h j hj (by omega)⟩
      · rintro ⟨h1, h2⟩ j hj hjn
        by_cases e : j = n
        · subst e; rw [ht]; exact h1
        · exact h2 j hj (by omega)
    have hfil : (g (row ++ [x]) (max blocks (x + 1))).filter (keptN kp n) = if kp (row ++ [x]) = true then (f (row ++ [x]) (max blocks (x + 1))).1.map Prod.snd else [] := by
      by_cases hk : kp (row ++ [x]) = true
      · rw [if_pos hk, hf _ _ hl]
        exact List.filter_congr fun a ha => by rw [hkey a ha, hk, Bool.true_and]
      · rw [if_neg hk, List.filter_eq_nil_iff]
        intro a ha
        rw [hkey a ha, Bool.eq_false_iff.2 hk, Bool.false_and]; decide
    rw [ptF, addF_snd, List.flatMap_cons, List.filter_append, hfil, ← ih]
    split
    · rw [catT_snd]
    · rfl
theorem ptT_snd : ∀ (m : Nat) (row : List Nat) (blocks : Nat), (ptT kp kg m row blocks).1.map Prod.snd = (pats m row blocks).filter (keptN kp row.length)
  | 0, row, _ => by
    rw [ptT, pats, List.filter_cons, if_pos]; · rfl
    rw [keptN_iff]; intro j h1 h2; omega
  | m + 1, row, blocks => by
    rw [ptT, pats]
    refine ptF_snd rfl (fun r b h => ?_) (fun r b a _ ha => ?_) _
    · rw [ptT_snd m r b, h]
    · obtain ⟨z, h, _⟩ := pats_len ha; exact ⟨z, h⟩
end
open Go
def YD (n : Nat) : List Int := zI (List.range n)
theorem allS_len {n : Nat} : (YD n).length = n := by unfold YD; rw [zI_len, List.length_range]
theorem lbls_all {l : List Int} : YV (YD l.length) l = l ∧ lft (YD l.length) l = 0 := by
  have hf : ∀ x, x ∈ YD l.length → x < (l.length : Int) := fun x hx => by
    unfold YD zI at hx
    obtain ⟨k, hk, rfl⟩ := List.mem_map.1 hx
    have := List.mem_range.1 hk; omega
  constructor
  · unfold YV
    rw [List.filter_eq_self.2 (fun x hx => decide_eq_true (hf x hx))]
    apply List.ext_getElem
    · rw [List.length_map, allS_len]
    · intro i h1 h2
      rw [List.getElem_map]
      show l.getD ((YD l.length)[i]'_).toNat 0 = _
      have : (YD l.length)[i]'(by rw [allS_len]; exact h2) = (i : Int) := by unfold YD zI; simp
      rw [this, Int.toNat_natCast, List.getD_eq_getElem?_getD, List.getElem?_eq_getElem h2]; rfl
  · unfold lft
    rw [List.length_eq_zero_iff, List.filter_eq_nil_iff]
    intro x hx
    have := hf x hx
    simp [this]
theorem zI_app {a b : List Nat} : zI (a ++ b) = zI a ++ zI b := by unfold zI; rw [List.map_append]
theorem zI_mem {a : List Nat} {c : Nat} : (c : Int) ∈ zI a ↔ c ∈ a := by
  unfold zI
  rw [List.mem_map]
  constructor
  · rintro ⟨d, hd, e⟩; have : d = c := by omega
    subst this; exact hd
  · intro h; exact ⟨c, h, rfl⟩
theorem Pat_init {a : List Nat} {k : Nat} (h : Pat (a ++ [k])) : Pat a ∧ k ≤ szP a a.length := by
  constructor
  · intro j hj
    have := h j (by rw [List.length_append]; show j < a.length + 1; omega)
    rwa [getD_snoc hj, szP_snoc (by omega)] at this
  · have := h a.length (by rw [List.length_append]; show a.length < a.length + 1; omega)
    rwa [getD_last, szP_snoc (Nat.le_refl _)] at this
theorem uq_pat : ∀ {a : List Nat}, Pat a → uq (zI a) = szP a a.length ∧ ∀ c, c < szP a a.length ↔ c ∈ a := fun {a} => by
  refine rev_ind (P := fun a => Pat a → uq (zI a) = szP a a.length ∧ ∀ c, c < szP a a.length ↔ c ∈ a) (fun _ => ⟨rfl, fun c => ⟨fun h => absurd h (Nat.not_lt_zero _), fun h => (by cases h)⟩⟩) (fun a k ih h => ?_) a
  obtain ⟨h1, h2⟩ := Pat_init h
  obtain ⟨i1, i2⟩ := ih h1
  rw [szP_next h2]
  constructor
  · rw [zI_app, show zI [k] = [(k : Int)] from rfl, uq_app, i1]
    by_cases e : k ∈ a
    · rw [if_pos (zI_mem.2 e)]; have := (i2 k).2 e; omega
    · rw [if_neg (fun h => e (zI_mem.1 h))]
      have : ¬ k < szP a a.length := fun h => e ((i2 k).1 h)
      omega
  · intro c
    rw [List.mem_append, ← i2 c, List.mem_singleton]
    omega
theorem few_all {n : Nat} {k : Int} {a : List Nat} (hp : Pat a) (hl : a.length = n) : kpL (4, k, YD n, ()) (zI a) = decide (((szP a a.length : Nat) : Int) ≤ k) := by
  have h := lbls_all (l := zI a)
  rw [zI_len, hl] at h
  unfold kpL
  show kp _ (YV (YD n) (zI a)) (lft (YD n) (zI a)) = _
  rw [h.1, h.2, ← (uq_pat hp).1]; rfl
theorem many_all {n : Nat} {k : Int} {a : List Nat} (hp : Pat a) (hl : a.length = n) : kpL (5, k, YD n, ()) (zI a) = decide (k ≤ ((szP a a.length : Nat) : Int)) := by
  have h := lbls_all (l := zI a)
  rw [zI_len, hl] at h
  unfold kpL
  show kp _ (YV (YD n) (zI a)) (lft (YD n) (zI a)) = _
  rw [h.1, h.2, ← (uq_pat hp).1]
  show decide (k ≤ ((uq (zI a) : Nat) : Int) + ((0 : Nat) : Int)) = _
  rw [Int.natCast_zero, Int.add_zero]
theorem most_all {n : Nat} {k : Int} {a : List Nat} (hl : a.length = n) : kpL (3, k, YD n, ()) (zI a) = decide (((oft (zI a) : Nat) : Int) ≤ k) := by
  have h := lbls_all (l := zI a)
  rw [zI_len, hl] at h
  unfold kpL
  show kp _ (YV (YD n) (zI a)) (lft (YD n) (zI a)) = _
  rw [h.1, h.2]; rfl
theorem allS_succ {n : Nat} : YD (n + 1) = YD n ++ [(n : Int)] := by unfold YD; rw [List.range_succ, zI_app]; rfl
theorem rise_allN {N : Nat} : ∀ {n : Nat}, n ≤ N → YS (N : Int) (-1) (YD n) = true ∧ lst1 (-1) (YD n) = (n : Int) - 1
  | 0, _ => ⟨rfl, rfl⟩
  | n + 1, h => by
    obtain ⟨h1, h2⟩ := rise_allN (N := N) (n := n) (by omega)
    rw [allS_succ]
    refine ⟨?_, ?_⟩
    · rw [riseA_app, h1, h2, Bool.true_and, decide_eq_true_eq]; omega
    · rw [lst1_app]; omega
theorem rck_few {n : Nat} {k : Int} (hn : 1 ≤ n ∧ n ≤ 12) (hk : 1 ≤ k ∧ k ≤ 999999999) : rck n (4, k, YD n, ()) = true ∧ rck n (3, k, YD n, ()) = true := by
  have hr : rise (n : Int) (YD n) = true := (rise_allN (Nat.le_refl n)).1
  constructor
  all_goals
    unfold rck knd
    simp only [Rul.kind, Rul.k, Rul.steps]
    rw [hr, allS_len, decide_eq_true (show (0 : Int) ≤ (n : Int) ∧ (n : Int) ≤ 12 by omega)]
    simp; omega
theorem rck_many {n : Nat} {k : Int} (hn : 1 ≤ n ∧ n ≤ 12) (hk : 1 ≤ k ∧ k ≤ n) : rck n (5, k, YD n, ()) = true := by
  have hr : rise (n : Int) (YD n) = true := (rise_allN (Nat.le_refl n)).1
  unfold rck knd
  simp only [Rul.kind, Rul.k, Rul.steps]
  rw [hr, allS_len, decide_eq_true (show (0 : Int) ≤ (n : Int) ∧ (n : Int) ≤ 12 by omega)]
  simp; omega
theorem erl_few {n : Nat} {k : Int} {a : List Nat} (hn : 1 ≤ n ∧ n ≤ 12) (hk : 1 ≤ k ∧ k ≤ 999999999) (hp : Pat a) (hl : a.length = n) : erl (4, k, YD n, ()) n (zI a) = decide (((szP a a.length : Nat) : Int) ≤ k) := by
  unfold erl; rw [(rck_few hn hk).1, few_all hp hl, zI_len, hl, decide_eq_true (Int.le_refl _), Bool.true_and, Bool.true_and]
theorem erl_most {n : Nat} {k : Int} {a : List Nat} (hn : 1 ≤ n ∧ n ≤ 12) (hk : 1 ≤ k ∧ k ≤ 999999999) (hl : a.length = n) : erl (3, k, YD n, ()) n (zI a) = decide (((oft (zI a) : Nat) : Int) ≤ k) := by
  unfold erl; rw [(rck_few hn hk).2, most_all hl, zI_len, hl, decide_eq_true (Int.le_refl _), Bool.true_and, Bool.true_and]
theorem erl_many {n : Nat} {k : Int} {a : List Nat} (hn : 1 ≤ n ∧ n ≤ 12) (hk : 1 ≤ k ∧ k ≤ n) (hp : Pat a) (hl : a.length = n) : erl (5, k, YD n, ()) n (zI a) = decide (k ≤ ((szP a a.length : Nat) : Int)) := by
  unfold erl; rw [rck_many hn hk, many_all hp hl, zI_len, hl, decide_eq_true (Int.le_refl _), Bool.true_and, Bool.true_and]
set_option autoImplicit false
open Go Go.RowKit
theorem vres_cells3 {T : TypeId → Option VTy} {rs : Array ResultVar} {env : VEnv} {H : Zf} {a1 a2 a3 : Nat} {t1 t2 t3 : TypeId} {y1 y2 y3 : VTy} {b1 o1 b2 o2 b3 o3 : Nat} {cs1 cs2 cs3 : List VVal} {w1 w2 w3 : Bool} {v1 v2 v3 : VVal} (hr : rs = #[.cell a1 t1, .cell a2 t2, .cell a3 t3])
    (h1 : env.getD a1 .skip = .ptr (some (b1, o1))) (h2 : env.getD a2 .skip = .ptr (some (b2, o2))) (h3 : env.getD a3 .skip = .ptr (some (b3, o3)))
    (hy1 : T t1 = some y1) (hd1 : Zo y1.desc = false) (hy2 : T t2 = some y2) (hd2 : Zo y2.desc = false) (hy3 : T t3 = some y3) (hd3 : Zo y3.desc = false) (hb1 : H[b1]? = some (.cells cs1 w1)) (hv1 : cs1[o1]? = some v1) (hb2 : H[b2]? = some (.cells cs2 w2)) (hv2 : cs2[o2]? = some v2) (hb3 : H[b3]? = some (.cells cs3 w3)) (hv3 : cs3[o3]? = some v3) :
    ZV T env H rs = some (.tuple [v1, v2, v3]) := by
  subst hr
  have e1 : vresult T env H (.cell a1 t1) = some v1 := by
    show vload T H t1 (env.getD a1 .skip) = some v1
    rw [h1]; simp only [vload, hy1, vread, hb1, hd1, Bool.false_eq_true, if_false, hv1]
  have e2 : vresult T env H (.cell a2 t2) = some v2 := by
    show vload T H t2 (env.getD a2 .skip) = some v2
    rw [h2]; simp only [vload, hy2, vread, hb2, hd2, Bool.false_eq_true, if_false, hv2]
  have e3 : vresult T env H (.cell a3 t3) = some v3 := by
    show vload T H t3 (env.getD a3 .skip) = some v3
    rw [h3]; simp only [vload, hy3, vread, hb3, hd3, Bool.false_eq_true, if_false, hv3]
  show (List.mapM (vresult T env H) [.cell a1 t1, .cell a2 t2, .cell a3 t3]).map VVal.tuple = _
  simp [List.mapM_cons, e1, e2, e3]
set_option autoImplicit true
set_option maxHeartbeats 1000000
open Go
def fnd (has : List Int) (u : Nat) : Nat → Nat → Nat
  | 0, k => k
  | n + 1, k => if has.getD k 0 = (u : Int) then k else fnd has u n (k + 1)
def fndK (has : List Int) (u : Nat) : Nat := fnd has u has.length 0
theorem fnd_ge {has : List Int} {u : Nat} : ∀ {n k : Nat}, k ≤ fnd has u n k ∧ fnd has u n k ≤ k + n
  | 0, k => by rw [fnd]; omega
  | n + 1, k => by
    rw [fnd]; split
    · omega
    · have := @fnd_ge has u n (k + 1); omega
theorem fnd_no {has : List Int} {u : Nat} : ∀ {n k j : Nat}, k ≤ j → j < fnd has u n k → has.getD j 0 ≠ (u : Int)
  | 0, k, j, h1, h2 => by rw [fnd] at h2; omega
  | n + 1, k, j, h1, h2 => by
    rw [fnd] at h2
    split at h2
    · omega
    · rename_i hk
      by_cases e : j = k
      · subst e; exact hk
      · exact fnd_no (by omega) h2
theorem fnd_at {has : List Int} {u : Nat} : ∀ {n k : Nat}, fnd has u n k < k + n → has.getD (fnd has u n k) 0 = (u : Int)
  | 0, k, h => by rw [fnd] at h; omega
  | n + 1, k, h => by
    rw [fnd] at h ⊢
    split
    · rename_i hk; exact hk
    · rename_i hk; rw [if_neg hk] at h; exact fnd_at (by omega)
theorem fndK_is {has : List Int} {u k : Nat} (hk : k ≤ has.length) (h1 : ∀ j, j < k → has.getD j 0 ≠ (u : Int)) (h2 : k = has.length ∨ has.getD k 0 = (u : Int)) : fndK has u = k := by
  unfold fndK
  have hb := @fnd_ge has u has.length 0
  rcases Nat.lt_trichotomy (fnd has u has.length 0) k with h | h | h
  · exact absurd (fnd_at (by omega)) (h1 _ h)
  · exact h
  · rcases h2 with h2 | h2
    · omega
    · exact absurd h2 (fnd_no (Nat.zero_le _) h)
abbrev HSt : Type := List Int × BitVec 64
def trL (g : Nat → HSt → Bool × HSt) (rows : List (BitVec 64)) (i : Nat) : List Nat → HSt → Bool × HSt
  | [], s => (false, s)
  | u :: l, s =>
    if (rows.getD i 0).getLsbD u = false ∨ s.2.getLsbD u = true then trL g rows i l s
    else if fndK s.1 u = s.1.length then (true, (s.1.set i (u : Int), s.2 ||| 1#64 <<< u))
    else if (g (fndK s.1 u) (s.1, s.2 ||| 1#64 <<< u)).1 = true then (true, ((g (fndK s.1 u) (s.1, s.2 ||| 1#64 <<< u)).2.1.set i (u : Int), (g (fndK s.1 u) (s.1, s.2 ||| 1#64 <<< u)).2.2))
    else trL g rows i l (g (fndK s.1 u) (s.1, s.2 ||| 1#64 <<< u)).2
def trn (rows : List (BitVec 64)) : Nat → Nat → HSt → Bool × HSt
  | 0, _, s => (false, s)
  | n + 1, i, s => trL (trn rows n) rows i (List.range 64) s
structure Cor (n : Nat) (O has : List Int) : Prop where
  hl : has.length = n
  ol : O.length = 64
  to : ∀ k, k < n → has.getD k 0 = -1 ∨ ∃ u : Nat, u < 64 ∧ has.getD k 0 = (u : Int) ∧ O.getD u 0 = (k : Int) + 1
  fr : ∀ u, u < 64 → O.getD u 0 = 0 ∨ ∃ k : Nat, k < n ∧ O.getD u 0 = (k : Int) + 1 ∧ has.getD k 0 = (u : Int)
structure Cor2 (n i : Nat) (S : BitVec 64) (O has O' has' : List Int) : Prop where
  hl : has'.length = n
  ol : O'.length = 64
  to : ∀ k, k < n → has'.getD k 0 = -1 ∨ ∃ u : Nat, u < 64 ∧ has'.getD k 0 = (u : Int) ∧ O'.getD u 0 = (k : Int) + 1
  fr : ∀ u, u < 64 → O'.getD u 0 = 0 ∨ ∃ k : Nat, k < n ∧ O'.getD u 0 = (k : Int) + 1 ∧ (has'.getD k 0 = (u : Int) ∨ (k = i ∧ has.getD i 0 = (u : Int)))
  nw : ∃ u : Nat, u < 64 ∧ has'.getD i 0 = (u : Int) ∧ S.getLsbD u = false
  un : ∀ u, S.getLsbD u = true → O'.getD u 0 = O.getD u 0
  st : ∀ k, k < n → k ≠ i → (has.getD k 0 = -1 ∨ ∃ u : Nat, has.getD k 0 = (u : Int) ∧ S.getLsbD u = true) → has'.getD k 0 = has.getD k 0
theorem Cor.find {n : Nat} {O has : List Int} (c : Cor n O has) {u : Nat} (hu : u < 64) : (O.getD u 0 = 0 ∧ fndK has u = has.length) ∨ ∃ k : Nat, k < n ∧ O.getD u 0 = (k : Int) + 1 ∧ fndK has u = k ∧ has.getD k 0 = (u : Int) := by
  rcases c.fr u hu with h | ⟨k, hk, h1, h2⟩
  · left
    refine ⟨h, fndK_is (Nat.le_refl _) (fun j hj e => ?_) (.inl rfl)⟩
    rw [c.hl] at hj
    rcases c.to j hj with h3 | ⟨v, _, h3, h4⟩
    · rw [e] at h3; omega
    · rw [e] at h3
      have : v = u := by omega
      subst this; omega
  · right
    refine ⟨k, hk, h1, fndK_is (by rw [c.hl]; omega) (fun j hj e => ?_) (.inr h2), h2⟩
    rcases c.to j (by omega) with h3 | ⟨v, _, h3, h4⟩
    · rw [e] at h3; omega
    · rw [e] at h3
      have : v = u := by omega
      subst this; omega
structure Sam (n i : Nat) (O has : List Int) (S : BitVec 64) (p : Bool × GSt) (q : Bool × HSt) : Prop where
  b : p.1 = q.1
  s : p.2.2 = q.2.2
  no : p.1 = false → p.2.1 = O ∧ q.2.1 = has
  yes : p.1 = true → Cor2 n i S O has p.2.1 q.2.1
theorem or1f {w : BitVec 64} {u a : Nat} (hu : u < 64) : (w ||| 1#64 <<< u).getLsbD a = false ↔ w.getLsbD a = false ∧ a ≠ u := by
  have h := or1 (w := w) (a := a) hu
  constructor
  · intro h1
    refine ⟨?_, fun e => ?_⟩
    · cases hw : w.getLsbD a with
      | false => rfl
      | true => rw [h.2 (.inl hw)] at h1; cases h1
    · rw [h.2 (.inr e)] at h1; cases h1
  · rintro ⟨h1, h2⟩
    cases hw : (w ||| 1#64 <<< u).getLsbD a with
    | false => rfl
    | true => rcases h.1 hw with h3 | h3
              · rw [h1] at h3; cases h3
              · exact absurd h3 h2
theorem lists_same {rows : List (BitVec 64)} {n i : Nat} {O has : List Int} (hn : n = rows.length) (hi : i < n) (c : Cor n O has) {S0 : BitVec 64} (hio : has.getD i 0 = -1 ∨ ∃ u : Nat, has.getD i 0 = (u : Int) ∧ S0.getLsbD u = true) {g : Int → GSt → Bool × GSt} {g' : Nat → HSt → Bool × HSt}
    (hg : ∀ (k : Nat) (S : BitVec 64), k < n → subW S0 S → (∃ u : Nat, has.getD k 0 = (u : Int) ∧ S.getLsbD u = true) → Sam n k O has S (g k (O, S)) (g' k (has, S)) ∧ subW S (g k (O, S)).2.2) :
    ∀ {l m : List Nat} {S : BitVec 64}, subW S0 S → (∀ u, u ∈ m → u < 64) → l.Nodup → m.Nodup → (∀ u, u ∈ l ↔ u ∈ m ∧ (rows.getD i 0).getLsbD u = true ∧ S0.getLsbD u = false) → l = m.filter (fun u => (rows.getD i 0).getLsbD u && !S0.getLsbD u) →
      Sam n i O has S0 (grL g i l (O, S)) (trL g' rows i m (has, S))
  | l, [], S, hs, _, _, _, _, he => by
    subst he
    exact ⟨rfl, rfl, fun _ => ⟨rfl, rfl⟩, fun h => by cases h⟩
  | l, u :: m, S, hs, hm, hnl, hnm, hall, he => by
    have hu := hm u (List.mem_cons_self ..)
    have hm' : ∀ v, v ∈ m → v < 64 := fun v hv => hm v (List.mem_cons_of_mem _ hv)
    have hnm' := (List.nodup_cons.1 hnm).2
    have huO : u < O.length := by rw [c.ol]; exact hu
    have hil : i < has.length := by rw [c.hl]; exact hi
    have next : ∀ S', subW S0 S' → Sam n i O has S0 (grL g i (m.filter (fun u => (rows.getD i 0).getLsbD u && !S0.getLsbD u)) (O, S')) (trL g' rows i m (has, S')) := fun S' hS' =>
      lists_same hn hi c hio hg hS' hm' (hnm'.sublist List.filter_sublist) hnm' (fun v => by rw [List.mem_filter]; simp) rfl
    by_cases hb : (rows.getD i 0).getLsbD u && !S0.getLsbD u
    · have hl : l = u :: m.filter (fun u => (rows.getD i 0).getLsbD u && !S0.getLsbD u) := by rw [he, List.filter_cons, if_pos hb]
      rw [Bool.and_eq_true, Bool.not_eq_true'] at hb
      rw [hl, grL, trL]
      by_cases hS : S.getLsbD u = true
      · rw [if_pos hS, if_pos (.inr hS)]; exact next S hs
      · have hSf : S.getLsbD u = false := bool_f hS
        have hcond : ¬ ((rows.getD i 0).getLsbD u = false ∨ S.getLsbD u = true) := fun e => e.elim (fun h => by rw [hb.1] at h; cases h) hS
        simp only [if_neg hS, if_neg hcond]
        have hs1 : subW S0 (S ||| 1#64 <<< u) := fun a ha => (or1 hu).2 (.inl (hs a ha))
        rcases c.find hu with ⟨h0, hf⟩ | ⟨k, hk, h1, hf, h2⟩
        · simp only [if_pos h0, if_pos hf]
          refine ⟨rfl, rfl, (fun h => by cases h), fun _ => ?_⟩
          refine ⟨by rw [List.length_set]; exact c.hl, by rw [List.length_set]; exact c.ol, fun k hk => ?_, fun v hv => ?_, ⟨u, hu, by rw [ZZ hil, if_pos rfl], hb.2⟩, fun v hv => ?_, fun k hk hne _ => by rw [ZZ hil, if_neg hne]⟩
          · rw [ZZ hil]
            by_cases e : k = i
            · subst e; rw [if_pos rfl]; exact .inr ⟨u, hu, rfl, by rw [ZZ huO, if_pos rfl]⟩
            · rw [if_neg e]
              rcases c.to k hk with h3 | ⟨v, hv, h3, h4⟩
              · exact .inl h3
              · exact .inr ⟨v, hv, h3, by rw [ZZ huO, if_neg (fun e2 => by subst e2; omega)]; exact h4⟩
          · rw [ZZ huO]
            by_cases e : v = u
            · subst e; rw [if_pos rfl]; exact .inr ⟨i, hi, rfl, .inl (by rw [ZZ hil, if_pos rfl])⟩
            · rw [if_neg e]
              rcases c.fr v hv with h3 | ⟨k, hk, h3, h4⟩
              · exact .inl h3
              · refine .inr ⟨k, hk, h3, ?_⟩
                by_cases e2 : k = i
                · subst e2; exact .inr ⟨rfl, h4⟩
                · exact .inl (by rw [ZZ hil, if_neg e2]; exact h4)
          · rw [ZZ huO, if_neg (fun e => by subst e; rw [hv] at hb; cases hb.2)]
        · have hne0 : ¬ O.getD u 0 = 0 := by omega
          have hkl : ¬ fndK has u = has.length := by rw [hf, c.hl]; omega
          have e1 : O.getD u 0 - 1 = (k : Int) := by omega
          simp only [if_neg hne0, if_neg hkl, hf, e1]
          obtain ⟨sm, ssub⟩ := hg k (S ||| 1#64 <<< u) hk hs1 ⟨u, h2, (or1 hu).2 (.inr rfl)⟩
          have hki : k ≠ i := fun e => by
            subst e
            rcases hio with h3 | ⟨v, h3, h4⟩
            · omega
            · have : v = u := by omega
              subst this; rw [h4] at hb; cases hb.2
          cases hgb : (g k (O, S ||| 1#64 <<< u)).1 with
          | false =>
            have hgb' : (g' k (has, S ||| 1#64 <<< u)).1 = false := by rw [← sm.b]; exact hgb
            have hkn : ¬ k = has.length := by rw [c.hl]; omega
            simp only [hgb', Bool.false_eq_true, if_false, if_neg hkn]
            obtain ⟨n1, n2⟩ := sm.no hgb
            have es : (g k (O, S ||| 1#64 <<< u)).2 = (O, (g k (O, S ||| 1#64 <<< u)).2.2) := Prod.ext n1 rfl
            have es' : (g' k (has, S ||| 1#64 <<< u)).2 = (has, (g k (O, S ||| 1#64 <<< u)).2.2) := Prod.ext n2 sm.s.symm
            rw [es, es']
            exact next _ fun a ha => ssub a (hs1 a ha)
          | true =>
            have hgb' : (g' k (has, S ||| 1#64 <<< u)).1 = true := by rw [← sm.b]; exact hgb
            have hkn : ¬ k = has.length := by rw [c.hl]; omega
            simp only [hgb', if_true, if_neg hkn]
            have y := sm.yes hgb
            have hO1 : u < (g k (O, S ||| 1#64 <<< u)).2.1.length := by rw [y.ol]; exact hu
            have hi1 : i < (g' k (has, S ||| 1#64 <<< u)).2.1.length := by rw [y.hl]; exact hi
            have hOu : (g k (O, S ||| 1#64 <<< u)).2.1.getD u 0 = (k : Int) + 1 := by rw [y.un u ((or1 hu).2 (.inr rfl))]; exact h1
            obtain ⟨w, hw, hw1, hw2⟩ := y.nw
            have hwu : w ≠ u := ((or1f hu).1 hw2).2
            refine ⟨rfl, sm.s, (fun h => by cases h), fun _ => ?_⟩
            refine ⟨by rw [List.length_set]; exact y.hl, by rw [List.length_set]; exact y.ol, fun j hj => ?_, fun v hv => ?_, ⟨u, hu, by rw [ZZ hi1, if_pos rfl], hb.2⟩, fun v hv => ?_, fun j hj hne hst => ?_⟩
            · rw [ZZ hi1]
              by_cases e : j = i
              · subst e; rw [if_pos rfl]; exact .inr ⟨u, hu, rfl, by rw [ZZ hO1, if_pos rfl]⟩
              · rw [if_neg e]
                rcases y.to j hj with h3 | ⟨v, hv, h3, h4⟩
                · exact .inl h3
                · refine .inr ⟨v, hv, h3, ?_⟩
                  rw [ZZ hO1, if_neg (fun e2 => by
                    subst e2
                    have : j = k := by omega
                    subst this
                    omega)]; exact h4
            · rw [ZZ hO1]
              by_cases e : v = u
              · subst e; rw [if_pos rfl]; exact .inr ⟨i, hi, rfl, .inl (by rw [ZZ hi1, if_pos rfl])⟩
              · rw [if_neg e]
                rcases y.fr v hv with h3 | ⟨j, hj, h3, h4⟩
                · exact .inl h3
                · refine .inr ⟨j, hj, h3, ?_⟩
                  have h5 : (g' k (has, S ||| 1#64 <<< u)).2.1.getD j 0 = (v : Int) := by
                    rcases h4 with h4 | ⟨_, h4⟩
                    · exact h4
                    · omega
                  by_cases e2 : j = i
                  · subst e2
                    right
                    refine ⟨rfl, ?_⟩
                    have := y.st j hj (fun e => hki e.symm) (hio.imp id fun ⟨x, h6, h7⟩ => ⟨x, h6, (or1 hu).2 (.inl (hs x h7))⟩)
                    rw [← this]; exact h5
                  · exact .inl (by rw [ZZ hi1, if_neg e2]; exact h5)
            · rw [ZZ hO1, if_neg (fun e => by subst e; rw [hv] at hb; cases hb.2)]
              exact y.un v ((or1 hu).2 (.inl (hs v hv)))
            · rw [ZZ hi1, if_neg hne]
              by_cases e : j = k
              · subst e
                rcases hst with h3 | ⟨x, h3, h4⟩
                · omega
                · have : x = u := by omega
                  subst this; rw [h4] at hb; cases hb.2
              · exact y.st j hj e (hst.imp id fun ⟨x, h6, h7⟩ => ⟨x, h6, (or1 hu).2 (.inl (hs x h7))⟩)
    · have hl : l = m.filter (fun u => (rows.getD i 0).getLsbD u && !S0.getLsbD u) := by rw [he, List.filter_cons, if_neg hb]
      rw [hl, trL, if_pos ?_]
      · exact next S hs
      · cases hr : (rows.getD i 0).getLsbD u with
        | false => exact .inl rfl
        | true =>
          right
          cases hS0 : S0.getLsbD u with
          | true => exact hs u hS0
          | false => rw [hr, hS0] at hb; simp at hb
theorem grL_sub {g : Int → GSt → Bool × GSt} (hg : ∀ r s, subW s.2 (g r s).2.2) {row : Int} : ∀ {l : List Nat} {s : GSt}, (∀ u, u ∈ l → u < 64) → subW s.2 (grL g row l s).2.2
  | [], s, _ => fun _ h => h
  | u :: l, s, h => by
    have hu := h u (List.mem_cons_self ..)
    have h' : ∀ v, v ∈ l → v < 64 := fun v hv => h v (List.mem_cons_of_mem _ hv)
    have h1 : subW s.2 (s.2 ||| 1#64 <<< u) := fun a ha => (or1 hu).2 (.inl ha)
    have h2 := hg (s.1.getD u 0 - 1) (s.1, s.2 ||| 1#64 <<< u)
    rw [grL]
    split
    · exact grL_sub hg h'
    · split
      · exact h1
      · split
        · exact fun a ha => h2 a (h1 a ha)
        · exact fun a ha => grL_sub hg h' a (h2 a (h1 a ha))
theorem grw_sub {rows : List (BitVec 64)} : ∀ {n : Nat} {row : Int} {s : GSt}, subW s.2 (grw rows n row s).2.2
  | 0, row, s => fun _ h => h
  | n + 1, row, s => by
    rw [grw]
    exact grL_sub (fun r s => grw_sub) fun u hu => (mem_pl.1 hu).2.1
theorem trn_same {rows : List (BitVec 64)} : ∀ {N i : Nat} {O has : List Int} {S : BitVec 64}, i < rows.length → Cor rows.length O has → (has.getD i 0 = -1 ∨ ∃ u : Nat, has.getD i 0 = (u : Int) ∧ S.getLsbD u = true) →
    Sam rows.length i O has S (grw rows N i (O, S)) (trn rows N i (has, S))
  | 0, i, O, has, S, _, _, _ => ⟨rfl, rfl, fun _ => ⟨rfl, rfl⟩, fun h => by cases h⟩
  | N + 1, i, O, has, S, hi, c, hio => by
    rw [grw, trn]
    have hpl : pl (rows.getD ((i : Nat) : Int).toNat 0 &&& ~~~S) 0 = (List.range 64).filter (fun u => (rows.getD i 0).getLsbD u && !S.getLsbD u) := by
      unfold pl
      rw [← List.range_eq_range']
      apply List.filter_congr
      intro u hu
      rw [Int.toNat_natCast, BitVec.getLsbD_and, BitVec.getLsbD_not, decide_eq_true (List.mem_range.1 hu), Bool.true_and]
    refine lists_same rfl hi c hio (fun k S' hk hs hio' => ⟨trn_same hk c (.inr hio'), grw_sub (s := (O, S'))⟩) (fun _ h => h) (fun u hu => List.mem_range.1 hu) (pl_nodup _) List.nodup_range (fun u => ?_) hpl
    rw [hpl, List.mem_filter]; simp
def rsz (rows : List (BitVec 64)) : Nat → List Int × Nat
  | 0 => (List.replicate rows.length (-1), 0)
  | k + 1 => ((trn rows 65 k ((rsz rows k).1, 0#64)).2.1, if (trn rows 65 k ((rsz rows k).1, 0#64)).1 = true then (rsz rows k).2 + 1 else (rsz rows k).2)
theorem rep_getD {α : Type} {n k : Nat} {a d : α} (h : k < n) : (List.replicate n a).getD k d = a := by
  rw [List.getD_eq_getElem?_getD, List.getElem?_replicate, if_pos h]; rfl
theorem rsz_cor {rows : List (BitVec 64)} : ∀ {k : Nat}, k ≤ rows.length → Cor rows.length (szO rows k).1 (rsz rows k).1 ∧ (rsz rows k).2 = (szO rows k).2 ∧ ∀ j, k ≤ j → j < rows.length → (rsz rows k).1.getD j 0 = -1
  | 0, _ => by
    refine ⟨⟨by simp [rsz], by simp [szO], fun j hj => .inl (rep_getD hj), fun u hu => .inl (rep_getD hu)⟩, rfl, fun j _ hj => rep_getD hj⟩
  | k + 1, h => by
    obtain ⟨c, h1, h2⟩ := rsz_cor (rows := rows) (show k ≤ rows.length by omega)
    have hk : k < rows.length := by omega
    have hm := h2 k (Nat.le_refl _) hk
    have sm := trn_same (N := 65) (S := 0#64) hk c (.inl hm)
    rw [rsz, szO]
    simp only
    cases hb : (grw rows 65 k ((szO rows k).1, 0#64)).1 with
    | false =>
      obtain ⟨n1, n2⟩ := sm.no hb
      rw [← sm.b, hb, n1, n2]
      exact ⟨c, by simpa using h1, fun j hj hj' => h2 j (by omega) hj'⟩
    | true =>
      have y := sm.yes hb
      rw [← sm.b, hb]
      refine ⟨⟨y.hl, y.ol, y.to, fun u hu => ?_⟩, by simp [h1], fun j hj hj' => ?_⟩
      · rcases y.fr u hu with h3 | ⟨j, hj, h3, h4 | ⟨rfl, h4⟩⟩
        · exact .inl h3
        · exact .inr ⟨j, hj, h3, h4⟩
        · omega
      · rw [y.st j hj' (by omega) (.inl (h2 j (by omega) hj'))]; exact h2 j (by omega) hj'
theorem rsz_all {rows : List (BitVec 64)} : (rsz rows rows.length).2 = szN rows := (rsz_cor (Nat.le_refl _)).2.1
open Go
def erlA (n : Nat) (rs : List Rul) (a : List Nat) : Bool := rs.all fun r => erl r n (zI a)
def plO (ws : List (BitVec 64)) (a : List Nat) : Option (List Nat) := if Yp (Yb ws a a.length) 0#64 = true then some (plN a (lst (Yb ws a a.length) 0#64)) else none
def srF (ws : List (BitVec 64)) (rs : List Rul) : Nat → List Nat → Option (List Nat)
  | 0, a => if erlA ws.length rs a = true then plO ws a else none
  | m + 1, a => if erlA ws.length rs a = true then (List.range (szP a a.length + 1)).findSome? fun b => srF ws rs m (a ++ [b]) else none
def srR (ws : List (BitVec 64)) (rs : List Rul) (m : Nat) (a : List Nat) (b : Nat) : Option (List Nat) := ((List.range (szP a a.length + 1)).drop b).findSome? fun b => srF ws rs m (a ++ [b])
section
variable {ws : List (BitVec 64)} {rs : List Rul} {m : Nat} {a : List Nat} {b : Nat}
theorem srR_end (h : szP a a.length < b) : srR ws rs m a b = none := by
  unfold srR; rw [List.drop_eq_nil_of_le (by simp; omega)]; rfl
theorem srR_yes (h : b ≤ szP a a.length) {l : List Nat} (h1 : srF ws rs m (a ++ [b]) = some l) : srR ws rs m a b = some l := by
  unfold srR; rw [range_drop (by omega), List.findSome?_cons, h1]
theorem srR_no (h : b ≤ szP a a.length) (h1 : srF ws rs m (a ++ [b]) = none) : srR ws rs m a b = srR ws rs m a (b + 1) := by
  unfold srR; rw [range_drop (by omega), List.findSome?_cons, h1]
theorem srF_R (h : erlA ws.length rs a = true) : srF ws rs (m + 1) a = srR ws rs m a 0 := by
  unfold srR; rw [srF, if_pos h]; rfl
theorem srF_0 (h : erlA ws.length rs a = true) : srF ws rs 0 a = plO ws a := by rw [srF, if_pos h]
theorem srF_e (h : erlA ws.length rs a = false) : ∀ {m : Nat}, srF ws rs m a = none
  | 0 => by rw [srF, if_neg (by rw [h]; decide)]
  | m + 1 => by rw [srF, if_neg (by rw [h]; decide)]
end
theorem findSome_flat {α β γ : Type} {f : α → List β} {p : β → Bool} {g : β → γ} : ∀ {l : List α}, ((l.flatMap f).find? p).map g = l.findSome? fun x => ((f x).find? p).map g
  | [] => rfl
  | x :: l => by
    rw [List.flatMap_cons, List.find?_append, List.findSome?_cons]
    cases h : (f x).find? p with
    | some y => rfl
    | none => show ((none.or ((l.flatMap f).find? p)).map g) = _; rw [Option.none_or, findSome_flat]; rfl
theorem findSome_congr {β γ : Type} {f g : β → Option γ} : ∀ {l : List β}, (∀ x, x ∈ l → f x = g x) → l.findSome? f = l.findSome? g
  | [], _ => rfl
  | x :: l, h => by
    rw [List.findSome?_cons, List.findSome?_cons, h x (List.mem_cons_self ..), findSome_congr fun y hy => h y (List.mem_cons_of_mem _ hy)]
def accB (ws : List (BitVec 64)) (rs : List Rul) (a : List Nat) : Bool := erlA ws.length rs a && Yp (Yb ws a a.length) 0#64
theorem srF_find {ws : List (BitVec 64)} {rs : List Rul} : ∀ {m : Nat} {a : List Nat}, Pat a → srF ws rs m a = ((pats m a (szP a a.length)).find? (accB ws rs)).map fun a => plN a (lst (Yb ws a a.length) 0#64)
  | 0, a, _ => by
    rw [pats, srF, List.find?_singleton]
    unfold accB plO
    cases erlA ws.length rs a
    · rfl
    · cases Yp (Yb ws a a.length) 0#64 <;> rfl
  | m + 1, a, ha => by
    rw [pats]
    by_cases h : erlA ws.length rs a = true
    · rw [srF, if_pos h, findSome_flat]
      apply findSome_congr
      intro b hb
      have hb := List.mem_range.1 hb
      rw [srF_find (Pat_snoc ha (by omega)), szP_next (by omega)]
    · rw [srF_e (Bool.eq_false_iff.2 h)]
      have : ((List.range (szP a a.length + 1)).flatMap fun x => pats m (a ++ [x]) (max (szP a a.length) (x + 1))).find? (accB ws rs) = none := by
        rw [List.find?_eq_none]
        intro c hc hacc
        apply h
        rw [List.mem_flatMap] at hc
        obtain ⟨x, _, hc⟩ := hc
        obtain ⟨z, rfl, _⟩ := pats_len hc
        unfold accB at hacc
        rw [Bool.and_eq_true] at hacc
        unfold erlA at hacc ⊢
        rw [List.all_eq_true] at hacc ⊢
        intro r hr
        have h2 := erl_pre (k := a.length) (hacc.1 r hr)
        rw [← zI_take, List.append_assoc, List.take_left] at h2
        exact h2
      rw [this]; rfl
theorem srF_fd {u : Nat} {ws : List (BitVec 64)} {rs : List Rul} (hr : ∀ r, r ∈ rs → rck ws.length r = true) : srF ws rs ws.length [] = fdA u ws (addR ws.length rs rs.length) := by
  rw [srF_find Pat_nil]
  unfold fdA
  rw [frm_find]
  congr 1
  apply find_eq
  intro a ha
  obtain ⟨z, hz, hl⟩ := pats_len ha
  rw [List.nil_append] at hz; subst hz
  have hp := pats_pat Pat_nil ha
  rw [Bool.eq_iff_iff, show (List.nil : List Nat).length = 0 from rfl, kept_iff hp hl hr]
  unfold accB erlA
  rw [Bool.and_eq_true, List.all_eq_true, fullB_iff, msk_0]
  exact ⟨fun h => ⟨h.2, h.1⟩, fun h => ⟨h.2, h.1⟩⟩
theorem pat_onto {a : List Nat} : ∀ {k : Nat}, (∀ i, i < k → a.getD i 0 ≤ szP a i) → ∀ {b : Nat}, b < szP a k → ∃ i, i < k ∧ a.getD i 0 = b
  | 0, _, b, h => absurd h (by simp [szP])
  | k + 1, hp, b, h => by
    by_cases e : b < szP a k
    · obtain ⟨i, hi, h1⟩ := pat_onto (fun i hi => hp i (by omega)) e
      exact ⟨i, by omega, h1⟩
    · rw [szP] at h
      split at h
      · rename_i h2; exact ⟨k, by omega, by omega⟩
      · omega
set_option autoImplicit false
open Go
def Z7 (most : BitVec 64) (n : Nat) : BitVec 64 := BitVec.ofNat 64 (min most.toNat n)
theorem Yv {most : BitVec 64} {n : Nat} : (Z7 most n).toNat = min most.toNat n := by
  unfold Z7
  rw [BitVec.toNat_ofNat, Nat.mod_eq_of_lt]
  have := most.isLt; omega
theorem satW_0 {most : BitVec 64} : Z7 most 0 = 0#64 := by apply BitVec.eq_of_toNat_eq; rw [Yv]; simp
theorem satW_step {most : BitVec 64} {n c : Nat} : Z7 most n + Z7 (most - Z7 most n) c = Z7 most (n + c) := by
  apply BitVec.eq_of_toNat_eq
  have h1 := @Yv most n
  have hlt := most.isLt
  rw [BitVec.toNat_add, Yv, Yv, Yv, BitVec.toNat_sub, h1]
  omega
theorem satW_full {most : BitVec 64} {n k : Nat} (h : Z7 most n = most) (hk : n ≤ k) : Z7 most k = most := by
  apply BitVec.eq_of_toNat_eq
  have := congrArg BitVec.toNat h
  rw [Yv] at this ⊢
  omega
set_option autoImplicit true
open Go
theorem sum_add {α : Type} {f g : α → Nat} : ∀ {l : List α}, (l.map fun a => f a + g a).sum = (l.map f).sum + (l.map g).sum
  | [] => rfl
  | a :: l => by simp only [List.map_cons, List.sum_cons, sum_add (l := l)]; omega
theorem sum_zero {α : Type} {f : α → Nat} : ∀ {l : List α}, (∀ a, a ∈ l → f a = 0) → (l.map f).sum = 0
  | [], _ => rfl
  | a :: l, h => by simp only [List.map_cons, List.sum_cons, h a (List.mem_cons_self ..), sum_zero fun b hb => h b (List.mem_cons_of_mem _ hb)]
theorem sum_swap {α β : Type} {f : α → β → Nat} {m : List β} : ∀ {l : List α}, (l.map fun a => (m.map fun b => f a b).sum).sum = (m.map fun b => (l.map fun a => f a b).sum).sum
  | [] => by simp only [List.map_nil, List.sum_nil]; exact (sum_zero fun _ _ => rfl).symm
  | a :: l => by simp only [List.map_cons, List.sum_cons, sum_swap (l := l), sum_add]
def cnT : List (BitVec 64) → BitVec 64 → Nat
  | [], _ => 1
  | w :: l, t => ((pl (w &&& ~~~t) 0).map fun u => cnT l (t ||| 1#64 <<< u)).sum
def cnI (rows : List (BitVec 64)) (u : Nat) : List Nat → BitVec 64 → Nat
  | [], _ => 1
  | i :: L, t => (((pl (rows.getD i 0 &&& ~~~t) 0).filter fun v => decide (v < u)).map fun v => cnI rows u L (t ||| 1#64 <<< v)).sum
theorem cI_64 {rows : List (BitVec 64)} : ∀ {L : List Nat} {t : BitVec 64}, cnI rows 64 L t = cnT (L.map fun i => rows.getD i 0) t
  | [], _ => rfl
  | i :: L, t => by
    rw [cnI, List.map_cons, cnT]
    rw [List.filter_eq_self.2 fun v hv => decide_eq_true (mem_pl.1 hv).2.1]
    simp only [cI_64]
theorem cI_gone {rows : List (BitVec 64)} {u : Nat} (hu : u < 64) : ∀ {L : List Nat} {t t' : BitVec 64}, (∀ v, v < u → t'.getLsbD v = t.getLsbD v) → t'.getLsbD u = true → cnI rows (u + 1) L t' = cnI rows u L t
  | [], _, _, _, _ => rfl
  | i :: L, t, t', h, hu' => by
    rw [cnI, cnI]
    have e : (pl (rows.getD i 0 &&& ~~~t') 0).filter (fun v => decide (v < u + 1)) = (pl (rows.getD i 0 &&& ~~~t) 0).filter fun v => decide (v < u) := by
      unfold pl
      rw [List.filter_filter, List.filter_filter]
      apply List.filter_congr
      intro v hv
      have hv64 : v < 64 := by rw [List.mem_range'] at hv; omega
      rw [BitVec.getLsbD_and, BitVec.getLsbD_and, BitVec.getLsbD_not, BitVec.getLsbD_not]
      by_cases h1 : v < u
      · rw [h v h1, decide_eq_true h1, decide_eq_true (show v < u + 1 by omega)]
      · by_cases h2 : v = u
        · subst h2; rw [hu']; simp
        · rw [decide_eq_false h1, decide_eq_false (show ¬ v < u + 1 by omega)]; simp
    rw [e]
    congr 1
    apply List.map_congr_left
    intro v hv
    have hv := (List.mem_filter.1 hv)
    have hvu : v < u := by simpa using hv.2
    refine cI_gone hu (fun x hx => ?_) ?_
    · rw [BitVec.getLsbD_or, BitVec.getLsbD_or, h x hx]
    · rw [BitVec.getLsbD_or, hu']; rfl
theorem pl_split {w : BitVec 64} {u : Nat} (hu : u < 64) : (pl w 0).filter (fun v => decide (v < u + 1)) = (pl w 0).filter (fun v => decide (v < u)) ++ if w.getLsbD u = true then [u] else [] := by
  have e1 : pl w 0 = pl w 0 := rfl
  have hsp : (List.range' 0 64).filter w.getLsbD = (List.range' 0 u).filter w.getLsbD ++ (List.range' u (64 - u)).filter w.getLsbD := by
    have h : List.range' 0 u ++ List.range' (0 + u) (64 - u) = List.range' 0 64 := by
      rw [List.range'_append_1]; congr 1; omega
    rw [Nat.zero_add] at h
    rw [← h, List.filter_append]
  have hlo : ∀ n, u ≤ n → ((List.range' 0 u).filter w.getLsbD).filter (fun v => decide (v < n)) = (List.range' 0 u).filter w.getLsbD := fun n hn => List.filter_eq_self.2 fun v hv => decide_eq_true (by
    have := (List.mem_filter.1 hv).1
    rw [List.mem_range'] at this; omega)
  have hhi : ((List.range' u (64 - u)).filter w.getLsbD).filter (fun v => decide (v < u)) = [] := List.filter_eq_nil_iff.2 fun v hv => by
    have := (List.mem_filter.1 hv).1
    rw [List.mem_range'] at this; simp; omega
  have hhi1 : ((List.range' u (64 - u)).filter w.getLsbD).filter (fun v => decide (v < u + 1)) = if w.getLsbD u = true then [u] else [] := by
    rw [show 64 - u = (63 - u) + 1 by omega, List.range'_succ, List.filter_cons]
    have hrest : ((List.range' (u + 1) (63 - u)).filter w.getLsbD).filter (fun v => decide (v < u + 1)) = [] := List.filter_eq_nil_iff.2 fun v hv => by
      have := (List.mem_filter.1 hv).1
      rw [List.mem_range'] at this; simp; omega
    split
    · rw [List.filter_cons, if_pos (by simp), hrest]
    · exact hrest
  unfold pl
  rw [show 64 - 0 = 64 from rfl, hsp, List.filter_append, List.filter_append, hlo _ (by omega), hlo _ (Nat.le_refl _), hhi, hhi1, List.append_nil]
theorem cI_step {rows : List (BitVec 64)} {u : Nat} (hu : u < 64) : ∀ {L : List Nat} {t : BitVec 64}, L.Nodup → t.getLsbD u = false → cnI rows (u + 1) L t = cnI rows u L t + ((L.filter fun i => (rows.getD i 0).getLsbD u).map fun i => cnI rows u (L.erase i) t).sum
  | [], t, _, _ => rfl
  | i :: L, t, hn, ht => by
    have hn' := List.nodup_cons.1 hn
    have hbit : (rows.getD i 0 &&& ~~~t).getLsbD u = (rows.getD i 0).getLsbD u := by
      rw [BitVec.getLsbD_and, BitVec.getLsbD_not, ht]; simp [hu]
    have hstep : ∀ v, v ∈ (pl (rows.getD i 0 &&& ~~~t) 0).filter (fun v => decide (v < u)) → cnI rows (u + 1) L (t ||| 1#64 <<< v) = cnI rows u L (t ||| 1#64 <<< v) + ((L.filter fun i => (rows.getD i 0).getLsbD u).map fun j => cnI rows u (L.erase j) (t ||| 1#64 <<< v)).sum := fun v hv => by
      have hvu : v < u := by simpa using (List.mem_filter.1 hv).2
      exact cI_step hu hn'.2 (by rw [BitVec.getLsbD_or, ht, shl_bit]; simp; omega)
    have herase : ∀ j, j ∈ L.filter (fun i => (rows.getD i 0).getLsbD u) → cnI rows u ((i :: L).erase j) t = cnI rows u (i :: L.erase j) t := fun j hj => by
      have hji : ¬ i = j := fun e => hn'.1 (e ▸ (List.mem_filter.1 hj).1)
      rw [List.erase_cons, if_neg (by simpa using hji)]
    rw [cnI, pl_split hu, List.map_append, List.sum_append, List.map_congr_left hstep, sum_add, sum_swap, hbit]
    rw [List.filter_cons]
    by_cases hr : (rows.getD i 0).getLsbD u = true
    · have hg : cnI rows (u + 1) L (t ||| 1#64 <<< u) = cnI rows u L t := cI_gone hu (fun v hv => by rw [BitVec.getLsbD_or, shl_bit]; simp; omega) (by rw [BitVec.getLsbD_or, shl_bit]; simp [hu])
      simp only [if_pos hr, List.map_cons, List.map_nil, List.sum_cons, List.sum_nil, List.erase_cons_head, hg]
      rw [List.map_congr_left herase]
      simp only [cnI]
      omega
    · simp only [if_neg hr, List.map_nil, List.sum_nil]
      rw [List.map_congr_left herase]
      simp only [cnI]
      omega
def idx (n s : Nat) : List Nat := (List.range n).filter s.testBit
theorem idx_nodup {n s : Nat} : (idx n s).Nodup := List.Nodup.sublist List.filter_sublist List.nodup_range
theorem idx_erase {n s i s' : Nat} (h : ∀ j, s'.testBit j = (s.testBit j && decide (j ≠ i))) : (idx n s).erase i = idx n s' := by
  rw [List.Nodup.erase_eq_filter idx_nodup]
  unfold idx
  rw [List.filter_filter]
  apply List.filter_congr
  intro j _
  rw [h j, Bool.and_comm]
  congr 1
  by_cases e : j = i
  · subst e; simp
  · simp [e]
end Go.V
