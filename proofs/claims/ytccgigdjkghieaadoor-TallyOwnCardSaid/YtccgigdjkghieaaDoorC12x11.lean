/- Proved: Rows.TallyOwnCardSaid, the statement TallyOwn with its card, of the given program at the commit; no conditions beyond those in the statement. -/
import Derived.Test.YtccgigdjkghieaaDoorC12x10
import Derived.Lib.TrailingZeros
set_option autoImplicit false
set_option linter.unusedVariables false
namespace Go.V
open Go
def nx (w : BitVec 64) : Int := if w = 0#64 then -1 else (Lib.ctz 64 w.toNat : Nat)
def bel (i : Int) : BitVec 64 := if i ≤ 0 then 0#64 else if 64 ≤ i then ~~~0#64 else 1#64 <<< i.toNat - 1#64
theorem nx_bits (w : BitVec 64) : (w = 0#64 ∧ nx w = -1) ∨ (∃ c : Nat, nx w = c ∧ c < 64 ∧ w.getLsbD c = true ∧ ∀ j, j < c → w.getLsbD j = false) := by
 by_cases h : w = 0#64
 ·exact .inl ⟨h, if_pos h⟩
 right
 have h0 : 0 < w.toNat := by
  rcases Nat.eq_zero_or_pos w.toNat with e | e
  ·exact absurd (BitVec.eq_of_toNat_eq (by simpa using e)) h
  exact e
 obtain ⟨m, h1, h2⟩ := Lib.ctzFrom_spec 64 w.toNat h0 w.isLt
 have hc : Lib.ctz 64 w.toNat = Lib.ctzFrom 64 w.toNat := by unfold Lib.ctz; rw [if_neg (by omega)]
 have hn : nx w = (Lib.ctzFrom 64 w.toNat : Nat) := by unfold nx; rw [if_neg h, hc]
 generalize Lib.ctzFrom 64 w.toNat = c at h1 h2 hn
 refine ⟨c, hn, h2, ?_, fun j hj => ?_⟩
 ·rw [← BitVec.testBit_toNat, h1, Nat.testBit_two_pow_mul]
  simp
 rw [← BitVec.testBit_toNat, h1, Nat.testBit_two_pow_mul]
 simp; omega
theorem bel_bit (k j : Nat) : (bel k).getLsbD j = (decide (j < k) && decide (j < 64)) := by
 unfold bel
 by_cases h0 : (k : Int) ≤ 0
 ·rw [if_pos h0]
  have : k = 0 := by omega
  subst this; simp
 rw [if_neg h0]
 by_cases h1 : (64 : Int) ≤ k
 ·rw [if_pos h1]
  rw [BitVec.getLsbD_not]
  by_cases hj : j < 64
  ·have : j < k := by omega
   rw [decide_eq_true hj, decide_eq_true this, BitVec.getLsbD_zero]; rfl
  rw [decide_eq_false hj, Bool.and_false, Bool.false_and]
 rw [if_neg h1]
 have hk : k < 64 := by omega
 rw [← BitVec.testBit_toNat, BitVec.toNat_sub, BitVec.toNat_shiftLeft]
 have e1 : (1 : Nat) <<< k % 2 ^ 64 = 2 ^ k := by
  rw [Nat.shiftLeft_eq, Nat.one_mul]
  exact Nat.mod_eq_of_lt (Nat.pow_lt_pow_right (by omega) hk)
 have e2 : (2 ^ 64 - (1#64).toNat + 1 <<< k % 2 ^ 64) % 2 ^ 64 = 2 ^ k - 1 := by
  rw [e1]
  have : 0 < 2 ^ k := Nat.two_pow_pos k
  have : 2 ^ k < 2 ^ 64 := Nat.pow_lt_pow_right (by omega) hk
  simp only [BitVec.toNat_ofNat]
  omega
 have e3 : (1#64).toNat <<< (k : Int).toNat = 1 <<< k := by simp
 rw [e3, e2, Nat.testBit_two_pow_sub_one]
 by_cases hj : j < k
 ·have : j < 64 := by omega
  simp [hj, this]
 simp [hj]
def pl (w : BitVec 64) (k : Nat) : List Nat := (List.range' k (64 - k)).filter w.getLsbD
theorem QL (w : BitVec 64) (k : Nat) : pl w k = if k < 64 then (if w.getLsbD k = true then k :: pl w (k + 1) else pl w (k + 1)) else [] := by
 unfold pl
 by_cases h : k < 64
 ·rw [if_pos h]
  have : 64 - k = (64 - (k + 1)) + 1 := by omega
  rw [this, List.range'_succ, List.filter_cons]
 rw [if_neg h]
 have : 64 - k = 0 := by omega
 rw [this]; rfl
theorem pl_skip (w : BitVec 64) : ∀ (n k : Nat), (∀ j, k ≤ j → j < k + n → w.getLsbD j = false) → pl w k = pl w (k + n)
 | 0, k, _ => rfl
 | n + 1, k, h => by
  rw [QL, h k (by omega) (by omega)]
  have := pl_skip w n (k + 1) (fun j h1 h2 => h j (by omega) (by omega))
  rw [this, show k + 1 + n = k + (n + 1) from by omega]
  split
  ·rfl
  rename_i hk
  rw [QL, if_neg (by omega)]
theorem pl_next (w : BitVec 64) (k : Nat) : (nx (w &&& ~~~bel k) = -1 ∧ pl w k = []) ∨ (∃ c : Nat, nx (w &&& ~~~bel k) = c ∧ k ≤ c ∧ c < 64 ∧ w.getLsbD c = true ∧ pl w k = c :: pl w (c + 1)) := by
 have hb : ∀ j, j < 64 → (w &&& ~~~bel k).getLsbD j = (w.getLsbD j && decide (k ≤ j)) := by
  intro j hj
  rw [BitVec.getLsbD_and, BitVec.getLsbD_not, bel_bit]
  by_cases h : j < k
  ·simp [hj, h, show ¬ k ≤ j from by omega]
  simp [hj, h, show k ≤ j from by omega]
 rcases nx_bits (w &&& ~~~bel k) with ⟨h1, h2⟩ | ⟨c, h1, h2, h3, h4⟩
 ·refine .inl ⟨h2, ?_⟩
  have : ∀ j, k ≤ j → j < k + (64 - k) → w.getLsbD j = false := by
   intro j hj hj2
   by_cases h64 : j < 64
   ·have := hb j h64
    rw [h1] at this
    simp [hj] at this
    exact this
   exact BitVec.getLsbD_of_ge _ _ (by omega)
  rw [pl_skip w _ k this, QL, if_neg (by omega)]
 refine .inr ⟨c, h1, ?_⟩
 rw [hb c h2] at h3
 simp only [Bool.and_eq_true, decide_eq_true_eq] at h3
 refine ⟨h3.2, h2, h3.1, ?_⟩
 have : ∀ j, k ≤ j → j < k + (c - k) → w.getLsbD j = false := by
  intro j hj hj2
  have := h4 j (by omega)
  rw [hb j (by omega)] at this
  simpa [hj] using this
 rw [pl_skip w _ k this, show k + (c - k) = c from by omega, QL, if_pos h2, if_pos h3.1]
theorem pl_next' (w : BitVec 64) (k : Nat) : (nx (w &&& ~~~bel k) = -1 ∧ pl w k = []) ∨ ∃ c : Nat, nx (w &&& ~~~bel k) = c ∧ c < 64 ∧ pl w k = c :: pl w (c + 1) := by
 rcases pl_next w k with h | ⟨c, h1, _, h3, _, h5⟩
 ·exact .inl h
 exact .inr ⟨c, h1, h3, h5⟩
open Go Go.RowKit
section
variable {S : Sys} {H0 H : Ze} {rd : Option Nat} {env : VEnv} {Q : XV}
def Iter (S : Sys) (l : Nat) : List VVal → Ze → (Ze → Prop) → Prop
 | [], G, R => R G
 | x :: xs, G, R => Fv S (.yield l) [x] G fun v G' => ∃ b, v = .bool b ∧ if b = true then Iter S l xs G' R else R G'
theorem B_rangeL {f1 : FuncId} {caps : List VVal} {g : Operand} {ps : Array Nat} {asg body : Code} (xs : List VVal) (hrd : ∀ l0, rd = some l0 → ∃ st p fn tmps ps asg body, H[l0]? = some (.loop st p fn tmps ps asg body)) (hg : env.eval g = .func f1 [] caps)
  (hAll : ∀ (l : Nat) (G : Ze) (R : Ze → Prop), Iter S l xs G R → F S f1 ([.yield l] ++ caps) G fun v G' => R G')
  {σ : Type} (hp : VBlk → σ → Ze) (s0 : σ) (h0 : ∀ k, H ++ [k] = hp k s0) (hget : ∀ k s, (hp k s)[H.length]? = some k) (hset : ∀ k k' s, (hp k s).set H.length k' = hp k' s)
  (inv : List VVal → σ → Prop) (hi : inv [] s0) (X : Code → List VVal → VVal → σ → Prop) (hps : ps.toList.length = 1)
  (round : ∀ pre c post s, xs = pre ++ c :: post → inv pre s → ∀ (kr kb : VBlk), kr = .loop .ready none 0 env ps.toList asg body → kb = .loop .busy none 0 env ps.toList asg body →
   B S (hp kr s) (some H.length) asg (YI env ps.toList [c]) (hp kr s) (fun ex env1 H1 => ex = .normal ∧ ∃ s1, H1 = hp kr s1 ∧ B S (hp kr s) (some H.length) body env1 (hp kb s1)
    (fun ex2 _ H2 => ∃ s2, H2 = hp kb s2 ∧ ((ex2 = .normal ∧ inv (pre ++ [c]) s2) ∨ (∃ j, Zaf ex2 = some (some j) ∧ X j pre c s2)))))
  (done : ∀ s k, k = VBlk.loop .exhausted none 0 env ps.toList asg body → inv xs s → Q .normal env (hp k s))
  (stop : ∀ j pre c post s k, k = VBlk.loop .exhausted (some j) 0 env ps.toList asg body → xs = pre ++ c :: post → X j pre c s → QP (some j) env (hp k s) Q) : B S H0 rd (.rangeFunc g ps asg body) env H Q := by
 let rec' : LoopState → Option Code → VBlk := fun st p => .loop st p 0 env ps.toList asg body
 let Rf : Ze → Prop := fun G => (∃ s, G = hp (rec' .ready none) s ∧ inv xs s) ∨ ∃ j pre c post s, G = hp (rec' .done (some j)) s ∧ xs = pre ++ c :: post ∧ X j pre c s
 have key : ∀ (ys pre : List VVal) (s : σ), xs = pre ++ ys → inv pre s → Iter S H.length ys (hp (rec' .ready none) s) Rf := by
  intro ys
  induction ys with
  | nil =>
   intro pre s hx hs
   rw [List.append_nil] at hx
   exact .inl ⟨s, rfl, hx ▸ hs⟩
  | cons c ys ih =>
   intro pre s hx hs
   have hr := round pre c ys s hx hs _ _ rfl rfl
   refine Zcr (p := none) (fn := 0) (tmps := env) (ps := ps.toList) (body := body) (hget _ s) (by simp [hps]) _ rfl (hr.mono ?_)
   rintro ex env1 H1 ⟨rfl, s1, rfl, hb⟩
   refine ⟨rfl, none, 0, env, ps.toList, asg, body, hget _ s1, ?_⟩
   rw [hset]
   refine hb.mono ?_
   rintro ex2 env2 H2 ⟨s2, rfl, h2⟩
   rcases h2 with ⟨rfl, h2⟩ | ⟨j, hj, h2⟩
   ·refine ⟨none, rfl, .busy, none, 0, env, ps.toList, asg, body, hget _ s2, true, rfl, ?_⟩
    rw [if_pos rfl, hset]
    exact ih (pre ++ [c]) s2 (by rw [hx]; simp) h2
   refine ⟨some j, hj, .busy, none, 0, env, ps.toList, asg, body, hget _ s2, false, rfl, ?_⟩
   rw [if_neg (by simp), hset]
   exact .inr ⟨j, pre, c, ys, s2, rfl, hx, h2⟩
 refine B_range hrd hg (hAll H.length _ Rf (by rw [h0]; exact key xs [] s0 rfl hi)) ?_
 rintro v H2 (⟨s, rfl, hs⟩ | ⟨j, pre, c, post, s, rfl, hx, hX⟩)
 ·refine ⟨.ready, none, 0, env, ps.toList, asg, body, hget _ s, by simp, ?_⟩
  rw [hset]
  exact done s _ rfl hs
 refine ⟨.done, some j, 0, env, ps.toList, asg, body, hget _ s, by simp, ?_⟩
 rw [hset]
 exact stop j pre c post s _ rfl hx hX
theorem Zct {f1 : FuncId} {caps : List VVal} {g : Operand} {ps : Array Nat} {asg body : Code} {β : Type} (fv : β → VVal) (xs : List β) (hrd : ∀ l0, rd = some l0 → ∃ st p fn tmps ps asg body, H[l0]? = some (.loop st p fn tmps ps asg body)) (hg : env.eval g = .func f1 [] caps)
  (hAll : ∀ (l : Nat) (G : Ze) (R : Ze → Prop), Iter S l (xs.map fv) G R → F S f1 ([.yield l] ++ caps) G fun v G' => R G')
  {σ : Type} (hp : VBlk → σ → Ze) (s0 : σ) (h0 : ∀ k, H ++ [k] = hp k s0) (hget : ∀ k s, (hp k s)[H.length]? = some k) (hset : ∀ k k' s, (hp k s).set H.length k' = hp k' s)
  (inv : List β → σ → Prop) (hi : inv [] s0) (X : Code → List β → β → σ → Prop) (hps : ps.toList.length = 1)
  (round : ∀ pre c post s, xs = pre ++ c :: post → inv pre s → ∀ (kr kb : VBlk), kr = .loop .ready none 0 env ps.toList asg body → kb = .loop .busy none 0 env ps.toList asg body →
   B S (hp kr s) (some H.length) asg (YI env ps.toList [fv c]) (hp kr s) (fun ex env1 H1 => ex = .normal ∧ ∃ s1, H1 = hp kr s1 ∧ B S (hp kr s) (some H.length) body env1 (hp kb s1)
    (fun ex2 _ H2 => ∃ s2, H2 = hp kb s2 ∧ ((ex2 = .normal ∧ inv (pre ++ [c]) s2) ∨ (∃ j, Zaf ex2 = some (some j) ∧ X j pre c s2)))))
  (done : ∀ s k, k = VBlk.loop .exhausted none 0 env ps.toList asg body → inv xs s → Q .normal env (hp k s))
  (stop : ∀ j pre c post s k, k = VBlk.loop .exhausted (some j) 0 env ps.toList asg body → xs = pre ++ c :: post → X j pre c s → QP (some j) env (hp k s) Q) : B S H0 rd (.rangeFunc g ps asg body) env H Q := by
 refine B_rangeL (xs.map fv) hrd hg hAll hp s0 h0 hget hset (fun pre s => ∃ p q, pre = p.map fv ∧ xs = p ++ q ∧ inv p s) ⟨[], xs, rfl, rfl, hi⟩ (fun j pre c s => ∃ p b q, pre = p.map fv ∧ c = fv b ∧ xs = p ++ b :: q ∧ X j p b s) hps ?_ ?_ ?_
 ·rintro pre c post s hx ⟨p, q, rfl, rfl, hI⟩ kr kb hkr hkb
  rw [List.map_append, List.append_cancel_left_eq] at hx
  cases q with
  | nil => simp at hx
  | cons b q =>
   simp only [List.map_cons, List.cons.injEq] at hx
   obtain ⟨rfl, rfl⟩ := hx
   refine (round p b q s rfl hI kr kb hkr hkb).mono ?_
   rintro ex env1 H1 ⟨h1, s1, h2, h3⟩
   refine ⟨h1, s1, h2, h3.mono ?_⟩
   rintro ex2 env2 H2 ⟨s2, h4, h5⟩
   refine ⟨s2, h4, ?_⟩
   rcases h5 with ⟨h5, h6⟩ | ⟨j, h5, h6⟩
   ·exact .inl ⟨h5, p ++ [b], q, by simp, by simp, h6⟩
   exact .inr ⟨j, h5, p, b, q, rfl, rfl, rfl, h6⟩
 ·rintro s k hk ⟨p, q, hp', rfl, hI⟩
  have hq : q = [] := by
   have := congrArg List.length hp'
   simp at this
   exact this
  subst hq
  rw [List.append_nil] at *
  exact done s k hk hI
 rintro j pre c post s k hk hx ⟨p, b, q, rfl, rfl, hxs, hX⟩
 exact stop j p b q s k hk hxs hX
abbrev cI (c : Nat) : VVal := .int .i64 (c : Int)
end
open Go Go.RowKit
def ZV : VVal → Option Nat
 | .slice (some (b, _)) _ _ _ _ => some b
 | _ => none
def LV (h es : Nat) (X : Ze) (v : VVal) (cs : List VVal) (len : Nat) : Prop :=
 cs.length = len * es ∧ ((len = 0 ∧ v = .slice none 0 0 true 0) ∨ (0 < len ∧ ∃ b, v = .slice (some (h + b, 0)) len len false es ∧ X[b]? = some (.cells cs true)))
theorem LV.nil (h es : Nat) (X : Ze) : LV h es X (.slice none 0 0 true 0) [] 0 := ⟨by simp, .inl ⟨rfl, rfl⟩⟩
theorem LV.frame {h es : Nat} {X X' : Ze} {v : VVal} {cs : List VVal} {len : Nat} (l : LV h es X v cs len) (hf : ∀ i, ZV v = some (h + i) → X'[i]? = X[i]?) : LV h es X' v cs len := by
 refine ⟨l.1, ?_⟩
 rcases l.2 with h1 | ⟨h1, b, rfl, h2⟩
 ·exact .inl h1
 exact .inr ⟨h1, b, rfl, by rw [hf b rfl]; exact h2⟩
theorem LV.app {h es : Nat} {X : Ze} {v : VVal} {cs : List VVal} {len : Nat} (l : LV h es X v cs len) (Y : Ze) : LV h es (X ++ Y) v cs len := by
 refine ⟨l.1, ?_⟩
 rcases l.2 with h1 | ⟨h1, b, rfl, h2⟩
 ·exact .inl h1
 exact .inr ⟨h1, b, rfl, Zn h2⟩
theorem LV.one {h es : Nat} {X : Ze} {v : VVal} {cs : List VVal} {len : Nat} (l : LV h es X v cs len) : v.one = true := by
 rcases l.2 with ⟨_, rfl⟩ | ⟨_, b, rfl, _⟩ <;> rfl
theorem LV.cells {h es : Nat} {X : Ze} {v : VVal} {cs : List VVal} {len : Nat} (l : LV h es X v cs len) : v.cells = some [v] := by
 rcases l.2 with ⟨_, rfl⟩ | ⟨_, b, rfl, _⟩ <;> rfl
section
variable {T : TypeId → Option VTy} {ρ : Operand → VVal} {H : Ze} {op : Op}
theorem v_len {T : TypeId → Option VTy} {ρ : Operand → VVal} {H : Ze} {op : Op} {h es : Nat} {X : Ze} {v : VVal} {cs : List VVal} {len : Nat} {a : Operand} {t : TypeId} {y : VTy} {e : TypeId} (ho : op = .call { callee := .builtin .len, args := #[a], argTypes := #[t] }) (ha : ρ a = v) (hy : T t = some y) (hd : y.desc = .slice e) (l : LV h es X v cs len) : vop T ρ H op = some (iI len, H) := by
 rw [ho]
 rcases l.2 with ⟨rfl, rfl⟩ | ⟨_, b, rfl, _⟩
 ·simp [vop, ZR, vlen, ha, hy, hd]
 simp [vop, ZR, vlen, ha, hy, hd]
theorem v_appB {s x : Operand} {ats : Array TypeId} {t u e : TypeId} {z : VTy} {du : TypeDesc} {v : VVal} {Y : Ze} {cs new : List VVal} {len k : Nat} {kx : Nat}
  (ho : op = .call { callee := .builtin .append, args := #[s, x], argTypes := ats }) (hat : ats = #[t, u]) (hz : Y6 T t = some (e, z)) (hu : (T u).map (·.desc) = some du) (hdu : XJ du = true)
  (hs : ρ s = v) (hx : ρ x = .slice (some (H.length + Y.length, 0)) k kx true z.size) (l : LV H.length z.size Y v cs len) (hn : new.length = k * z.size) (h1 : new.all VVal.one = true) (hp : 0 < z.size)
  (hb : (len + k) * z.bytes ≤ 140737488355328 ∧ len + k ≤ 140737488355328) (hk : 0 < k) :
  ∃ Y1, vop T ρ (H ++ (Y ++ [.cells new true])) op = some (.slice (some (H.length + (Y.length + 1), 0)) (len + k) (len + k) false z.size, H ++ (Y1 ++ [.cells new true, .cells (cs ++ new) true])) ∧ Y1.length = Y.length ∧ (∀ i, ZV v ≠ some (H.length + i) → Y1[i]? = Y[i]?) ∧
   LV H.length z.size (Y1 ++ [.cells new true, .cells (cs ++ new) true]) (.slice (some (H.length + (Y.length + 1), 0)) (len + k) (len + k) false z.size) (cs ++ new) (len + k) := by
 have hsrc : ZU (H ++ (Y ++ [.cells new true])) z.size k (ρ x) = some new := by
  rw [hx]
  simp only [ZU]
  rw [ZI rfl (x := .cells new true) (by simp)]
  simp only [Zo]
  rw [if_pos (by omega), List.drop_zero, List.take_of_length_le (by omega)]
 have hlen : (H ++ (Y ++ [VBlk.cells new true])).length = H.length + (Y.length + 1) := by simp
 have hcl : (cs ++ new).length = (len + k) * z.size := by rw [List.length_append, l.1, hn, Nat.add_mul]
 have hlast : ∀ Y1 : Ze, Y1.length = Y.length → (Y1 ++ [VBlk.cells new true, .cells (cs ++ new) true])[Y.length + 1]? = some (.cells (cs ++ new) true) := by
  intro Y1 h
  rw [List.getElem?_append_right (by omega), h, show Y.length + 1 - Y.length = 1 from by omega]; rfl
 rcases l.2 with ⟨rfl, rfl⟩ | ⟨hl, b, rfl, hg⟩
 ·have hcs : cs = [] := List.eq_nil_of_length_eq_zero XH26
  subst hcs
  refine ⟨Y, ?_, rfl, fun _ _ => rfl, hcl, .inr ⟨by omega, _, rfl, hlast Y rfl⟩⟩
  rw [ho, hat]
  have hk' : YO (ρ x) = some k := by rw [hx]; rfl
  simp only [vop, ZR, List.map_cons, List.map_nil, Yq, hz, hs, hu, hk']
  rw [hsrc]
  simp only
  rw [if_pos ⟨hn, h1, hp, hb.1, hb.2, hdu⟩]
  rw [if_neg (by omega), if_neg (by omega), if_neg (by simp), hlen]
  simp
 have hbY : b < Y.length := (List.getElem?_eq_some_iff.1 hg).1
 refine ⟨Y.set b .dead, ?_, by simp, fun i hi => ?_, hcl, .inr ⟨by omega, _, rfl, hlast _ (by simp)⟩⟩
 ·rw [ho, hat]
  have hk' : YO (ρ x) = some k := by rw [hx]; rfl
  simp only [vop, ZR, List.map_cons, List.map_nil, Yq, hz, hs, hu, hk']
  rw [hsrc]
  simp only
  rw [if_pos ⟨hn, h1, hp, hb.1, hb.2, hdu⟩]
  rw [if_pos trivial, ZI rfl (x := .cells cs true) (Zn hg)]
  simp only
  rw [if_neg (by omega)]
  have hca : Zo cs 0 (len * z.size) = some cs := by
   unfold Zo; rw [if_pos XH26, List.drop_zero, List.take_of_length_le XH26]
  rw [hca]
  simp only
  rw [if_neg (by simp), if_pos trivial, hlen, ZO rfl, List.set_append_left _ _ hbY]
  simp
 rw [List.getElem?_set_ne]
 rintro rfl
 exact hi rfl
end
section
variable {S : Sys} {H0 H : Ze}
theorem Gh.freezeLV {vs vs' : List VVal} {X : Ze} {es : Nat} {v : VVal} {cs : List VVal} {len : Nat} (i : Nat) (l : LV H.length es X v cs len) (hv : vs[i]? = some v) (he : vs.set i (.fsl cs len es false) = vs') :
  ∃ X', Gh S H0 vs (H ++ X) vs' (H ++ X') ∧ X'.length = X.length ∧ ∀ j, ZV v ≠ some (H.length + j) → X'[j]? = X[j]? := by
 rcases l.2 with ⟨rfl, rfl⟩ | ⟨hl, b, rfl, hg⟩
 ·have hcs : cs = [] := List.eq_nil_of_length_eq_zero XH26
  subst hcs
  exact ⟨X, Gh.freezeNil i hv he, rfl, fun _ _ => rfl⟩
 refine ⟨X.set b .dead, Gh.freezeL i b hv hg ?_ (Nat.le_refl _) he, by simp, fun j hj => ?_⟩
 ·unfold Zo; rw [if_pos XH26, List.drop_zero, List.take_of_length_le XH26]
 rw [List.getElem?_set_ne]
 rintro rfl
 exact hj rfl
theorem Gh.ansLV {B X : Ze} {es : Nat} {v : VVal} {cs : List VVal} {len : Nat} (hB : BaseOk H B) (l : LV B.length es X v cs len) (hu : VVal.underL H.length cs = true) : Gh S H [v] (B ++ X) [.fsl cs len es false] B := by
 obtain ⟨X', g, _⟩ := Gh.freezeLV (S := S) (H0 := H) (vs := [v]) 0 l rfl rfl
 exact Gh.trans g (Gh.back hB (by simp [VVal.underL, VVal.under, hu]))
end
open Go Go.RowKit
section
variable {S : Sys} {H0 H : Ze} {ops : Array Oper} {o : Oper} {l : List Oper} {env : VEnv} {K : VEnv → Ze → Prop}
theorem X7 {R : VVal → Ze → Prop} (hg : Z7 ops env o.guard = some true) (hc : ZZ S.C.meth env.eval o.op = none) (hv : ∃ v G, vop S.C.T env.eval H o.op = some (v, G) ∧ R v G)
  (h : ∀ v G, R v G → WL S H0 ops l (env.put o.dst v) G K) : WL S H0 ops (o :: l) env H K := by
 obtain ⟨v, G, h1, h2⟩ := hv
 exact L_op hg hc h1 rfl (h v G h2)
end
section
variable {S : Sys} {H : Ze} {ops : Array Oper} {bef : Array Nat} {i : Nat} {li : List Nat} {o : Oper} {env : VEnv} {tk tk' : List (Nat × Tr)} {K : VEnv → Ze → Prop}
theorem O_opX {R : VVal → Ze → Prop} (c : Cls) (ho : ops[i]? = some o) (hg : Z7 ops env o.guard = some true) (hc : ZZ S.C.meth env.eval o.op = none)
  (hv : ∃ v G, vop S.C.T env.eval H o.op = some (v, G) ∧ R v G) (hk : Yh S.C.T o.op = c) (ht : tk ++ [(i, .k c)] = tk') (h : ∀ v G, R v G → WO S ops bef li (env.put o.dst v) G tk' K) : WO S ops bef (i :: li) env H tk K := by
 obtain ⟨v, G, h1, h2⟩ := hv
 exact O_op ho hg hc h1 hk rfl ht (h v G h2)
theorem Zbr {env' : VEnv} (he : env = env') (h : WO S ops bef li env' H tk K) : WO S ops bef li env H tk K := he ▸ h
end
section
variable {T : TypeId → Option VTy} {ρ : Operand → VVal} {H : Ze} {op : Op}
theorem Jx {s x : Operand} {ats : Array TypeId} {t u e : TypeId} {z : VTy} {du : TypeDesc} {v : VVal} {Y : Ze} {cs new : List VVal} {len k : Nat} {kx : Nat}
  (ho : op = .call { callee := .builtin .append, args := #[s, x], argTypes := ats }) (hat : ats = #[t, u]) (hz : Y6 T t = some (e, z)) (hu : (T u).map (·.desc) = some du) (hdu : XJ du = true)
  (hs : ρ s = v) (hx : ρ x = .slice (some (H.length + Y.length, 0)) k kx true z.size) (l : LV H.length z.size Y v cs len) (hn : new.length = k * z.size) (h1 : new.all VVal.one = true) (hp : 0 < z.size)
  (hb : (len + k) * z.bytes ≤ 140737488355328 ∧ len + k ≤ 140737488355328) (hk : 0 < k) :
  ∃ u G, vop T ρ (H ++ (Y ++ [.cells new true])) op = some (u, G) ∧ ∃ Y1, u = .slice (some (H.length + (Y.length + 1), 0)) (len + k) (len + k) false z.size ∧ G = H ++ (Y1 ++ [.cells new true, .cells (cs ++ new) true]) ∧ Y1.length = Y.length ∧ (∀ i, ZV v ≠ some (H.length + i) → Y1[i]? = Y[i]?) ∧
   LV H.length z.size (Y1 ++ [.cells new true, .cells (cs ++ new) true]) (.slice (some (H.length + (Y.length + 1), 0)) (len + k) (len + k) false z.size) (cs ++ new) (len + k) := by
 obtain ⟨Y1, h1', h2, h3, h4⟩ := v_appB (ρ := ρ) (H := H) (op := op) ho hat hz hu hdu hs hx l hn h1 hp hb hk
 exact ⟨_, _, h1', Y1, rfl, rfl, h2, h3, h4⟩
end
open Go Go.RowKit
section
variable {T : TypeId → Option VTy} {ρ : Operand → VVal} {H : Ze} {op : Op}
theorem v_appE {s x : Operand} {ats : Array TypeId} {t u e : TypeId} {z : VTy} {du : TypeDesc} {L : Ze} {cs : List VVal} {j k : Nat} {ex : Bool}
  (ho : op = .call { callee := .builtin .append, args := #[s, x], argTypes := ats }) (hat : ats = #[t, u]) (hz : Y6 T t = some (e, z)) (hu : (T u).map (·.desc) = some du) (hdu : XJ du = true)
  (hs : ρ s = .slice (some (H.length + j, 0)) 0 0 true z.size) (hj : L[j]? = some (.cells [] true)) (hx : ρ x = .fsl cs k z.size ex) (hn : cs.length = k * z.size) (h1 : cs.all VVal.one = true) (hp : 0 < z.size)
  (hb : k * z.bytes ≤ 140737488355328 ∧ k ≤ 140737488355328) :
  ∃ v G, vop T ρ (H ++ L) op = some (v, G) ∧ ∃ Z i, G = H ++ (L ++ Z) ∧ v = .slice (some (H.length + i, 0)) k k (decide (k = 0)) z.size ∧ (L ++ Z)[i]? = some (.cells cs true) := by
 have hk' : YO (ρ x) = some k := by rw [hx]; rfl
 have hsrc : ZU (H ++ L) z.size k (ρ x) = some cs := by
  rw [hx]
  show Zo cs 0 (k * z.size) = some cs
  unfold Zo; rw [if_pos (by omega), List.drop_zero, List.take_of_length_le (by omega)]
 by_cases h0 : k = 0
 ·subst h0
  have hcs : cs = [] := List.eq_nil_of_length_eq_zero (by omega)
  subst hcs
  refine ⟨_, _, ?_, [], j, by rw [List.append_nil], rfl, by rw [List.append_nil]; exact hj⟩
  rw [ho, hat]
  simp only [vop, ZR, List.map_cons, List.map_nil, Yq, hz, hs, hu, hk']
  rw [hsrc]
  simp only
  rw [if_pos ⟨hn, h1, hp, by simp, by simp, hdu⟩]
  rw [if_pos trivial, ZI rfl (x := .cells [] true) hj]
  rfl
 refine ⟨.slice (some (H.length + L.length, 0)) k k false z.size, H ++ (L ++ [.cells cs true]), ?_, [.cells cs true], L.length, rfl, ?_, by simp⟩
 ·rw [ho, hat]
  simp only [vop, ZR, List.map_cons, List.map_nil, Yq, hz, hs, hu, hk']
  rw [hsrc]
  simp only
  rw [if_pos ⟨hn, h1, hp, by simpa using hb.1, by simpa using hb.2, hdu⟩]
  rw [if_pos trivial, ZI rfl (x := .cells [] true) hj]
  simp only
  rw [if_neg (by omega)]
  simp [Zo]
 rw [decide_eq_false h0]
end
open Go Go.RowKit
theorem F.pre {S : Sys} {f : FuncId} {args args' : List VVal} {H H' : Ze} {R : VVal → Ze → Prop} (g : Gh S H args H args' H') (h : F S f args' H' R) : F S f args H R := by
 intro n w ι xs s r
 obtain ⟨gl, g2⟩ := g (Nat.le_refl _)
 obtain ⟨ι1, e1, s1, r1⟩ := g2 w ι xs.toList (Base.self s) s r
 obtain ⟨a, b⟩ := h n w ι1 xs s1 r1
 refine ⟨a, CallsIn.mono b ?_⟩
 rintro e w' ⟨x, v, G, ι', h1, h2, h3, h4, h5, h6⟩
 exact ⟨x, v, G, ι', h1, Inj.ex_trans e1 h2 gl, Nat.le_trans gl h3, h4, h5, h6⟩
section
variable {T : TypeId → Option VTy} {ρ : Operand → VVal} {H : Ze} {op : Op}
end
open Go Go.RowKit
section
variable {T : TypeId → Option VTy} {ρ : Operand → VVal} {H : Ze} {op : Op}
theorem ZaT {t e : TypeId} {x hi : Operand} {y z : VTy} {cs : List VVal} {len es k : Nat} {ex : Bool} {kd : IntKind} (ho : op = .slice t x none (some hi) none) (hy : T t = some y) (hd : y.desc = .slice e) (hz : T e = some z) (hs : z.size = es) (hx : ρ x = .fsl cs len es ex) (hh : ρ hi = .int kd (k : Nat)) (hk : k ≤ len)
  (hl : cs.length = len * es) : vop T ρ H op = some (.fsl (cs.take (k * es)) k es (ex && k == len), H) := by
 have hle : k * es ≤ len * es := Nat.mul_le_mul_right _ hk
 rw [ho]
 have hc : Zo cs 0 (k * es) = some (cs.take (k * es)) := by unfold Zo; rw [if_pos (by omega), List.drop_zero]
 have hb : Yp len len none (some (.int kd (k : Nat))) none = some (0, k, len) := by
  simp only [Yp]
  rw [if_pos (by omega)]
  simp
 simp [vop, Jw, hy, hd, hx, hz, hs, hh, hb, hc]
end
open Go Go.RowKit
theorem O_opXI {S : Sys} {H : Ze} {ops : Array Oper} {bef : Array Nat} {i : Nat} {li : List Nat} {o : Oper} {env : VEnv} {tk : List (Nat × Tr)} {K : VEnv → Ze → Prop} {R : VVal → Ze → Prop} (x : VVal → Ze → Item') (ho : ops[i]? = some o) (hg : Z7 ops env o.guard = some true) (hc : ZZ S.C.meth env.eval o.op = none)
  (hv : ∃ v G, vop S.C.T env.eval H o.op = some (v, G) ∧ R v G) (hx : ∀ v G, X0 S.C.T o.op env.eval v H G = x v G) (h : ∀ v G, R v G → WO S ops bef li (env.put o.dst v) G (tk ++ [(i, .it (x v G))]) K) : WO S ops bef (i :: li) env H tk K := by
 obtain ⟨v, G, h1, h2⟩ := hv
 exact Yb ho hg hc h1 (hx v G) rfl rfl (h v G h2)
open Go Go.RowKit
theorem QA {T : TypeId → Option VTy} {ρ : Operand → VVal} {H : Ze} {op : Op} {t : Bool} (b : Bool) (h : vop T ρ H op = some (.bool t, H)) (e : t = b) : vop T ρ H op = some (.bool b, H) := e ▸ h
theorem Xg {T : TypeId → Option VTy} {ρ : Operand → VVal} {H : Ze} {op : Op} {v u : VVal} (h : vop T ρ H op = some (v, H)) (e : v = u) : vop T ρ H op = some (u, H) := e ▸ h
open Go
def wdn (p : Nat → Bool) : Nat → BitVec 64
 | 0 => 0#64
 | k + 1 => if p k = true then wdn p k ||| 1#64 <<< k else wdn p k
def wd (p : Nat → Bool) : BitVec 64 := wdn p 64
theorem Qa (k i : Nat) : (1#64 <<< k).getLsbD i = (decide (i = k) && decide (i < 64)) := by
 rw [BitVec.getLsbD_shiftLeft]
 by_cases h : i < 64
 ·by_cases h1 : i < k
  ·simp [h, h1]; omega
  by_cases h2 : i = k
  ·subst h2; simp [h]
  have : ¬ (i - k = 0) := by omega
  simp [h, h1, h2, this]
 simp [h]
theorem Jy (w : BitVec 64) (k i : Nat) : (w ||| 1#64 <<< k).getLsbD i = (w.getLsbD i || (decide (i = k) && decide (i < 64))) := by
 rw [BitVec.getLsbD_or, Qa]
theorem wdn_bit (p : Nat → Bool) : ∀ (k i : Nat), (wdn p k).getLsbD i = (decide (i < k) && decide (i < 64) && p i)
 | 0, i => by simp [wdn]
 | k + 1, i => by
  unfold wdn
  split
  ·rename_i hp
   rw [Jy, wdn_bit p k i]
   by_cases h1 : i = k
   ·subst h1; simp [hp]
   by_cases h2 : i < k
   ·have h3 : i < k + 1 := by omega
    simp [h1, h2, h3]
   have h3 : ¬ i < k + 1 := by omega
   simp [h1, h2, h3]
  rename_i hp
  rw [wdn_bit p k i]
  by_cases h1 : i = k
  ·subst h1; simp at hp; simp [hp]
  by_cases h2 : i < k
  ·have h3 : i < k + 1 := by omega
   simp [h2, h3]
  have h3 : ¬ i < k + 1 := by omega
  simp [h2, h3]
theorem J7 (p : Nat → Bool) (i : Nat) : (wd p).getLsbD i = (decide (i < 64) && p i) := by
 unfold wd; rw [wdn_bit]; simp
theorem YF {a b : BitVec 64} (h : ∀ i, i < 64 → a.getLsbD i = b.getLsbD i) : a = b := BitVec.eq_of_getLsbD_eq h
theorem wd_eq {p : Nat → Bool} {w : BitVec 64} (h : ∀ i, i < 64 → w.getLsbD i = p i) : w = wd p := YF fun i hi => by rw [J7, h i hi]; simp [hi]
theorem wd_congr {p q : Nat → Bool} (h : ∀ i, i < 64 → p i = q i) : wd p = wd q := wd_eq fun i hi => by rw [J7, h i hi]; simp [hi]
theorem andNot_zero {a b : BitVec 64} : a &&& ~~~b = 0#64 ↔ ∀ i, i < 64 → a.getLsbD i = true → b.getLsbD i = true := by
 constructor
 ·intro h i hi ha
  have := congrArg (fun w => w.getLsbD i) h
  simp only [BitVec.getLsbD_and, BitVec.getLsbD_not, ha, hi, decide_true, Bool.true_and, BitVec.getLsbD_zero, Bool.not_eq_false'] at this
  exact this
 intro h
 refine YF fun i hi => ?_
 rw [BitVec.getLsbD_and, BitVec.getLsbD_not, BitVec.getLsbD_zero]
 cases ha : a.getLsbD i with
 | false => rfl
 | true => simp [h i hi ha]
theorem mem_pl {w : BitVec 64} {k c : Nat} : c ∈ pl w k ↔ k ≤ c ∧ c < 64 ∧ w.getLsbD c = true := by
 unfold pl
 rw [List.mem_filter, List.mem_range'_1]
 constructor
 ·rintro ⟨⟨h1, h2⟩, h3⟩; exact ⟨h1, by omega, h3⟩
 rintro ⟨h1, h2, h3⟩; exact ⟨⟨h1, by omega⟩, h3⟩
def rv (E : Nat → Nat → Bool) : Nat → Nat → Nat → Bool
 | 0, a, b => E a b
 | k + 1, a, b => rv E k a b || (rv E k a k && rv E k k b)
theorem rv_step {E : Nat → Nat → Bool} {k a b : Nat} (h : rv E k a b = true) : rv E (k + 1) a b = true := by simp [rv, h]
theorem rv_mono {E : Nat → Nat → Bool} {k m a b : Nat} (h : k ≤ m) (hr : rv E k a b = true) : rv E m a b = true := by
 induction h with
 | refl => exact hr
 | step _ ih => exact rv_step ih
theorem Ja {E : Nat → Nat → Bool} : ∀ {k a b c : Nat}, c < k → rv E k a c = true → rv E k c b = true → rv E k a b = true
 | k + 1, a, b, c, hc, h1, h2 => by
  simp only [rv, Bool.or_eq_true, Bool.and_eq_true] at h1 h2 ⊢
  by_cases hck : c = k
  ·subst hck
   right
   refine ⟨?_, ?_⟩
   ·rcases h1 with h1 | h1
    ·exact h1
    exact h1.1
   rcases h2 with h2 | h2
   ·exact h2
   exact h2.2
  have hlt : c < k := by omega
  rcases h1 with h1 | ⟨h1, h1'⟩ <;> rcases h2 with h2 | ⟨h2, h2'⟩
  ·exact .inl (Ja hlt h1 h2)
  ·exact .inr ⟨Ja hlt h1 h2, h2'⟩
  ·exact .inr ⟨h1, Ja hlt h1' h2⟩
  exact .inr ⟨h1, h2'⟩
theorem Qt {E : Nat → Nat → Bool} {R : Nat → Nat → Prop} (hE : ∀ a b, E a b = true → R a b) : ∀ {k : Nat}, (∀ a b c, c < k → R a c → R c b → R a b) → ∀ {a b : Nat}, rv E k a b = true → R a b
 | 0, _, a, b, h => hE a b h
 | k + 1, hT, a, b, h => by
  simp only [rv, Bool.or_eq_true, Bool.and_eq_true] at h
  have hT' : ∀ a b c, c < k → R a c → R c b → R a b := fun a b c hc => hT a b c (by omega)
  rcases h with h | ⟨h1, h2⟩
  ·exact Qt hE hT' h
  exact hT a b k (by omega) (Qt hE hT' h1) (Qt hE hT' h2)
open Go
theorem wd_orShl {p : Nat → Bool} {k : Nat} : wd p ||| 1#64 <<< k = wd fun i => p i || decide (i = k) := wd_eq fun i hi => by rw [Jy, J7]; simp [hi]
section
variable (E : Nat → Nat → Bool)
variable {E}
end
set_option linter.unusedSimpArgs false
open Go
theorem sh0 {d : BitVec 64} {k : Nat} : d >>> k &&& 1#64 = 0#64 ↔ d.getLsbD k = false := by
 have h := bit1 d k
 constructor
 ·intro e; rw [e] at h; rw [← h]; decide
 intro e
 rw [e] at h
 refine YF fun i hi => ?_
 rw [BitVec.getLsbD_and, BitVec.getLsbD_ushiftRight]
 by_cases h0 : i = 0
 ·subst h0; simp [e]
 have : (1#64).getLsbD i = false := by
  rw [show (1#64) = 1#64 <<< 0 from by decide, Qa]; simp [h0]
 rw [this, Bool.and_false]; simp
theorem sh1 {d : BitVec 64} {k : Nat} : d >>> k &&& 1#64 = 1#64 ↔ d.getLsbD k = true := by
 rw [← bit1 d k]; simp
theorem sh1n {d : BitVec 64} {k : Nat} : ¬ d >>> k &&& 1#64 = 1#64 ↔ d.getLsbD k = false := by
 rw [sh1]; simp
def rdyN (ps : List (BitVec 64)) (d : BitVec 64) (k : Nat) : BitVec 64 := wd fun a => decide (a < k) && (ps.getD a 0 &&& ~~~d == 0#64)
def Zcx (ps : List (BitVec 64)) (d : BitVec 64) : BitVec 64 := rdyN ps d ps.length &&& ~~~d
theorem ZbU {ps : List (BitVec 64)} {d : BitVec 64} {a : Nat} (ha : a < 64) : (Zcx ps d).getLsbD a = (decide (a < ps.length) && (ps.getD a 0 &&& ~~~d == 0#64) && !d.getLsbD a) := by
 unfold Zcx rdyN
 rw [BitVec.getLsbD_and, J7, BitVec.getLsbD_not]; simp [ha]
def downA (ps : List (BitVec 64)) (s : BitVec 64) (a : Nat) : Bool := decide (a < ps.length) && (ps.getD a 0 &&& ~~~s == 0#64)
def downW (ps : List (BitVec 64)) (s : BitVec 64) : Bool := (pl s 0).all (downA ps s)
theorem ZaZ {α : Type} {p q : α → Bool} : ∀ {l : List α}, (∀ x, x ∈ l → p x = true → q x = true) → (∃ x, x ∈ l ∧ q x = true ∧ p x = false) → l.countP p < l.countP q
 | [], _, ⟨x, hx, _⟩ => by cases hx
 | y :: l, h, ⟨x, hx, h1, h2⟩ => by
  have hle : l.countP p ≤ l.countP q := List.countP_mono_left fun z hz => h z (List.mem_cons_of_mem _ hz)
  rcases List.mem_cons.1 hx with rfl | hx
  ·rw [List.countP_cons_of_pos h1, List.countP_cons_of_neg (by simp [h2])]; omega
  have ih := ZaZ (fun z hz => h z (List.mem_cons_of_mem _ hz)) ⟨x, hx, h1, h2⟩
  rw [List.countP_cons, List.countP_cons]
  have := h y (List.mem_cons_self ..)
  by_cases hp : p y = true
  ·simp [hp, this hp]; omega
  have hp' : p y = false := by simpa using hp
  cases hq : q y <;> simp [hp', hq] <;> omega
theorem countP_set {m a : Nat} {p q : Nat → Bool} (ha : a < m) (h0 : p a = false) (h1 : q a = true) (h : ∀ i, i < m → i ≠ a → p i = q i) : (List.range m).countP q = (List.range m).countP p + 1 := by
 induction m with
 | zero => omega
 | succ m ih =>
  rw [List.range_succ, List.countP_append, List.countP_append, List.countP_singleton, List.countP_singleton]
  by_cases hm : a = m
  ·subst hm
   have : (List.range a).countP q = (List.range a).countP p := List.countP_congr fun i hi => by rw [h i (by have := List.mem_range.1 hi; omega) (by have := List.mem_range.1 hi; omega)]
   rw [this, h0, h1]; simp
  rw [ih (by omega) (fun i hi hne => h i (by omega) hne), h m (by omega) (fun e => hm e.symm)]
  split <;> omega
structure Ord (m : Nat) (R : Nat → Nat → Bool) (ps ss : List (BitVec 64)) : Prop where
 le : m ≤ 64
 pl : ps.length = m
 sl : ss.length = m
 pg : ∀ a, a < m → ∀ b, (ps.getD a 0).getLsbD b = R b a
 sg : ∀ a, a < m → ∀ b, (ss.getD a 0).getLsbD b = R a b
 rg : ∀ a b, R a b = true → a < m ∧ b < m
 ir : ∀ a, R a a = false
 tr : ∀ a b c, R a b = true → R b c = true → R a c = true
section
variable {m : Nat} {R : Nat → Nat → Bool} {ps ss : List (BitVec 64)}
structure Come (m : Nat) (R : Nat → Nat → Bool) (d : BitVec 64) : Prop where
 rg : ∀ a, d.getLsbD a = true → a < m
 dn : ∀ a b, R a b = true → d.getLsbD b = true → d.getLsbD a = true
theorem Come.nil : Come m R 0#64 := ⟨fun a h => by simp at h, fun a b _ h => by simp at h⟩
theorem Ord.pred (o : Ord m R ps ss) {a : Nat} (ha : a < m) {d : BitVec 64} : ps.getD a 0 &&& ~~~d = 0#64 ↔ ∀ b, R b a = true → d.getLsbD b = true := by
 rw [andNot_zero]
 have hm := o.le
 exact ⟨fun h b hb => h b (by have := (o.rg _ _ hb).1; omega) (by rw [o.pg a ha]; exact hb), fun h b _ hb => h b (by rw [o.pg a ha] at hb; exact hb)⟩
theorem Ord.ready (o : Ord m R ps ss) {d : BitVec 64} {a : Nat} : (Zcx ps d).getLsbD a = true ↔ a < m ∧ (∀ b, R b a = true → d.getLsbD b = true) ∧ d.getLsbD a = false := by
 have hm := o.le
 by_cases h : a < 64
 ·rw [ZbU h]
  simp only [Bool.and_eq_true, decide_eq_true_eq, beq_iff_eq, Bool.not_eq_true', o.pl]
  constructor
  ·rintro ⟨⟨h1, h2⟩, h3⟩; exact ⟨h1, (o.pred h1).1 h2, h3⟩
  rintro ⟨h1, h2, h3⟩; exact ⟨⟨h1, (o.pred h1).2 h2⟩, h3⟩
 constructor
 ·intro h2; rw [BitVec.getLsbD_of_ge _ _ (by omega)] at h2; cases h2
 rintro ⟨h1, _⟩; omega
theorem Come.next (o : Ord m R ps ss) {d : BitVec 64} (c : Come m R d) {a : Nat} (ha : (Zcx ps d).getLsbD a = true) : Come m R (d ||| 1#64 <<< a) := by
 obtain ⟨h1, h2, h3⟩ := o.ready.1 ha
 have hm := o.le
 refine ⟨fun b hb => ?_, fun b c2 hbc hc => ?_⟩
 ·rw [Jy] at hb
  rcases Bool.or_eq_true _ _ ▸ hb with h | h
  ·exact c.rg b h
  simp at h; omega
 rw [Jy] at hc ⊢
 rcases Bool.or_eq_true _ _ ▸ hc with h | h
 ·rw [c.dn b c2 hbc h]; rfl
 simp only [Bool.and_eq_true, decide_eq_true_eq] at h
 obtain ⟨rfl, _⟩ := h
 rw [h2 b hbc]; rfl
def YA (m : Nat) (d : BitVec 64) : Nat := (List.range m).countP d.getLsbD
theorem come_next {d : BitVec 64} {a : Nat} (ha : a < m) (hm : m ≤ 64) (h : d.getLsbD a = false) : YA m (d ||| 1#64 <<< a) = YA m d + 1 := by
 unfold YA
 refine countP_set ha h ?_ fun i hi hne => ?_
 ·rw [Jy]; simp; omega
 rw [Jy]; simp [hne]
theorem ZcA : YA m 0#64 = 0 := by unfold YA; rw [List.countP_eq_zero]; simp
end
open Go Go.RowKit
structure EdgesOk (ops : Array Oper) (bef : Array Nat) : Prop where
 edge : ∀ i o, ops[i]? = some o → ∀ e, e ∈ o.after → Region.binds .any e = true → (bef.getD i 0).testBit e.on = true ∧ e.on < ops.size
 back : ∀ i o, ops[i]? = some o → ∀ m, (bef.getD i 0).testBit m = true → ∃ e, e ∈ o.after ∧ Region.binds .any e = true ∧ (e.on = m ∨ (bef.getD e.on 0).testBit m = true)
theorem edges_ok {ops : Array Oper} {bef : Array Nat} (h : ZcK ops bef = true) : EdgesOk ops bef := by
 simp only [ZcK, List.all_eq_true, List.mem_range] at h
 have hb : ∀ i o, ops[i]? = some o → bef.getD i 0 = o.after.toList.foldl (fun x e => if Region.binds .any e then x ||| 2 ^ e.on ||| bef.getD e.on 0 else x) 0 ∧ ∀ e, e ∈ o.after → Region.binds .any e = true → e.on < ops.size := by
  intro i o ho
  have := h i (Array.getElem?_eq_some_iff.1 ho).1
  rw [ho] at this
  simp only [Bool.and_eq_true, beq_iff_eq, List.all_eq_true, Bool.or_eq_true, Bool.not_eq_true', decide_eq_true_eq] at this
  refine ⟨this.1, fun e he hbd => ?_⟩
  rcases this.2 e (by simpa using he) with h | h
  ·rw [hbd] at h; cases h
  exact h
 refine ⟨fun i o ho e he hbd => ⟨?_, (hb i o ho).2 e he hbd⟩, fun i o ho m hm => ?_⟩
 ·rw [(hb i o ho).1, Qn]
  exact .inr ⟨e, by simpa using he, hbd, .inl rfl⟩
 rw [(hb i o ho).1, Qn] at hm
 rcases hm with h | ⟨e, he, hbd, h⟩
 ·simp at h
 exact ⟨e, by simpa using he, hbd, h⟩
def Lst (ops : Array Oper) (listed : Array Bool) (pre : List Nat) : Prop := listed.size = ops.size ∧ ∀ i, i < ops.size → (listed.getD i false = true ↔ i ∈ pre)
def left (ops : Array Oper) (listed : Array Bool) : Nat := (List.range ops.size).countP fun i => !listed.getD i false
def WP (S : Sys) (ops : Array Oper) (pre : List Nat) (env : VEnv) (H : Ze) (K : VEnv → Ze → Prop) : Prop :=
 ∀ (ro : Option Nat) (n : Nat) (Q : Exit → Act → World → Prop) (fuel : Nat) (listed : Array Bool) (a : Act) (w : World) (ι : Inj), Lst ops listed pre → left ops listed ≤ fuel → Sim S.w0 ι H w → RelL ι env a.tmps.toList →
  (∀ a' w' ι' env' H', a'.defers = a.defers → Inj.ex H.length ι ι' → H.length ≤ H'.length → Sim S.w0 ι' H' w' → RelL ι' env' a'.tmps.toList → K env' H' → Q .normal a' w') →
  wpAnyIn (WF ro) n S.P .any ops Q fuel listed a w
def ZbH (ops : Array Oper) (bef : Array Nat) (pre : List Nat) : Bool := pre.all fun x => (List.range ops.size).all fun m => !(bef.getD x 0).testBit m || pre.contains m
def pivB (ops : Array Oper) (bef : Array Nat) (pre : List Nat) (p : Nat) : Bool :=
 ZbH ops bef pre && decide (p < ops.size) && !pre.contains p && (List.range ops.size).all (fun j => pre.contains j || j == p || (bef.getD j 0).testBit p) && (List.range ops.size).all (fun m => !(bef.getD p 0).testBit m || pre.contains m)
def segB (ops : Array Oper) (bef : Array Nat) (pre A : List Nat) : Bool :=
 (List.range ops.size).all (fun i => decide (bef.getD i 0 < 2 ^ ops.size)) && ZbH ops bef pre && ZaG bef A && A.all (fun i => decide (i < ops.size) && !pre.contains i) && (List.range ops.size).all (fun j => pre.contains j || A.contains j || A.all fun s => (bef.getD j 0).testBit s) &&
  A.all (fun i => (List.range ops.size).all fun m => !(bef.getD i 0).testBit m || pre.contains m || A.contains m)
section
variable {S : Sys} {H : Ze} {ops : Array Oper} {bef : Array Nat} {env : VEnv} {K : VEnv → Ze → Prop} {pre : List Nat}
theorem Xr {listed : Array Bool} {i : Nat} (h1 : listed.size = ops.size) (h2 : i < ops.size) : listed.getD i true = listed.getD i false := by
 rw [Array.getD_eq_getD_getElem?, Array.getD_eq_getD_getElem?, Array.getElem?_eq_getElem (by omega)]; rfl
theorem Xm {listed : Array Bool} {i j : Nat} (h1 : listed.size = ops.size) (h2 : i < ops.size) : (listed.setIfInBounds i true).getD j false = (j == i || listed.getD j false) := by
 rw [Array.getD_eq_getD_getElem?, Array.getElem?_setIfInBounds]
 by_cases hj : i = j
 ·subst hj; simp [h1, h2]
 rw [if_neg hj]
 have : (j == i) = false := by simp; exact fun h => hj h.symm
 rw [this, Bool.false_or, Array.getD_eq_getD_getElem?]
theorem left_set {listed : Array Bool} {i : Nat} (h1 : listed.size = ops.size) (h2 : i < ops.size) (h3 : listed.getD i false = false) : left ops (listed.setIfInBounds i true) < left ops listed := by
 unfold left
 refine ZaZ (fun j _ h => ?_) ⟨i, List.mem_range.2 h2, by simp [h3], by rw [Xm h1 h2]; simp⟩
 rw [Xm h1 h2] at h
 simp only [Bool.not_eq_true', Bool.or_eq_false_iff] at h ⊢
 exact h.2
theorem left_pos {listed : Array Bool} {i : Nat} (h2 : i < ops.size) (h3 : listed.getD i false = false) : 0 < left ops listed :=
 List.countP_pos_iff.2 ⟨i, List.mem_range.2 h2, by simp [h3]⟩
theorem P_end (hall : (List.range ops.size).all (fun i => pre.contains i) = true) (h : K env H) : WP S ops pre env H K := by
 intro ro n Q fuel listed a w ι hl hf s r hQ
 have hready : Region.ready .any ops listed = [] := by
  cases hr : Region.ready .any ops listed with
  | nil => rfl
  | cons i rest =>
   have hi : i ∈ Region.ready .any ops listed := by rw [hr]; exact List.mem_cons_self ..
   obtain ⟨hun, o, ho, _⟩ := mem_ready.1 hi
   have hlt := (Array.getElem?_eq_some_iff.1 ho).1
   rw [Xr hl.1 hlt] at hun
   have := (hl.2 i hlt).2 (by simpa using List.all_eq_true.1 hall i (List.mem_range.2 hlt))
   rw [hun] at this; cases this
 have hq := hQ a w ι env H rfl (Inj.ex_refl _ _) (Nat.le_refl _) s r h
 cases fuel with
 | zero => exact ⟨hready, hq⟩
 | succ fuel => exact ⟨fun _ => hq, fun i hi => by rw [hready] at hi; cases hi⟩
theorem P_piv (p : Nat) {o : Oper} {f : VVal} {args : List VVal} {R : VVal → Ze → Prop} (hb : ZcK ops bef = true) (hp : pivB ops bef pre p = true) (ho : ops[p]? = some o) (hg : Z7 ops env o.guard = some true) (hc : ZZ S.C.meth env.eval o.op = some (f, args)) (hu : f.isUndef = false)
  (hF : Fv S f args H R) (h : ∀ v G, R v G → WP S ops (pre ++ [p]) (env.put o.dst v) G K) : WP S ops pre env H K := by
 have E := edges_ok hb
 simp only [pivB, Bool.and_eq_true, decide_eq_true_eq, Bool.not_eq_true', List.all_eq_true, List.mem_range, Bool.or_eq_true, List.contains_iff_mem, beq_iff_eq, ZbH] at hp
 obtain ⟨⟨⟨⟨hcl, hps⟩, hpn⟩, hlate⟩, hself⟩ := hp
 have hpn : p ∉ pre := by simpa using hpn
 have notP : ∀ {x : Nat} {m : Nat} {Z : Prop}, (bef.getD x 0).testBit m = true → ((bef.getD x 0).testBit m = false ∨ Z) → Z := fun h h2 => by
  rcases h2 with h2 | h2
  ·rw [h] at h2; cases h2
  exact h2
 intro ro n Q fuel listed a w ι hl hf s r hQ
 have hpl : listed.getD p false = false := by
  cases hh : listed.getD p false with
  | false => rfl
  | true => exact absurd ((hl.2 p hps).1 hh) hpn
 cases fuel with
 | zero => have := left_pos (ops := ops) hps hpl; omega
 | succ fuel =>
  refine ⟨fun hnil => ?_, fun i hi => ?_⟩
  ·exfalso
   have : p ∈ Region.ready .any ops listed := by
    rw [mem_ready]
    refine ⟨by rw [Xr hl.1 hps]; exact hpl, o, ho, fun e he hbd => ?_⟩
    obtain ⟨h1, h2⟩ := E.edge p o ho e he hbd
    exact (hl.2 _ h2).2 (notP h1 (hself e.on h2))
   rw [hnil] at this; cases this
  obtain ⟨hun, o', ho', hall⟩ := mem_ready.1 hi
  have hlt := (Array.getElem?_eq_some_iff.1 ho').1
  rw [Xr hl.1 hlt] at hun
  have hip : i = p := by
   have hni : i ∉ pre := fun hh => by rw [(hl.2 i hlt).2 hh] at hun; cases hun
   rcases hlate i hlt with (h1 | h1) | h1
   ·exact absurd h1 hni
   ·exact h1
   obtain ⟨e, he, hbd, h2⟩ := E.back i o' ho' p h1
   have hon := (hl.2 e.on (E.edge i o' ho' e he hbd).2).1 (hall e he hbd)
   rcases h2 with h2 | h2
   ·rw [h2] at hon; exact absurd hon hpn
   exact absurd (notP h2 (hcl e.on hon p hps)) hpn
  subst hip
  have ho2 : o' = o := by rw [ho] at ho'; cases ho'; rfl
  subst ho2
  unfold wpOpIn
  rw [ho]
  refine op_call hg hc (VVal.ne_undef hu) hF s (fun x _ => XB r x) (fun _ _ d _ _ => Qu r d) (fun x w1 ι1 v G e1 hl1 s1 r1 hR => ?_)
  refine h v G hR ro n Q fuel _ _ w1 ι1 ⟨by simp [hl.1], fun j hj => ?_⟩ (by have := left_set hl.1 hlt hpl; omega) s1 (QK (RelL.mono (s.le e1) _ _ r) _ r1) fun a' w' ι' env' H' d1 d2 d3 d4 d5 d6 => hQ a' w' ι' env' H' (d1.trans (Xa _ _ _)) (Inj.ex_trans e1 d2 hl1) (by omega) d4 d5 d6
  rw [Xm hl.1 hlt, Bool.or_eq_true, beq_iff_eq, hl.2 j hj, List.mem_append, List.mem_singleton]
  exact Or.comm
theorem P_seg (A : List Nat) (hb : ZcK ops bef = true) (ht : tmpsOk ops bef = true) (hp : segB ops bef pre A = true) (h : WO S ops bef A env H [] fun env1 H1 => WP S ops (pre ++ A) env1 H1 K) : WP S ops pre env H K := by
 have E := edges_ok hb
 simp only [segB, Bool.and_eq_true, decide_eq_true_eq, Bool.not_eq_true', List.all_eq_true, List.mem_range, Bool.or_eq_true, List.contains_iff_mem, ZbH] at hp
 obtain ⟨⟨⟨⟨⟨hsm, hcl⟩, hoo⟩, hA⟩, hlate⟩, hin⟩ := hp
 have hA : ∀ i, i ∈ A → i < ops.size ∧ i ∉ pre := fun i hi => ⟨(hA i hi).1, by simpa using (hA i hi).2⟩
 have notP : ∀ {x : Nat} {m : Nat} {Z : Prop}, (bef.getD x 0).testBit m = true → ((bef.getD x 0).testBit m = false ∨ Z) → Z := fun h h2 => by
  rcases h2 with h2 | h2
  ·rw [h] at h2; cases h2
  exact h2
 obtain ⟨call, hv, h⟩ := h
 obtain ⟨envF, HF, tr, hrun, hfine, hN⟩ := h [] .nil
 obtain ⟨Z, hZi, htr, hch⟩ := QD (fun i => (hv i).len) _ _ _ _ _ _ _ hrun
 simp only [List.nil_append] at htr
 subst htr
 have hord := JX hoo
 rw [← hZi] at hord
 have okS : ∀ s, s ∈ Z → StOk S.C call ops s := fun s hs => ((Z5 hch).2.1 s hs).2
 have lt : ∀ s, s ∈ Z → s.i < ops.size := fun s hs => (Array.getElem?_eq_some_iff.1 (okS s hs).1).1
 have inA : ∀ s, s ∈ Z → s.i ∈ A := fun s hs => by rw [← hZi]; exact List.mem_map.2 ⟨s, hs, rfl⟩
 have ofA : ∀ i, i ∈ A → ∃ s, s ∈ Z ∧ s.i = i := fun i hi => by rw [← hZi] at hi; exact List.mem_map.1 hi
 have hp1 := List.pairwise_map.1 hord.1
 have hp2 := List.pairwise_map.1 (J4 hfine)
 have Rn : Run S.C call ops (fun i => bef.getD i 0) env H Z envF HF := by
  refine ⟨hch, ?_, ?_⟩
  ·refine (hp1.and hp2).imp ?_
   intro x y hxy
   exact ⟨hxy.1.1, hxy.2, hxy.1.2⟩
  intro x hx y hy hne t htt hn
  simp only [tmpsOk, List.all_eq_true, List.mem_range] at ht
  have := ht y.i (lt y hy) x.i (lt x hx)
  rw [(okS x hx).1, (okS y hy).1] at this
  simp only [Option.bind_some, htt, Bool.or_eq_true, beq_iff_eq, Bool.not_eq_true'] at this
  rcases this with h | h | h
  ·exact absurd h hne
  ·have : (YM ops y.o).contains t = true := by simpa using hn
   rw [h] at this; cases this
  rcases Nat.lt_or_gt_of_ne hne with hlt | hlt
  ·rw [Nat.max_eq_right (by omega), Nat.min_eq_left (by omega)] at h
   exact .inl h
  rw [Nat.max_eq_left (by omega), Nat.min_eq_right (by omega)] at h
  exact .inr h
 intro ro n Q fuel listed a w ι hl hf s r hQ
 have key : ∀ (fuel : Nat) (listed : Array Bool) (a1 : Act) (w : World), listed.size = ops.size → (∀ i, i < ops.size → listed.getD i false = true → i ∈ pre ∨ i ∈ A) → (∀ i, i ∈ pre → i < ops.size → listed.getD i false = true) → left ops listed ≤ fuel →
   Inv S.w0 ι a.defers env H Z (fun i => listed.getD i false) a1 w → Cl (fun i => bef.getD i 0) Z (fun i => listed.getD i false) → wpAnyIn (WF ro) n S.P .any ops Q fuel listed a1 w := by
  intro fuel
  induction fuel with
  | zero =>
   intro listed a1 w hsz h1 h2 hcnt hI hc
   have hall : ∀ s, s ∈ Z → listed.getD s.i false = true := by
    intro s hs
    cases hh : listed.getD s.i false with
    | true => rfl
    | false => have := left_pos (ops := ops) (lt s hs) hh; omega
   obtain ⟨ι', hex, hsim, hrel, hds, _⟩ := hI
   obtain ⟨e1, e2⟩ := Zcy Rn.chain (D := fun i => listed.getD i false) hall
   rw [e1] at hsim
   rw [e2] at hrel
   exact hN ro n Q 0 listed a1 w ι' ⟨hsz, fun i hi => ⟨fun hh => List.mem_append.2 (h1 i hi hh), fun hh => by
    rcases List.mem_append.1 hh with hh | hh
    ·exact h2 i hh hi
    obtain ⟨u, hu, rfl⟩ := ofA i hh; exact hall u hu⟩⟩ hcnt hsim hrel fun a' w' ι2 env' H' d1 d2 d3 d4 d5 d6 => hQ a' w' ι2 env' H' (d1.trans hds) (Inj.ex_trans hex d2 (Z5 hch).1) (Nat.le_trans (Z5 hch).1 d3) d4 d5 d6
  | succ fuel ih =>
   intro listed a1 w hsz h1 h2 hcnt hI hc
   by_cases hall : ∀ s, s ∈ Z → listed.getD s.i false = true
   ·obtain ⟨ι', hex, hsim, hrel, hds, _⟩ := hI
    obtain ⟨e1, e2⟩ := Zcy Rn.chain (D := fun i => listed.getD i false) hall
    rw [e1] at hsim
    rw [e2] at hrel
    exact hN ro n Q _ listed a1 w ι' ⟨hsz, fun i hi => ⟨fun hh => List.mem_append.2 (h1 i hi hh), fun hh => by
     rcases List.mem_append.1 hh with hh | hh
     ·exact h2 i hh hi
     obtain ⟨u, hu, rfl⟩ := ofA i hh; exact hall u hu⟩⟩ hcnt hsim hrel fun a' w' ι2 env' H' d1 d2 d3 d4 d5 d6 => hQ a' w' ι2 env' H' (d1.trans hds) (Inj.ex_trans hex d2 (Z5 hch).1) (Nat.le_trans (Z5 hch).1 d3) d4 d5 d6
   have hex : ∃ s, s ∈ Z ∧ listed.getD s.i false = false := by
    apply Classical.byContradiction
    intro hn
    refine hall fun s hs => ?_
    cases hh : listed.getD s.i false with
    | true => rfl
    | false => exact absurd ⟨s, hs, hh⟩ hn
   refine ⟨fun hnil => ?_, fun i hi => ?_⟩
   ·exfalso
    obtain ⟨B1, u, B2, hZ, hB1, hu⟩ := Q4 (D := fun i => listed.getD i false) hex
    have humem : u ∈ Z := by rw [hZ]; exact List.mem_append_right _ (List.mem_cons_self ..)
    have hpw := Rn.pw
    rw [hZ] at hpw
    have hpB := (List.pairwise_cons.1 (List.pairwise_append.1 hpw).2.1).1
    have : u.i ∈ Region.ready .any ops listed := by
     rw [mem_ready]
     refine ⟨by rw [Xr hsz (lt u humem)]; exact hu, u.o, (okS u humem).1, fun e he hbd => ?_⟩
     obtain ⟨hbit, hlt⟩ := E.edge u.i u.o (okS u humem).1 e he hbd
     rcases hin u.i (inA u humem) e.on hlt with (hx | hx) | hx
     ·rw [hbit] at hx; cases hx
     ·exact h2 _ hx hlt
     obtain ⟨x, hx, hxi⟩ := ofA _ hx
     rw [hZ] at hx
     rcases List.mem_append.1 hx with hx | hx
     ·rw [← hxi]; exact hB1 x hx
     rcases List.mem_cons.1 hx with rfl | hx
     ·rw [← hxi, hord.2 x.i (List.mem_map.2 ⟨x, humem, rfl⟩)] at hbit; cases hbit
     rw [← hxi, (hpB x hx).1] at hbit; cases hbit
    rw [hnil] at this; cases this
   obtain ⟨hun, o, ho, hedge⟩ := mem_ready.1 hi
   have hlt := (Array.getElem?_eq_some_iff.1 ho).1
   rw [Xr hsz hlt] at hun
   have hbm : ∀ m, (bef.getD i 0).testBit m = true → m < ops.size → listed.getD m false = true := by
    intro m hm hms
    obtain ⟨e, he, hbd, h⟩ := E.back i o ho m hm
    have hon := hedge e he hbd
    have hlon := (E.edge i o ho e he hbd).2
    rcases h with rfl | h
    ·exact hon
    rcases h1 e.on hlon hon with h3 | h3
    ·exact h2 m (notP h (hcl e.on h3 m hms)) hms
    obtain ⟨x, hx, hxi⟩ := ofA _ h3
    exact hc x hx (by rw [hxi]; exact hon) m (by rw [hxi]; exact h)
   obtain ⟨u, hu, hui⟩ : ∃ u, u ∈ Z ∧ u.i = i := by
    rcases hlate i hlt with (h3 | h3) | h3
    ·rw [h2 i h3 hlt] at hun; cases hun
    ·exact ofA i h3
    obtain ⟨v, hvz, hvf⟩ := hex
    rw [hbm v.i (h3 v.i (inA v hvz)) (lt v hvz)] at hvf; cases hvf
   subst hui
   have hso : u.o = o := by have := (okS u hu).1; rw [ho] at this; cases this; rfl
   subst hso
   have hball : ∀ m, (bef.getD u.i 0).testBit m = true → listed.getD m false = true := fun m hm => hbm m hm (by
    apply Classical.byContradiction
    intro hge
    rw [Nat.testBit_lt_two_pow (Nat.lt_of_lt_of_le (hsm u.i hlt) (Nat.pow_le_pow_right (by omega) (Nat.le_of_not_lt hge)))] at hm
    cases hm)
   have hfun : (fun i => (listed.setIfInBounds u.i true).getD i false) = mark (fun i => listed.getD i false) u.i := funext fun j => Xm hsz hlt
   unfold wpOpIn
   rw [ho]
   refine Zdh S.ok hv Rn hI hc hu hun hball (fun a' w' hI' => ?_)
   refine ih _ a' w' (by simp [hsz]) (fun j hj hjl => ?_) (fun j hj hjs => ?_) (by have := left_set hsz hlt hun; omega) (by rw [hfun]; exact hI') ?_
   ·rw [Xm hsz hlt, Bool.or_eq_true, beq_iff_eq] at hjl
    rcases hjl with rfl | hjl
    ·exact .inr (inA u hu)
    exact h1 j hj hjl
   ·rw [Xm hsz hlt, h2 j hj hjs, Bool.or_true]
   rw [hfun]
   intro v hvz hDv m hm
   by_cases hvi : v.i = u.i
   ·simp only [hvi] at hm
    simp [mark, hball m hm]
   have h0 : listed.getD v.i false = true := by
    simp only [mark, Bool.or_eq_true, beq_iff_eq] at hDv
    rcases hDv with h | h
    ·exact absurd h hvi
    exact h
   have := hc v hvz h0 m hm
   simp only at this
   simp [mark, this]
 have hD0 : ∀ u, u ∈ Z → listed.getD u.i false = false := by
  intro u hu
  cases hh : listed.getD u.i false with
  | false => rfl
  | true => exact absurd ((hl.2 u.i (lt u hu)).1 hh) (hA u.i (inA u hu)).2
 refine key fuel listed a w hl.1 (fun i hi hh => .inl ((hl.2 i hi).1 hh)) (fun i hi his => (hl.2 i his).2 hi) hf ?_ ?_
 ·obtain ⟨X, hX⟩ := hp_ext S.ok.tys (D := fun i => listed.getD i false) hch (fun u hu _ => hD0 u hu)
  refine ⟨ι, Inj.ex_refl _ _, ?_, ?_, rfl, ?_⟩
  ·rw [hX]; exact s.extend X
  ·have : ∀ (T : List St) (e : VEnv), (∀ u, u ∈ T → listed.getD u.i false = false) → ev (fun i => listed.getD i false) T e = e := by
    intro T
    induction T with
    | nil => intro e _; rfl
    | cons u T ih =>
     intro e hT
     unfold ev
     rw [if_neg (by rw [hT u (List.mem_cons_self ..)]; simp)]
     exact ih e fun v hv => hT v (List.mem_cons_of_mem _ hv)
   rw [this Z env hD0]; exact r
  intro u hu _ id hid
  cases hx : ι id with
  | none => rfl
  | some e =>
   have h1 := s.dom id e hx
   have h2 := ((Z5 hch).2.1 u hu).1
   rcases Qs (okS u hu) with ⟨_, _, _, e⟩ | ⟨_, _, _, _, e⟩ | ⟨_, _, _, _, e⟩ | ⟨_, _, _, _, e⟩ | e <;> rw [e] at hid <;> cases hid
   omega
 intro u hu hD
 have hD : listed.getD u.i false = true := hD
 rw [hD0 u hu] at hD; cases hD
theorem B_drawP {H0 : Ze} {rd : Option Nat} {id : Nat} {Q : XV} (bef : Array Nat) (hb : Region.before ops = bef) (h : WP S ops [] env H fun env H => Q .normal env H) : B S H0 rd (.region id ops true) env H Q := by
 intro ro n D0 a w ι g1 g2 g3 g4 g5 g6
 refine wpIn_region_any S.ok.mixed ?_
 refine h ro n _ ops.size (Array.replicate ops.size false) a _ ι ⟨by simp, fun i hi => ?_⟩ ?_ (Sim.drew g4) g5 fun a' w' ι' env' H' d1 d2 d3 d4 d5 d6 => ⟨ι', env', H', d2.go g3, by omega, d4, d5, by rw [d1]; exact g6.df d2.2.2, d6⟩
 ·simp [Array.getD_eq_getD_getElem?, hi]
 exact Nat.le_trans List.countP_le_length (by simp)
end
open Go Go.RowKit
def okPair : Cls → Cls → Bool
 | .calm, _ | _, .calm | .look, .look | .look, .grow | .grow, .look | .grow, .grow => true
 | _, _ => false
def openPos (bef : Array Nat) (ks : List (Nat × Cls)) : List (Nat × Nat) :=
 (List.range ks.length).flatMap fun p => (List.range ks.length).filterMap fun q =>
  match ks[p]?, ks[q]? with
  | some (i, c), some (j, d) => if p < q && !(bef.getD j 0).testBit i && !okPair c d then some (p, q) else none
  | _, _ => none
def kinds (tk : List (Nat × Tr)) : List (Nat × Cls) := tk.map fun p => (p.1, p.2.kind)
structure FineAt (tk : List (Nat × Tr)) (p q : Nat) (i j : Nat) (a b : Item') : Prop where
 l : tk[p]? = some (i, .it a)
 r : tk[q]? = some (j, .it b)
 f : fine a b
def AllF (tk : List (Nat × Tr)) : List (Nat × Nat) → Prop
 | [] => True
 | (p, q) :: l => (∃ i j a b, FineAt tk p q i j a b) ∧ AllF tk l
theorem AllF.mem {tk : List (Nat × Tr)} {p q : Nat} : ∀ {l : List (Nat × Nat)}, AllF tk l → (p, q) ∈ l → ∃ i j a b, FineAt tk p q i j a b
 | [], _, h => by cases h
 | (p', q') :: l, h, hm => by
  rcases List.mem_cons.1 hm with e | hm
  ·cases e; exact h.1
  exact AllF.mem h.2 hm
theorem J3 {p : Nat} : ∀ {l : List (Nat × Tr)} {m : List (Nat × Item')}, Match2 l m → ∀ {j : Nat} {b : Item'}, m[p]? = some (j, b) → ∃ y, l[p]? = some (j, y) ∧ y.ok b
 | _, _, .nil, _, _, h => by simp at h
 | x :: l, y :: m, .cons h t, j, b, hm => by
  cases p with
  | zero =>
   simp only [List.getElem?_cons_zero, Option.some.injEq] at hm ⊢
   subst hm
   exact ⟨x.2, Prod.ext h.1 rfl, h.2⟩
  | succ p => simp only [List.getElem?_cons_succ] at hm ⊢; exact J3 t hm
theorem Zbf {bef : Array Nat} : ∀ {m : List (Nat × Item')}, (∀ (p q i : Nat) (a : Item') (j : Nat) (b : Item'), p < q → m[p]? = some (i, a) → m[q]? = some (j, b) → (bef.getD j 0).testBit i = false → fine a b) → JF bef m
 | [], _ => trivial
 | (i, a) :: m, h => by
  refine ⟨fun y hy hb => ?_, Zbf fun p q i' a' j b hpq h1 h2 h3 => h (p + 1) (q + 1) i' a' j b (by omega) (by simpa using h1) (by simpa using h2) h3⟩
  obtain ⟨q, hq⟩ := List.getElem?_of_mem hy
  exact h 0 (q + 1) i a y.1 y.2 (by omega) rfl (by simpa using hq) hb
theorem fine_ok {a b : Item'} (h : okPair (XZ a) (XZ b) = true) : fine a b := by
 cases a <;> cases b <;> simp [XZ, okPair, fine] at h ⊢
theorem gA {l : List (Nat × Tr)} {x y : Nat × Tr} {p : Nat} (h : l[p]? = some y) : (l ++ [x])[p]? = some y := by
 rw [List.getElem?_append_left (List.getElem?_eq_some_iff.1 h).1]; exact h
theorem gL {l : List (Nat × Tr)} {x : Nat × Tr} {p : Nat} (h : l.length = p) : (l ++ [x])[p]? = some x := by
 subst h; simp
theorem Jz {S : Sys} {ops : Array Oper} {bef : Array Nat} {env : VEnv} {H : Ze} {tk : List (Nat × Tr)} {K : VEnv → Ze → Prop} (ps : List (Nat × Nat)) (hn : openPos bef (kinds tk) = ps) (hp : AllF tk ps) (h : K env H) : WO S ops bef [] env H tk K := by
 refine ⟨fun _ => Zae, fun _ => Jm, fun tr htr => ⟨env, H, tr, rfl, Zbf fun p q i a j b hpq h1 h2 h3 => ?_, h⟩⟩
 obtain ⟨x, e1, o1⟩ := J3 htr h1
 obtain ⟨y, e2, o2⟩ := J3 htr h2
 by_cases hok : okPair (XZ a) (XZ b) = true
 ·exact fine_ok hok
 have hm : (p, q) ∈ ps := by
  rw [← hn]
  have k1 : (kinds tk)[p]? = some (i, x.kind) := by unfold kinds; rw [List.getElem?_map, e1]; rfl
  have k2 : (kinds tk)[q]? = some (j, y.kind) := by unfold kinds; rw [List.getElem?_map, e2]; rfl
  have l1 := (List.getElem?_eq_some_iff.1 k1).1
  have l2 := (List.getElem?_eq_some_iff.1 k2).1
  refine List.mem_flatMap.2 ⟨p, List.mem_range.2 l1, List.mem_filterMap.2 ⟨q, List.mem_range.2 l2, ?_⟩⟩
  simp only [k1, k2, Tr.kind_ok o1, Tr.kind_ok o2, hpq, decide_true, h3, Bool.not_false, Bool.true_and]
  rw [if_pos (by simpa using hok)]
 obtain ⟨i', j', a', b', f⟩ := AllF.mem hp hm
 have g1 := f.l; have g2 := f.r
 rw [e1] at g1; rw [e2] at g2
 simp only [Option.some.injEq, Prod.mk.injEq] at g1 g2
 obtain ⟨_, rfl⟩ := g1
 obtain ⟨_, rfl⟩ := g2
 have h5 : a = a' := o1
 have h6 : b = b' := o2
 rw [h5, h6]; exact f.f
open Go Go.RowKit
section
variable {S : Sys} {H0 H : Ze} {rd : Option Nat} {env : VEnv} {Q : XV}
theorem ZcC {x y : Code} {α : Type} (mask : List Bool) (W : α → List (Nat × VVal)) (inv : α → Ze → Prop)
  (h1 : B S H0 rd x env H (ZcH S H0 (fun e G => ∃ z : α, e = upd (QN mask env) (W z) ∧ inv z G) Q)) (h2 : ∀ z G, inv z G → B S H0 rd y (upd (QN mask env) (W z)) G Q) : B S H0 rd (.seq x y) env H Q := by
 refine Zc (h1.mono ?_)
 intro e v G hq
 cases e
 case normal =>
  obtain ⟨env', H', g, z, rfl, hi⟩ := hq
  exact Zb (Ym g (h2 z H' hi))
 all_goals exact hq
theorem B_ghLV {X : Ze} {c : Code} {env' : VEnv} {es : Nat} {v : VVal} {cs : List VVal} {len : Nat} (i : Nat) (l : LV H.length es X v cs len) (hv : env[i]? = some v) (he : env.set i (.fsl cs len es false) = env')
  (h : ∀ X', X'.length = X.length → (∀ j, ZV v ≠ some (H.length + j) → X'[j]? = X[j]?) → B S H0 rd c env' (H ++ X') Q) : B S H0 rd c env (H ++ X) Q := by
 obtain ⟨X', g, h1, h2⟩ := Gh.freezeLV i l hv he
 exact Ym g (h X' h1 h2)
end
section
variable {S : Sys} {H : Ze} {ops : Array Oper} {bef : Array Nat} {env : VEnv} {K : VEnv → Ze → Prop} {pre : List Nat}
theorem P_env {env' : VEnv} (he : env = env') (h : WP S ops pre env' H K) : WP S ops pre env H K := he ▸ h
theorem P_call (p : Nat) {o : Oper} {f : FuncId} {first cap args : List VVal} {all : List VVal} {R : VVal → Ze → Prop} (hb : ZcK ops bef = true) (hp : pivB ops bef pre p = true) (ho : ops[p]? = some o) (hg : Z7 ops env o.guard = some true) (hc : ZZ S.C.meth env.eval o.op = some (.func f first cap, args)) (ha : first ++ args ++ cap = all)
  (hF : F S f all H R) (h : ∀ v G, R v G → WP S ops (pre ++ [p]) (env.put o.dst v) G K) : WP S ops pre env H K :=
 P_piv p hb hp ho hg hc rfl (Fv_fn (ha ▸ hF)) h
end
open Go Go.RowKit
theorem Zcs {S : Sys} {f : FuncId} {H : Ze} {R : VVal → Ze → Prop} {es : Nat} {ex : Bool} {rest : List VVal} (h1 : F S f (.slice none 0 0 true 0 :: rest) H R) (h2 : F S f (.slice none 0 0 false 0 :: rest) H R) : F S f (.fsl [] 0 es ex :: rest) H R := by
 intro n w ι args' s r
 obtain ⟨y, ys, e, r1, r2⟩ := r
 simp only [Rel] at r1
 obtain ⟨a, c, xs, rfl, hlc, hcx, hnone, _⟩ := r1
 cases a with
 | none =>
  have := hnone rfl
  subst this
  exact h1 n w ι args' s ⟨_, ys, e, by simp [Rel], r2⟩
 | some ad => exact h2 n w ι args' s ⟨_, ys, e, by simp [Rel], r2⟩
section
variable {T : TypeId → Option VTy} {ρ : Operand → VVal} {H : Ze} {op : Op}
theorem Za1 {cs : List VVal} {off n : Nat} (h : off + n ≤ cs.length) : Zo cs off n = some ((cs.drop off).take n) := by
 unfold Zo; rw [if_pos h]
theorem v_slLH {t e : TypeId} {x : Operand} {lo hi mx : Option Operand} {y z : VTy} {b off len cap l h m : Nat} {ex : Bool} (ho : op = .slice t x lo hi mx) (hy : T t = some y) (hd : y.desc = .slice e) (hz : T e = some z) (hs : z.size = 1) (hx : ρ x = .slice (some (b, off)) len cap ex 1)
  (hb : Yp len cap (lo.map ρ) (hi.map ρ) (mx.map ρ) = some (l, h, m)) (hmx : (mx.isSome && hi.isNone) = false) (hc : len ≤ cap) (hl : l < m) : vop T ρ H op = some (.slice (some (b, off + l)) (h - l) (m - l) (ex || mx.isSome) 1, H) := by
 rw [ho]
 have h1 : ((mx.map ρ).isSome && (hi.map ρ).isNone) = false := by simpa using hmx
 simp only [vop, Jw, hy, hd, hz, hx, Option.map_some, hb, h1]
 rw [if_neg (by omega), if_pos ⟨hs, .inl hl⟩]
 simp
theorem vb_lo {len cap l : Nat} {kd : IntKind} (h : l ≤ len) (hc : len ≤ cap) : Yp len cap (some (.int kd l)) none none = some (l, len, cap) := by
 unfold Yp
 simp only
 rw [if_pos (by omega)]; rfl
theorem vb_hi {len cap h : Nat} {kd : IntKind} (hh : h ≤ cap) : Yp len cap none (some (.int kd h)) none = some (0, h, cap) := by
 unfold Yp
 simp only
 rw [if_pos (by omega)]; rfl
theorem vb_lh {len cap l h : Nat} {kd kd2 : IntKind} (hl : l ≤ h) (hh : h ≤ cap) : Yp len cap (some (.int kd l)) (some (.int kd2 h)) none = some (l, h, cap) := by
 unfold Yp
 simp only
 rw [if_pos (show (0 : Int) ≤ h ∧ (h : Int) ≤ cap by omega)]
 simp only [Int.toNat_natCast]
 rw [if_pos (by omega)]
theorem vb_lhm {len cap l h m : Nat} {kd kd2 kd3 : IntKind} (hl : l ≤ h) (hh : h ≤ m) (hm : m ≤ cap) : Yp len cap (some (.int kd l)) (some (.int kd2 h)) (some (.int kd3 m)) = some (l, h, m) := by
 unfold Yp
 simp only
 rw [if_pos (show (0 : Int) ≤ m ∧ (m : Int) ≤ cap by omega)]
 simp only [Int.toNat_natCast]
 rw [if_pos (show (0 : Int) ≤ h ∧ (h : Int) ≤ m by omega)]
 simp only [Int.toNat_natCast]
 rw [if_pos (by omega)]
theorem v_slTail {t e : TypeId} {x lo : Operand} {y z : VTy} {b n l : Nat} {ex rw' : Bool} {cs : List VVal} {kd : IntKind} (ho : op = .slice t x (some lo) none none) (hy : T t = some y) (hd : y.desc = .slice e) (hz : T e = some z) (hs : z.size = 1) (hx : ρ x = .slice (some (b, 0)) n n ex 1) (hlo : ρ lo = .int kd (l : Nat)) (hl : l ≤ n)
  (hb : H[b]? = some (.cells cs rw')) (hcs : cs.length = n) : ∃ v G, vop T ρ H op = some (v, G) ∧ G = H ∧ YO v = some (n - l) ∧ ZU H 1 (n - l) v = some (cs.drop l) := by
 have hbd : Yp n n (some (ρ lo)) none none = some (l, n, n) := by rw [hlo]; exact vb_lo hl (Nat.le_refl _)
 by_cases h : l < n
 ·have := v_slLH (H := H) (lo := some lo) (hi := none) (mx := none) ho hy hd hz hs hx hbd rfl (Nat.le_refl _) h
  refine ⟨_, _, this, rfl, rfl, ?_⟩
  unfold ZU
  simp only [Nat.zero_add, hb, Nat.mul_one]
  rw [Za1 (by omega), List.take_of_length_le (by rw [List.length_drop]; omega)]
 have hln : l = n := by omega
 subst hln
 have hd0 : cs.drop l = [] := List.drop_of_length_le (by omega)
 rw [ho]
 have hb2 : Yp l l (some (ρ lo)) none none = some (l, l, l) := hbd
 simp only [vop, Jw, hy, hd, hz, hx, Option.map_some, Option.map_none, hb2, Option.isSome_none, Option.isNone_none, Bool.false_and]
 rw [if_neg (by omega)]
 by_cases h0 : l = 0
 ·subst h0
  rw [if_pos ⟨hs, .inr ⟨rfl, rfl⟩⟩]
  refine ⟨_, _, rfl, rfl, rfl, ?_⟩
  unfold ZU
  simp only [Nat.zero_add, hb, Nat.mul_one, Nat.sub_self, Nat.zero_mul]
  rw [Za1 (by omega)]; simp [hd0]
 rw [if_neg (by omega), if_pos (by simp [hs])]
 simp only [Bool.or_false, Nat.sub_self]
 by_cases hex : ex = true
 ·rw [if_pos hex]
  refine ⟨_, _, rfl, rfl, rfl, ?_⟩
  unfold ZU
  simp only [hb, Nat.zero_mul]
  rw [Za1 (by omega), hd0]; simp
 rw [if_neg hex]
 refine ⟨_, _, rfl, rfl, rfl, ?_⟩
 unfold ZU; rw [hd0]
theorem Zby {s x : Operand} {ats : Array TypeId} {t u e : TypeId} {z : VTy} {du : TypeDesc} {cs fs : List VVal} {b n k c : Nat} {ex : Bool}
  (ho : op = .call { callee := .builtin .append, args := #[s, x], argTypes := ats }) (hat : ats = #[t, u]) (hz : Y6 T t = some (e, z)) (hu : (T u).map (·.desc) = some du) (hdu : XJ du = true) (hs1 : z.size = 1)
  (hs : ρ s = .slice (some (b, 0)) n c ex 1) (hb : H[b]? = some (.cells cs true)) (hk : YO (ρ x) = some k) (hsrc : ZU H 1 k (ρ x) = some fs) (hn : fs.length = k) (h1 : fs.all VVal.one = true)
  (hby : (n + k) * z.bytes ≤ 140737488355328 ∧ n + k ≤ 140737488355328) (hc : n + k ≤ c) (hl : n ≤ cs.length) : vop T ρ H op = some (.slice (some (b, 0)) (n + k) c ex 1, H.set b (.cells (Zx cs n fs) true)) := by
 rw [ho, hat]
 simp only [vop, ZR, List.map_cons, List.map_nil, Yq, hz, hs, hu, hk]
 rw [hs1, hsrc]
 simp only
 rw [if_pos ⟨by omega, h1, by omega, hby.1, hby.2, hdu⟩, if_pos trivial, hb]
 simp only
 rw [if_pos hc]
 by_cases h0 : k = 0
 ·subst h0
  rw [if_pos rfl]
  have : fs = [] := List.eq_nil_of_length_eq_zero hn
  subst this
  have hsp : Zx cs n [] = cs := by unfold Zx; simp
  rw [hsp]
  have : H.set b (.cells cs true) = H := by
   apply List.ext_getElem?
   intro i
   rw [List.getElem?_set]
   by_cases e : b = i
   ·subst e; rw [if_pos rfl, hb, if_pos (List.getElem?_eq_some_iff.1 hb).1]
   rw [if_neg e]
  rw [this]; rfl
 rw [if_neg h0, if_pos ⟨trivial, by omega⟩]; simp
theorem v_clear1 {x : Operand} {ats : Array TypeId} {t e : TypeId} {z : VTy} {b off n c : Nat} {ex : Bool} {cs : List VVal}
  (ho : op = .call { callee := .builtin .clear, args := #[x], argTypes := ats }) (hat : ats = #[t]) (hz : Y6 T t = some (e, z)) (hs1 : z.size = 1) (h1 : z.size = z.zero.length) (h2 : z.zero.all VVal.one = true) (hx : ρ x = .slice (some (b, off)) n c ex 1) (hb : H[b]? = some (.cells cs true)) (hl : off + n ≤ cs.length) :
  vop T ρ H op = some (.tuple [], H.set b (.cells (Zx cs off (ZH z.zero n)) true)) := by
 have hlen : (ZH z.zero n).length = n := by
  have hz1 : z.zero.length = 1 := by omega
  clear hx hl
  induction n with
  | zero => rfl
  | succ n ih => rw [ZH, List.length_append, ih, hz1]; omega
 rw [ho, hat]
 simp only [vop, ZR, List.map_cons, List.map_nil, Zbk, hz, hx]
 rw [if_pos ⟨h1, by omega, h2⟩, if_pos hs1.symm]
 unfold QM
 simp only [hb]
 rw [if_pos (by rw [hlen]; omega)]
 rfl
end
def LVE (h es : Nat) (X : Ze) (v : VVal) (cs : List VVal) (len : Nat) : Prop := LV h es X v cs len ∨ (len = 0 ∧ cs = [] ∧ ∃ b, v = .slice (some (h + b, 0)) 0 0 true es ∧ X[b]? = some (.cells [] true))
section
variable {h es : Nat} {X : Ze} {v : VVal} {cs : List VVal} {len : Nat}
theorem LVE.init {b : Nat} (hb : X[b]? = some (.cells [] true)) : LVE h es X (.slice (some (h + b, 0)) 0 0 true es) [] 0 := .inr ⟨rfl, rfl, b, rfl, hb⟩
theorem LVE.frame {X' : Ze} (l : LVE h es X v cs len) (hf : ∀ i, ZV v = some (h + i) → X'[i]? = X[i]?) : LVE h es X' v cs len := by
 rcases l with l | ⟨h0, h1, b, rfl, h2⟩
 ·exact .inl (l.frame hf)
 exact .inr ⟨h0, h1, b, rfl, by rw [hf b rfl]; exact h2⟩
theorem LVE.app (l : LVE h es X v cs len) (Y : Ze) : LVE h es (X ++ Y) v cs len := by
 rcases l with l | ⟨h0, h1, b, rfl, h2⟩
 ·exact .inl (l.app Y)
 exact .inr ⟨h0, h1, b, rfl, Zn h2⟩
theorem LVE.cells (l : LVE h es X v cs len) : v.cells = some [v] := by
 rcases l with l | ⟨_, _, b, rfl, _⟩
 ·exact l.cells
 rfl
theorem LVE.one (l : LVE h es X v cs len) : v.one = true := by
 rcases l with l | ⟨_, _, b, rfl, _⟩
 ·exact l.one
 rfl
end
section
variable {T : TypeId → Option VTy} {ρ : Operand → VVal} {H : Ze} {op : Op}
variable {S : Sys} {H0 : Ze}
end
open Go Go.RowKit
theorem Xw {X : Ze} {k : VBlk} : (X ++ [k])[X.length]? = some k := by simp
theorem set_end {X : Ze} {k k' : VBlk} : (X ++ [k]).set X.length k' = X ++ [k'] := by simp
theorem getE {H X Y : Ze} {n j i : Nat} {k : VBlk} (hn : H.length = n) (hj : X.length + i = j) (h : Y[i]? = some k) : (H ++ (X ++ Y))[n + j]? = some k := by
 subst hn; subst hj
 rw [List.getElem?_append_right (by omega), List.getElem?_append_right (by omega), show H.length + (X.length + i) - H.length - X.length = i by omega]; exact h
theorem setE {H X Y : Ze} {n j i : Nat} {k : VBlk} (hn : H.length = n) (hj : X.length + i = j) : (H ++ (X ++ Y)).set (n + j) k = H ++ (X ++ Y.set i k) := by
 subst hn; subst hj
 rw [List.set_append_right _ _ (by omega), List.set_append_right _ _ (by omega), show H.length + (X.length + i) - H.length - X.length = i by omega]
theorem setE0 {H X Y : Ze} {n j : Nat} {k0 k : VBlk} (hn : H.length = n) (hj : X.length = j) : (H ++ (X ++ k0 :: Y)).set (n + j) k = H ++ (X ++ k :: Y) := by
 rw [setE hn (i := 0) (by omega)]; rfl
theorem getE0 {H X Y : Ze} {n j : Nat} {k : VBlk} (hn : H.length = n) (hj : X.length = j) : (H ++ (X ++ k :: Y))[n + j]? = some k := getE hn (i := 0) (by omega) rfl
theorem YT {α : Type} {f : α → VVal} {l : List α} {k : Nat} (d : α) (h : k < l.length) : (l.map f)[((k : Nat) : Int).toNat * 1]? = some (f (l.getD k d)) := by
 have := Jj (f := f) (l := l) (n := (k : Int)) d (by omega)
 rw [Int.toNat_natCast] at this ⊢; exact this
theorem fm_nat {α : Type} {f : α → List VVal} {m : Nat} (hf : ∀ a, (f a).length = m) : ∀ (l : List α) (n : Nat) (d : α), n < l.length → Zo (l.flatMap f) (n * m) m = some (f (l.getD n d))
 | a :: l, 0, d, _ => by
  unfold Zo
  have h1 := hf a
  rw [if_pos (by rw [List.flatMap_cons, List.length_append]; omega), List.flatMap_cons, Nat.zero_mul, List.drop_zero, List.take_left' h1]; rfl
 | a :: l, n + 1, d, h => by
  have h1 := hf a
  have := fm_nat hf l n d (by simpa using h)
  unfold Zo at this ⊢
  have e : (n + 1) * m = m + n * m := by rw [Nat.add_mul, Nat.one_mul, Nat.add_comm]
  rw [List.flatMap_cons, List.length_append, h1, e, ← List.drop_drop, List.drop_left' h1]
  by_cases hh : n * m + m ≤ (l.flatMap f).length
  ·rw [if_pos hh] at this; rw [if_pos (by omega)]; exact this
  rw [if_neg hh] at this; cases this
theorem fm_len {α : Type} {f : α → List VVal} {m : Nat} (hf : ∀ a, (f a).length = m) : ∀ (l : List α), (l.flatMap f).length = l.length * m
 | [] => by simp
 | a :: l => by rw [List.flatMap_cons, List.length_append, hf a, fm_len hf l, List.length_cons, Nat.add_mul, Nat.one_mul, Nat.add_comm]
theorem Zck {α : Type} {f : α → List VVal} {n : Nat} (hf : ∀ a, VVal.underL n (f a) = true) : ∀ l : List α, VVal.underL n (l.flatMap f) = true
 | [] => rfl
 | a :: l => by rw [List.flatMap_cons]; exact VVal.underL_app (hf a) (Zck hf l)
theorem Zah {b : Bool} (h : ¬ b = true) : b = false := by cases b <;> simp_all
theorem Xb (n : Nat) (l : List Int) : VVal.underL n (l.map iI) = true := VVal.underL_map fun _ => rfl
theorem Yu (n : Nat) (l : List (BitVec 64)) : VVal.underL n (l.map iW) = true := VVal.underL_map fun _ => rfl
theorem Zde (n : Nat) (l : List Int) : (fzI l).under n = true := VVal.underL_map fun _ => rfl
theorem YZ (n : Nat) (l : List (BitVec 64)) : (fzW l).under n = true := VVal.underL_map fun _ => rfl
theorem Zax (l : List Int) : (l.map iI).all VVal.one = true := by rw [List.all_map]; exact List.all_eq_true.2 fun _ _ => rfl
theorem Qw (l : List (BitVec 64)) : (l.map iW).all VVal.one = true := by rw [List.all_map]; exact List.all_eq_true.2 fun _ _ => rfl
theorem map_all {α : Type} {f : α → VVal} {l : List α} : Zo (l.map f) 0 (l.length * 1) = some (l.map f) := by
 unfold Zo; rw [if_pos XH14, List.drop_zero, List.take_of_length_le XH14]
theorem LV.appW {h : Nat} {X : Ze} {v : VVal} {l : List (BitVec 64)} {w : BitVec 64} {n : Nat} (r : LV h 1 X v (l.map iW ++ [iW w]) n) : LV h 1 X v ((l ++ [w]).map iW) n := by rw [List.map_append]; exact r
theorem LV.pushI {h : Nat} {X : Ze} {v : VVal} {l : List Int} {w : Int} (r : LV h 1 X v (l.map iI ++ [iI w]) (l.length + 1)) : LV h 1 X v ((l ++ [w]).map iI) (l ++ [w]).length := by rw [List.map_append, List.length_append]; exact r
theorem LV.pushW {h : Nat} {X : Ze} {v : VVal} {l : List (BitVec 64)} {w : BitVec 64} (r : LV h 1 X v (l.map iW ++ [iW w]) (l.length + 1)) : LV h 1 X v ((l ++ [w]).map iW) (l ++ [w]).length := by rw [List.map_append, List.length_append]; exact r
theorem LV.pushF {α : Type} {f : α → List VVal} {h es : Nat} {X : Ze} {v : VVal} {l : List α} {a : α} (r : LV h es X v (l.flatMap f ++ f a) (l.length + 1)) : LV h es X v ((l ++ [a]).flatMap f) (l ++ [a]).length := by
 rw [List.flatMap_append, List.length_append]; simpa using r
theorem Jd {l : List Int} {k : Nat} (h : k < l.length) : l.getD k 0 ∈ l := by
 rw [List.getD_eq_getElem?_getD, List.getElem?_eq_getElem h]; simp
theorem mem_getX {α : Type} {l : List α} {k : Nat} {d : α} (h : k < l.length) : l.getD k d ∈ l := by
 rw [List.getD_eq_getElem?_getD, List.getElem?_eq_getElem h]; simp
theorem Yf {α : Type} {l : List α} {k : Nat} {d : α} (h : k < l.length) : l.take (k + 1) = l.take k ++ [l.getD k d] := by
 rw [List.take_add_one, List.getD_eq_getElem?_getD, List.getElem?_eq_getElem h]; simp
theorem ZbF {α : Type} {l r : List α} {d : α} (hl : l.length = r.length) (h : ∀ j, j < l.length → l.getD j d = r.getD j d) : l = r := by
 apply List.ext_getElem hl
 intro j h1 h2
 have := h j h1
 simpa [List.getD_eq_getElem?_getD, h1, h2] using this
theorem YG {L : Ze} {p : Nat} {k : VBlk} (h : L[p]? = some k) : L = L.set p k := by
 apply List.ext_getElem?
 intro i
 rw [List.getElem?_set]
 by_cases e : p = i
 ·subst e; rw [h]; rw [if_pos rfl, if_pos (List.getElem?_eq_some_iff.1 h).1]
 rw [if_neg e]
theorem v_lenM {T : TypeId → Option VTy} {ρ : Operand → VVal} {H : Ze} {op : Op} {a : Operand} {t kt et : TypeId} {y : VTy} {b : Nat} {es : List (VVal × VVal)} (ho : op = .call { callee := .builtin .len, args := #[a], argTypes := #[t] }) (ha : ρ a = .map (some b)) (hy : T t = some y) (hd : y.desc = .map kt et) (hb : H[b]? = some (.map es)) : vop T ρ H op = some (iI es.length, H) := by
 rw [ho]; simp [vop, ZR, vlen, ha, hy, hd, hb]
theorem qB : (∀ (p : Prop) [Decidable p], (decide p = true) = p) ∧ (∀ (p : Prop) (x : Decidable p), decide p = false ↔ ¬p) ∧ (∀ b : Bool, ((!b) = true) = (b = false)) ∧ (∀ b : Bool, ((!b) = false) = (b = true)) ∧
  (∀ (α : Type) [BEq α] [LawfulBEq α] (a b : α), (a != b) = true ↔ a ≠ b) ∧ (∀ (α : Type) [BEq α] [LawfulBEq α] (a b : α), (a == b) = true ↔ a = b) ∧ (∀ a b : Bool, ((a && b) = true) = (a = true ∧ b = true)) ∧ (∀ a b : Bool, ((a || b) = true) = (a = true ∨ b = true)) ∧
  (∀ b : Bool, (¬b = true) = (b = false)) ∧ (∀ (α : Type) [LE α] (x y : α), x ≥ y ↔ y ≤ x) ∧ (∀ (α : Type) [LT α] (x y : α), x > y ↔ y < x) ∧ (∀ a b : Int, ¬a ≤ b ↔ b < a) ∧ (∀ a b : Int, ¬a < b ↔ b ≤ a) ∧
  (∀ (α : Type) [BEq α] [LawfulBEq α] (a b : α), (a == b) = false ↔ a ≠ b) ∧ (∀ (α : Type) [BEq α] [LawfulBEq α] (a b : α), (a != b) = false ↔ a = b) ∧ (∀ (α : Type) (a b : α), (a ≠ b) = ¬a = b) ∧ (∀ (p : Prop) [Decidable p], ¬¬p ↔ p) ∧
  (∀ a : BitVec 64, (a.toNat : Int) = 0 ↔ a = 0#64) ∧ (∀ a : BitVec 64, (a.toNat : Int) = 1 ↔ a = 1#64) ∧ (∀ a b : BitVec 64, (a.toNat : Int) = b.toNat ↔ a = b) :=
 ⟨fun _ _ => decide_eq_true_eq, fun _ _ => decide_eq_false_iff_not, Bool.not_eq_true', Bool.not_eq_false', fun _ _ _ _ _ => bne_iff_ne, fun _ _ _ _ _ => beq_iff_eq, Bool.and_eq_true, Bool.or_eq_true, Bool.not_eq_true, fun _ _ _ _ => ge_iff_le, fun _ _ _ _ => gt_iff_lt, fun _ _ => Int.not_le, fun _ _ => Int.not_lt,
  fun _ _ _ _ _ => beq_eq_false_iff_ne, fun _ _ _ _ _ => bne_eq_false_iff_eq, fun _ _ _ => ne_eq _ _, fun _ _ => Decidable.not_not, fun _ => wd_zero, fun _ => wd_one, fun _ _ => wd_inj⟩
theorem qN : ∀ n : Nat, (n : Int).toNat = n := Int.toNat_natCast
def mk : Nat → Nat → List Bool
 | 0, _ => []
 | n + 1, k => Nat.beq (k % 2) 1 :: mk n (k / 2)
def LdOk (H : Ze) (p v : VVal) : Prop := (∃ cs off, p = .fptr cs off ∧ cs[off]? = some v) ∨ ∃ b off cs rw, p = .ptr (some (b, off)) ∧ H[b]? = some (.cells cs rw) ∧ cs[off]? = some v
def XF (H : Ze) (p : VVal) (n : Nat) (vs : List VVal) : Prop := (∃ cs off, p = .fptr cs off ∧ Zo cs off n = some vs) ∨ ∃ b off cs rw, p = .ptr (some (b, off)) ∧ H[b]? = some (.cells cs rw) ∧ Zo cs off n = some vs
section
variable {T : TypeId → Option VTy} {ρ : Operand → VVal} {H : Ze} {op : Op}
theorem Yv {t : TypeId} {a : Operand} {y : VTy} {p v : VVal} (ho : op = .load t a) (ha : ρ a = p) (hy : T t = some y) (hd : Zk y.desc = false) (h : LdOk H p v) : vop T ρ H op = some (v, H) := by
 rcases h with ⟨cs, off, rfl, h⟩ | ⟨b, off, cs, rw', rfl, h1, h2⟩
 ·exact v_loadF ho ha hy hd h
 exact v_load ho ha hy hd h1 h2
theorem XI {t : TypeId} {a : Operand} {y : VTy} {p : VVal} {n : Nat} {vs : List VVal} (ho : op = .load t a) (ha : ρ a = p) (hy : T t = some y) (hd : Zk y.desc = true) (hn : y.size = n) (h : XF H p n vs) : vop T ρ H op = some (.agg vs, H) := by
 subst hn
 rcases h with ⟨cs, off, rfl, h⟩ | ⟨b, off, cs, rw', rfl, h1, h2⟩
 ·exact v_loadFA ho ha hy hd h
 exact v_loadA ho ha hy hd h1 h2
def IxOk (p : VVal) (es : Nat) (n : Int) (v : VVal) : Prop := (∃ cs len ex, p = .fsl cs len es ex ∧ (0 ≤ n ∧ n < len) ∧ v = .fptr cs (n.toNat * es)) ∨ ∃ b off len cap ex, p = .slice (some (b, off)) len cap ex es ∧ (0 ≤ n ∧ n < len) ∧ v = .ptr (some (b, off + n.toNat * es))
theorem v_ix {t e : TypeId} {x i : Operand} {y z : VTy} {k : IntKind} {n : Int} {p v : VVal} {es : Nat} (ho : op = .indexAddr t x i) (hx : ρ x = p) (hi : ρ i = .int k n) (hy : T t = some y) (hd : y.desc = .slice e) (hz : T e = some z) (hs : z.size = es) (h : IxOk p es n v) : vop T ρ H op = some (v, H) := by
 rcases h with ⟨cs, len, ex, rfl, hn, rfl⟩ | ⟨b, off, len, cap, ex, rfl, hn, rfl⟩
 ·exact v_idxF ho hx hi hy hd hz hs hn
 exact v_idx ho hx hi hy hd hz hs hn
end
section
variable {S : Sys} {H0 H H' : Ze} {ops : Array Oper} {o : Oper} {l : List Oper} {env : VEnv} {K : VEnv → Ze → Prop} {v : VVal}
theorem Lo (env' : VEnv) (hv : vop S.C.T env.eval H o.op = some (v, H')) (h : WL S H0 ops l env' H' K) (hg : Z7 ops env o.guard = some true := by rfl) (hc : ZZ S.C.meth env.eval o.op = none := by rfl) (he : env.put o.dst v = env' := by rfl) : WL S H0 ops (o :: l) env H K := L_op hg hc hv he h
theorem Lm (env' : VEnv) {j : Nat} (h : WL S H0 ops l env' H K) (ho : o.op = .move (.tmp j) := by rfl) (hv : env[j]? = some v := by rfl) (hg : Z7 ops env o.guard = some true := by rfl) (hc : ZZ S.C.meth env.eval o.op = none := by rfl) (he : env.put o.dst v = env' := by rfl) : WL S H0 ops (o :: l) env H K := L_op hg hc (Yo (.inl ho) hv) he h
theorem La (env' : VEnv) {j : Nat} (h : WL S H0 ops l env' H K) (ho : o.op = .assign (.tmp j) := by rfl) (hv : env[j]? = some v := by rfl) (hg : Z7 ops env o.guard = some true := by rfl) (hc : ZZ S.C.meth env.eval o.op = none := by rfl) (he : env.put o.dst v = env' := by rfl) : WL S H0 ops (o :: l) env H K := L_op hg hc (Yo (.inr ho) hv) he h
theorem Lk (env' : VEnv) (v : VVal) {c : Value} (h : WL S H0 ops l env' H K) (ho : o.op = .assign (.const c) := by rfl) (hv : VVal.ofConst c = v := by rfl) (hg : Z7 ops env o.guard = some true := by rfl) (hc : ZZ S.C.meth env.eval o.op = none := by rfl) (he : env.put o.dst v = env' := by rfl) : WL S H0 ops (o :: l) env H K := L_op hg hc (Z4 v (.inr ho) hv) he h
theorem Lf (env' : VEnv) (h : WL S H0 ops l env' H K) (hg : Z7 ops env o.guard = some false := by rfl) (he : env.put o.dst .skip = env' := by rfl) : WL S H0 ops (o :: l) env H K := L_off hg he h
theorem Le (env' : VEnv) (h : WL S H0 ops l env' H K) (he : env = env' := by rfl) : WL S H0 ops l env H K := L_env he h
end
section
variable {S : Sys} {H H' : Ze} {ops : Array Oper} {bef : Array Nat} {i : Nat} {li : List Nat} {o : Oper} {env : VEnv} {tk tk' : List (Nat × Tr)} {K : VEnv → Ze → Prop} {v : VVal}
theorem Oo (env' : VEnv) (c : Cls) (ho : ops[i]? = some o) (hv : vop S.C.T env.eval H o.op = some (v, H')) (h : WO S ops bef li env' H' tk' K) (hg : Z7 ops env o.guard = some true := by rfl) (hc : ZZ S.C.meth env.eval o.op = none := by rfl) (hk : Yh S.C.T o.op = c := by rfl) (he : env.put o.dst v = env' := by rfl) (ht : tk ++ [(i, .k c)] = tk' := by rfl) : WO S ops bef (i :: li) env H tk K := O_op ho hg hc hv hk he ht h
theorem Om (env' : VEnv) {j : Nat} (h : WO S ops bef li env' H tk' K) (ho : ops[i]? = some o := by rfl) (hm : o.op = .move (.tmp j) := by rfl) (hv : env[j]? = some v := by rfl) (hg : Z7 ops env o.guard = some true := by rfl) (hc : ZZ S.C.meth env.eval o.op = none := by rfl) (hk : Yh S.C.T o.op = .calm := by rfl) (he : env.put o.dst v = env' := by rfl) (ht : tk ++ [(i, .k .calm)] = tk' := by rfl) : WO S ops bef (i :: li) env H tk K := O_op ho hg hc (Yo (.inl hm) hv) hk he ht h
theorem Oc (env' : VEnv) (ho : ops[i]? = some o) (hv : vop S.C.T env.eval H o.op = some (v, H')) (h : WO S ops bef li env' H' tk' K) (hg : Z7 ops env o.guard = some true := by rfl) (hc : ZZ S.C.meth env.eval o.op = none := by rfl) (hk : Yh S.C.T o.op = .calm := by rfl) (he : env.put o.dst v = env' := by rfl) (ht : tk ++ [(i, .k .calm)] = tk' := by rfl) : WO S ops bef (i :: li) env H tk K := O_op ho hg hc hv hk he ht h
theorem Ok (env' : VEnv) (ho : ops[i]? = some o) (hv : vop S.C.T env.eval H o.op = some (v, H')) (h : WO S ops bef li env' H' tk' K) (hg : Z7 ops env o.guard = some true := by rfl) (hc : ZZ S.C.meth env.eval o.op = none := by rfl) (hk : Yh S.C.T o.op = .look := by rfl) (he : env.put o.dst v = env' := by rfl) (ht : tk ++ [(i, .k .look)] = tk' := by rfl) : WO S ops bef (i :: li) env H tk K := O_op ho hg hc hv hk he ht h
theorem Of (env' : VEnv) (ho : ops[i]? = some o) (h : WO S ops bef li env' H tk' K) (hg : Z7 ops env o.guard = some false := by rfl) (he : env.put o.dst .skip = env' := by rfl) (ht : tk ++ [(i, .k .calm)] = tk' := by rfl) : WO S ops bef (i :: li) env H tk K := O_off ho hg he ht h
end
open Go Go.RowKit
def ln (w : BitVec 64) : Nat := if w.toNat = 0 then 0 else Nat.log2 w.toNat + 1
theorem ln_le {w : BitVec 64} {m : Nat} : ln w ≤ m ↔ w.toNat < 2 ^ m := by
 unfold ln
 by_cases h : w.toNat = 0
 ·rw [if_pos h, h]; simp [Nat.two_pow_pos]
 rw [if_neg h]
 constructor
 ·intro e; exact (Nat.log2_lt h).1 (by omega)
 intro e; have := (Nat.log2_lt h).2 e; omega
theorem le_ext2 {a b : Nat} (h : ∀ k, a ≤ k ↔ b ≤ k) : a = b := Nat.le_antisymm ((h b).2 (Nat.le_refl _)) ((h a).1 (Nat.le_refl _))
theorem ZS {w : BitVec 64} {k : Nat} (h : 2 ^ k ≤ w.toNat) : ln w = k + ln (w >>> k) := by
 apply le_ext2
 intro m
 rw [ln_le]
 by_cases hm : m < k
 ·have : 2 ^ m < 2 ^ k := Nat.pow_lt_pow_right (by omega) hm
  omega
 have e : 2 ^ m = 2 ^ k * 2 ^ (m - k) := by rw [← Nat.pow_add]; congr 1; omega
 have : (k + ln (w >>> k) ≤ m ↔ ln (w >>> k) ≤ m - k) := by omega
 rw [this, ln_le, BitVec.toNat_ushiftRight, Nat.shiftRight_eq_div_pow, Nat.div_lt_iff_lt_mul (Nat.two_pow_pos k), e, Nat.mul_comm]
theorem ln_64 (w : BitVec 64) : ln w ≤ 64 := ln_le.2 w.isLt
theorem ln_high {w : BitVec 64} {u : Int} (h : 0 ≤ u) : u ≤ (ln w : Int) - 1 ↔ ¬ w >>> u.toNat = 0#64 := by
 have h1 : (u ≤ (ln w : Int) - 1) ↔ ¬ ln w ≤ u.toNat := by omega
 rw [h1, ln_le]
 refine not_congr ?_
 rw [← BitVec.toNat_inj, BitVec.toNat_ushiftRight, Nat.shiftRight_eq_div_pow]
 show _ ↔ _ = 0
 rw [Nat.div_eq_zero_iff]
 have := Nat.two_pow_pos u.toNat
 omega
def l8 : ByteArray := ⟨((List.range 256).map fun n => UInt8.ofNat (if n = 0 then 0 else Nat.log2 n + 1)).toArray⟩
theorem l8_at {n : Nat} (h : n < 256) : l8[n]? = some (UInt8.ofNat (if n = 0 then 0 else Nat.log2 n + 1)) := by
 show (ByteArray.mk _)[n]? = _
 have hs : l8.size = 256 := by simp [l8, ByteArray.size]
 rw [show (ByteArray.mk ((List.range 256).map fun n => UInt8.ofNat (if n = 0 then 0 else Nat.log2 n + 1)).toArray) = l8 from rfl]
 rw [getElem?_pos l8 n (by rw [hs]; exact h)]
 congr 1
 show l8.data[n]'_ = _
 simp [l8]
theorem wrap_u8 {n : Nat} : IntKind.u8.wrap (n : Int) = ((n % 256 : Nat) : Int) := by
 simp [IntKind.wrap, IntKind.bits, IntKind.signed]
section
variable {T : TypeId → Option VTy} {ρ : Operand → VVal} {H : Ze} {op : Op}
theorem v_l8 {t : TypeId} {x i : Operand} {s : ByteArray} {w : BitVec 64} {y : VTy} (ho : op = .index t x i) (hx : ρ x = .str s) (hs : s = l8) (hi : ρ i = .int .u8 (IntKind.u8.wrap (w.toNat : Int))) (hy : T t = some y) (hd : y.desc = .string) (hw : w.toNat < 256) : vop T ρ H op = some (.int .u8 (ln w : Nat), H) := by
 subst hs
 rw [ho]
 simp only [vop, hx, hi, vindex, hy, hd]
 rw [wrap_u8, Nat.mod_eq_of_lt hw, if_pos (by omega), Int.toNat_natCast, l8_at hw]
 simp only [Option.map_some]
 congr 1; congr 1; congr 1
 unfold ln
 by_cases h : w.toNat = 0
 ·simp [h]
 simp only [if_neg h]
 have h8 : w.toNat.log2 < 8 := (Nat.log2_lt h).2 hw
 simp only [UInt8.toNat_ofNat']
 rw [Nat.mod_eq_of_lt (by omega)]
end
open Go Go.RowKit
def bW (w : BitVec 64) : UInt8 := UInt8.ofNat w.toNat
theorem wrap_ofInt (n : Int) : IntKind.u64.wrap n = ((BitVec.ofInt 64 n).toNat : Int) := by
 have e : IntKind.u64.wrap n = n % 18446744073709551616 := by simp [IntKind.wrap, IntKind.bits, IntKind.signed]
 rw [e, BitVec.toNat_ofInt]
 show n % 18446744073709551616 = ((n % 18446744073709551616).toNat : Int)
 have : 0 ≤ n % 18446744073709551616 := Int.emod_nonneg _ (by decide)
 omega
section
variable {T : TypeId → Option VTy} {ρ : Operand → VVal} {H : Ze} {op : Op} {s d : TypeId} {x : Operand} {ys yd : VTy} {k : IntKind} {n : Int}
theorem v_cv {j : IntKind} (ho : op = .convert s d x) (hx : ρ x = .int k n) (hs : T s = some ys) (hd : T d = some yd) (hj : yd.desc = .int j) : vop T ρ H op = some (.int j (j.wrap n), H) := by
 rw [ho]; simp only [vop, Yw, hx, hs, hd, hj]
theorem Zbq (ho : op = .convert s d x) (hx : ρ x = .int k n) (hs : T s = some ys) (hd : T d = some yd) (hj : yd.desc = .int .i64) (h : -9223372036854775808 ≤ n ∧ n < 9223372036854775808) : vop T ρ H op = some (iI n, H) := by
 rw [v_cv ho hx hs hd hj, Zbi n h]
theorem v_cvW (ho : op = .convert s d x) (hx : ρ x = .int k n) (hs : T s = some ys) (hd : T d = some yd) (hj : yd.desc = .int .u64) : vop T ρ H op = some (iW (BitVec.ofInt 64 n), H) := by
 rw [v_cv ho hx hs hd hj, wrap_ofInt]
theorem Zaa {t ty : TypeId} {x y : Operand} {a : BitVec 64} (m : Nat) (ho : op = .binOp .shr t x y ty) (hx : ρ x = .int .u64 a.toNat) (hy : ρ y = .int k (m : Nat)) : vop T ρ H op = some (iW (a >>> m), H) := by
 have := Xd (T := T) (H := H) ho hx hy (by omega)
 rwa [Int.toNat_natCast] at this
end
theorem Gh.loosen {S : Sys} {H0 H : Ze} {vs vs' : List VVal} (i : Nat) {b off len cap es : Nat} (hv : vs[i]? = some (.slice (some (b, off)) len cap true es)) (he : vs.set i (.slice (some (b, off)) len cap false es) = vs') : Gh S H0 vs H vs' H := by
 subst he
 intro h
 refine ⟨h, fun w ι xs hb s r => ?_⟩
 obtain ⟨x, hx, rx⟩ := r.get i _ hv
 refine ⟨ι, Inj.ex_refl _ _, s, ?_⟩
 have rx' : Rel ι (.slice (some (b, off)) len cap false es) x := by
  simp only [Rel] at rx ⊢
  obtain ⟨e, c, h1, h2, h3, h4, h5⟩ := rx
  exact ⟨e, c, h1, h2, (fun hf => absurd hf (by decide)), h4, h5⟩
 have := RelL.set i r rx'
 rwa [XA hx] at this
structure RG (b es : Nat) (X : Ze) (j : Nat) (v : VVal) (cs : List VVal) (n : Nat) : Prop where
 c : X[j]? = some (.cells [v] true)
 l : LV b es X v cs n
 n : ZV v ≠ some (b + j)
def Kp (b j : Nat) (X : Ze) (v : VVal) (X' : Ze) (v' : VVal) : Prop := ∀ i k, X[i]? = some k → i ≠ j → ZV v ≠ some (b + i) → X'[i]? = some k ∧ ZV v' ≠ some (b + i)
theorem Kp.refl (b j : Nat) (X : Ze) (v : VVal) : Kp b j X v X v := fun _ _ h _ h2 => ⟨h, h2⟩
theorem Kp.trans {b j : Nat} {X X1 X2 : Ze} {v v1 v2 : VVal} (h1 : Kp b j X v X1 v1) (h2 : Kp b j X1 v1 X2 v2) : Kp b j X v X2 v2 := fun i k h3 h4 h5 => by
 obtain ⟨a, c⟩ := h1 i k h3 h4 h5
 exact h2 i k a h4 c
theorem RG.push {b es : Nat} {X : Ze} {j : Nat} {v : VVal} {cs new : List VVal} {n k : Nat} (r : RG b es X j v cs n) {Y1 : Ze} (h1 : Y1.length = X.length) (h2 : ∀ i, ZV v ≠ some (b + i) → Y1[i]? = X[i]?) {m m2 : Nat}
  (h3 : LV b es (Y1 ++ [VBlk.cells new true, VBlk.cells (cs ++ new) true]) (.slice (some (b + (X.length + 1), 0)) m m2 false es) (cs ++ new) k) :
  RG b es ((Y1 ++ [VBlk.cells new true, VBlk.cells (cs ++ new) true]).set j (VBlk.cells [VVal.slice (some (b + (X.length + 1), 0)) m m2 false es] true)) j (.slice (some (b + (X.length + 1), 0)) m m2 false es) (cs ++ new) k ∧
   Kp b j X v ((Y1 ++ [VBlk.cells new true, VBlk.cells (cs ++ new) true]).set j (VBlk.cells [VVal.slice (some (b + (X.length + 1), 0)) m m2 false es] true)) (.slice (some (b + (X.length + 1), 0)) m m2 false es) := by
 have hj : j < X.length := ZG r.c
 refine ⟨⟨?_, ?_, ?_⟩, ?_⟩
 ·exact List.getElem?_set_self (by simp; omega)
 ·refine LV.frame h3 fun i hi => ?_
  simp only [ZV, Option.some.injEq] at hi
  rw [List.getElem?_set_ne (by omega)]
 ·simp only [ZV, ne_eq, Option.some.injEq]; omega
 intro i k hk hij hv
 have hi : i < X.length := ZG hk
 refine ⟨?_, ?_⟩
 ·rw [List.getElem?_set_ne (Ne.symm hij), List.getElem?_append_left (by omega), h2 i hv]; exact hk
 simp only [ZV, ne_eq, Option.some.injEq]; omega
open Go Go.RowKit
theorem setB {H L X : Ze} {n j : Nat} {k : VBlk} (hn : H.length = n) (hj : j < L.length) : ((H ++ L) ++ X).set (n + j) k = (H ++ L.set j k) ++ X := by
 subst hn
 rw [List.set_append_left _ _ (by simp; omega), List.set_append_right _ _ (by omega), Nat.add_sub_cancel_left]
theorem ZcR {H L X : Ze} {n j : Nat} {k : VBlk} (hn : H.length = n) (hj : L[j]? = some k) : ((H ++ L) ++ X)[n + j]? = some k := Zn (ZI hn hj)
section
variable {T : TypeId → Option VTy} {ρ : Operand → VVal} {B : Ze} {op : Op}
theorem Xt {h : Nat} {s x : Operand} {ats : Array TypeId} {t u e : TypeId} {z : VTy} {du : TypeDesc} {v : VVal} {Y : Ze} {cs new : List VVal} {len k : Nat} {kx : Nat}
  (ho : op = .call { callee := .builtin .append, args := #[s, x], argTypes := ats }) (hat : ats = #[t, u]) (hz : Y6 T t = some (e, z)) (hu : (T u).map (·.desc) = some du) (hdu : XJ du = true)
  (hs : ρ s = v) (hx : ρ x = .slice (some (B.length + Y.length, 0)) k kx true z.size) (hh : B.length = h) (l : LV h z.size Y v cs len) (hn : new.length = k * z.size) (h1 : new.all VVal.one = true) (hp : 0 < z.size)
  (hb : (len + k) * z.bytes ≤ 140737488355328 ∧ len + k ≤ 140737488355328) (hk : 0 < k) :
  ∃ u G, vop T ρ (B ++ (Y ++ [.cells new true])) op = some (u, G) ∧ ∃ Y1, u = .slice (some (h + (Y.length + 1), 0)) (len + k) (len + k) false z.size ∧ G = B ++ (Y1 ++ [.cells new true, .cells (cs ++ new) true]) ∧ Y1.length = Y.length ∧ (∀ i, ZV v ≠ some (h + i) → Y1[i]? = Y[i]?) ∧
   LV h z.size (Y1 ++ [.cells new true, .cells (cs ++ new) true]) (.slice (some (h + (Y.length + 1), 0)) (len + k) (len + k) false z.size) (cs ++ new) (len + k) := by
 subst hh
 exact Jx ho hat hz hu hdu hs hx l hn h1 hp hb hk
end
section
variable {S : Sys} {H0 : Ze}
theorem Gh.cellLV {vs : List VVal} {H L X : Ze} {c j h es : Nat} {cs2 cs : List VVal} {v : VVal} {len : Nat} (hc : L[c]? = some (.cells cs2 true)) (hj : cs2[j]? = some v) (hh : (H ++ L).length = h) (l : LV h es X v cs len) :
  ∃ X', Gh S H0 vs ((H ++ L) ++ X) vs ((H ++ L.set c (.cells (cs2.set j (.fsl cs len es false)) true)) ++ X') ∧ X'.length = X.length ∧ ∀ i, ZV v ≠ some (h + i) → X'[i]? = X[i]? := by
 have hcl : c < L.length := ZG hc
 have hc' : ((H ++ L) ++ X)[H.length + c]? = some (.cells cs2 true) := ZcR rfl hc
 rcases l.2 with ⟨rfl, rfl⟩ | ⟨h0, b, rfl, hb⟩
 ·refine ⟨X, ?_, rfl, fun _ _ => rfl⟩
  have hcs : cs = [] := List.eq_nil_of_length_eq_zero (by rw [l.1]; omega)
  subst hcs
  have := Gh.cellNil (S := S) (H0 := H0) (vs := vs) (es' := es) _ j hc' hj
  rwa [setB rfl hcl] at this
 refine ⟨X.set b .dead, ?_, by simp, fun i hi => by rw [List.getElem?_set_ne (fun e => hi (by subst e; rfl))]⟩
 have hbl : b < X.length := ZG hb
 have hg : ((H ++ L) ++ X)[h + b]? = some (.cells cs true) := by subst hh; exact ZI rfl hb
 have hlen : (H ++ L).length = H.length + L.length := by simp
 have hl : Zo cs 0 (len * es) = some cs := by
  unfold Zo; rw [if_pos (by rw [l.1]; omega), List.drop_zero, List.take_of_length_le (by rw [l.1]; omega)]
 have := Gh.cell (S := S) (H0 := H0) (vs := vs) _ j hc' hj (by omega) hg hl (Nat.le_refl _)
 rw [show ((H ++ L) ++ X).set (h + b) .dead = (H ++ L) ++ X.set b .dead by subst hh; exact ZO rfl, setB rfl hcl] at this
 exact this
theorem Ji {rd : Option Nat} {env : VEnv} {Q : XV} {H L X : Ze} {c1 : Code} (c j : Nat) {h es : Nat} {cs2 cs : List VVal} {v : VVal} {len : Nat} (l : LV h es X v cs len) (hc : L[c]? = some (.cells cs2 true)) (hj : cs2[j]? = some v) (hh : (H ++ L).length = h)
  (k : ∀ X', X'.length = X.length → (∀ i, ZV v ≠ some (h + i) → X'[i]? = X[i]?) → B S H0 rd c1 env ((H ++ L.set c (.cells (cs2.set j (.fsl cs len es false)) true)) ++ X') Q) : B S H0 rd c1 env ((H ++ L) ++ X) Q := by
 obtain ⟨X', g, h1, h2⟩ := Gh.cellLV (S := S) (H0 := H0) (vs := env) hc hj hh l
 exact Ym g (k X' h1 h2)
theorem B_ghLVh {rd : Option Nat} {env env' : VEnv} {Q : XV} {B0 X : Ze} {c : Code} {h es : Nat} {v : VVal} {cs : List VVal} {len : Nat} (i : Nat) (l : LV h es X v cs len) (hh : B0.length = h) (hv : env[i]? = some v) (he : env.set i (.fsl cs len es false) = env')
  (k : ∀ X', X'.length = X.length → (∀ j, ZV v ≠ some (h + j) → X'[j]? = X[j]?) → B S H0 rd c env' (B0 ++ X') Q) : B S H0 rd c env (B0 ++ X) Q := by
 subst hh; exact B_ghLV i l hv he k
theorem Gh.freezeEnd {vs vs' : List VVal} {B0 X : Ze} {cs : List VVal} (i : Nat) (hv : vs[i]? = some (.ptr (some (B0.length + X.length, 0)))) (he : vs.set i (.fptr cs 0) = vs') : Gh S H0 vs (B0 ++ (X ++ [.cells cs true])) vs' (B0 ++ (X ++ [.dead])) := by
 have := Gh.freezePtrL (S := S) (H0 := H0) (H := B0) (L := X ++ [.cells cs true]) i X.length hv Xw he
 rwa [set_end] at this
end
section
variable {T : TypeId → Option VTy} {ρ : Operand → VVal} {H : Ze} {op : Op} {t e : TypeId} {x : Operand} {y z : VTy} {k : Nat} {kd : IntKind}
theorem v_iHi {hi : Operand} {l : List Int} (ho : op = .slice t x none (some hi) none) (hy : T t = some y) (hd : y.desc = .slice e) (hz : T e = some z) (hs : z.size = 1) (hx : ρ x = fzI l) (hh : ρ hi = .int kd (k : Nat)) (hk : k ≤ l.length) : vop T ρ H op = some (fzI (l.take k), H) := by
 rw [ZaT ho hy hd hz hs hx hh hk XH14]
 simp [fzI, Nat.min_eq_left hk, List.map_take]
end
theorem LV.keep {h es : Nat} {X Y1 : Ze} {v s : VVal} {cs : List VVal} {len : Nat} (l : LV h es X v cs len) (hd : ∀ n, ZV v = some n → ZV s ≠ some n) (hY : ∀ i, ZV s ≠ some (h + i) → Y1[i]? = X[i]?) : LV h es Y1 v cs len :=
 LV.frame l fun i hi => hY i (hd _ hi)
theorem LV.lt {h es : Nat} {X : Ze} {v : VVal} {cs : List VVal} {len : Nat} (l : LV h es X v cs len) : ∀ n, ZV v = some n → n < h + X.length := fun n hn => by
 rcases l.2 with ⟨_, rfl⟩ | ⟨_, b, rfl, hb⟩
 ·cases hn
 simp only [ZV, Option.some.injEq] at hn
 have := ZG hb; omega
theorem LV.far {h es m : Nat} {X : Ze} {v : VVal} {cs : List VVal} {len : Nat} (l : LV h es X v cs len) (hm : X.length ≤ m) {o : Nat} {n c e2 : Nat} {ex : Bool} : ∀ k, ZV v = some k → ZV (.slice (some (h + m, o)) n c ex e2) ≠ some k := fun k hk e => by
 have := l.lt k hk
 simp only [ZV, Option.some.injEq] at e; omega
def Dj (v s : VVal) : Prop := ∀ n, ZV v = some n → ZV s ≠ some n
theorem Dj.symm {v s : VVal} (d : Dj v s) : Dj s v := fun n h e => d n e h
theorem Dj.nil (v : VVal) {es : Nat} : Dj v (.slice none 0 0 true es) := fun n _ e => by cases e
theorem LV.keepN {h es e2 n n2 : Nat} {X Y1 Z : Ze} {w v1 v2 : VVal} {cs cs2 : List VVal} (hY3 : LV h es (Y1 ++ Z) w cs n) (l2 : LV h e2 X v2 cs2 n2) (d : Dj v2 v1) (hY2 : ∀ i, ZV v1 ≠ some (h + i) → Y1[i]? = X[i]?) : LV h e2 (Y1 ++ Z) v2 cs2 n2 := (LV.keep l2 d hY2).app Z
theorem LV.djN {h es e2 a b n n2 : Nat} {X X' : Ze} {v2 : VVal} {cs cs2 : List VVal} (hY3 : LV h es X' (.slice (some (h + (X.length + 1), 0)) a b false es) cs n) (l2 : LV h e2 X v2 cs2 n2) : Dj v2 (.slice (some (h + (X.length + 1), 0)) a b false es) := LV.far l2 (Nat.le_succ _)
open Go Go.RowKit
structure Gz where
 n : Nat
 p : Nat
 e : Nat
 deriving DecidableEq
instance : Add Gz := ⟨fun a b => ⟨a.n + b.n, a.p + b.p, a.e + b.e⟩⟩
instance : Zero Gz := ⟨⟨0, 0, 0⟩⟩
theorem Gz.ext' {a b : Gz} (h1 : a.n = b.n) (h2 : a.p = b.p) (h3 : a.e = b.e) : a = b := by cases a; cases b; simp only at h1 h2 h3; subst h1 h2 h3; rfl
theorem Gz.add_n (a b : Gz) : (a + b).n = a.n + b.n := rfl
theorem Gz.add_p (a b : Gz) : (a + b).p = a.p + b.p := rfl
theorem Gz.add_e (a b : Gz) : (a + b).e = a.e + b.e := rfl
theorem Gz.assoc (a b c : Gz) : a + b + c = a + (b + c) := Gz.ext' (Nat.add_assoc _ _ _) (Nat.add_assoc _ _ _) (Nat.add_assoc _ _ _)
theorem Gz.zero_add (a : Gz) : 0 + a = a := Gz.ext' (Nat.zero_add _) (Nat.zero_add _) (Nat.zero_add _)
theorem Gz.add_zero (a : Gz) : a + 0 = a := Gz.ext' (Nat.add_zero _) (Nat.add_zero _) (Nat.add_zero _)
theorem Gz.comm (a b : Gz) : a + b = b + a := Gz.ext' (Nat.add_comm _ _) (Nat.add_comm _ _) (Nat.add_comm _ _)
abbrev iN (n : Nat) : VVal := iW (BitVec.ofNat 64 n)
abbrev gaB (g : Gz) : VBlk := .cells [iN g.n, iN g.p, iN g.e] true
theorem iN_add (a b : Nat) : BitVec.ofNat 64 a + BitVec.ofNat 64 b = BitVec.ofNat 64 (a + b) := by
 apply BitVec.eq_of_toNat_eq; simp [BitVec.toNat_add]
theorem iN_one (a : Nat) : BitVec.ofNat 64 a + 1#64 = BitVec.ofNat 64 (a + 1) := iN_add a 1
def IterP (S : Sys) (l s : Nat) : List (Gz × VVal) → Gz → Ze → (Bool → Ze → Prop) → Prop
 | [], d, G, K => ∀ g, G[s]? = some (gaB g) → K true (G.set s (gaB (g + d)))
 | (d0, x) :: xs, d, G, K => ∀ g, G[s]? = some (gaB g) → ∀ L, Fv S (.yield l) [x] (G.set s (gaB (g + d0)) ++ L) fun v G' => ∃ b G1 J, v = .bool b ∧ G' = G1 ++ (L ++ J) ∧ G1.length = G.length ∧ if b = true then (∃ g1, G1[s]? = some (gaB g1)) ∧ IterP S l s xs d G1 K else K false G1
open Go Go.RowKit
def RV (h : Nat) (X : Ze) (v : VVal) (rc : List VVal) : Prop :=
 (rc = [] ∧ v = .slice none 0 0 true 0) ∨ ∃ b cap cs, v = .slice (some (h + b, 0)) rc.length cap false 1 ∧ X[b]? = some (.cells cs true) ∧ cs.length = cap ∧ rc.length ≤ cap ∧ cs.take rc.length = rc
theorem RV.nil (h : Nat) (X : Ze) : RV h X (.slice none 0 0 true 0) [] := .inl ⟨rfl, rfl⟩
theorem RV.cells {h : Nat} {X : Ze} {v : VVal} {rc : List VVal} (r : RV h X v rc) : v.cells = some [v] := by
 rcases r with ⟨_, rfl⟩ | ⟨b, cap, cs, rfl, _⟩ <;> rfl
theorem RV.one {h : Nat} {X : Ze} {v : VVal} {rc : List VVal} (r : RV h X v rc) : v.one = true := by
 rcases r with ⟨_, rfl⟩ | ⟨b, cap, cs, rfl, _⟩ <;> rfl
theorem RV.app {h : Nat} {X : Ze} {v : VVal} {rc : List VVal} (r : RV h X v rc) (Y : Ze) : RV h (X ++ Y) v rc := by
 rcases r with h1 | ⟨b, cap, cs, h1, h2, h3⟩
 ·exact .inl h1
 exact .inr ⟨b, cap, cs, h1, Zn h2, h3⟩
section
variable {T : TypeId → Option VTy} {ρ : Operand → VVal} {H : Ze} {op : Op}
end
open Go
def wdP (P : Nat → Bool) (k : Nat) : BitVec 64 := wd fun i => decide (i < k) && P i
theorem wdP_0 (P : Nat → Bool) : wdP P 0 = 0#64 := YF fun i _ => by simp [wdP, J7]
theorem wdP_yes {P : Nat → Bool} {k : Nat} (h : P k = true) : wdP P k ||| 1#64 <<< k = wdP P (k + 1) := by
 unfold wdP
 rw [wd_orShl]
 refine wd_congr fun i hi => ?_
 by_cases h1 : i = k
 ·subst h1; simp [h]
 by_cases h2 : i < k
 ·have : i < k + 1 := by omega
  simp [h1, h2, this]
 have : ¬ i < k + 1 := by omega
 simp [h1, h2, this]
theorem wdP_no {P : Nat → Bool} {k : Nat} (h : P k = false) : wdP P k = wdP P (k + 1) := by
 unfold wdP
 refine wd_congr fun i hi => ?_
 by_cases h1 : i = k
 ·subst h1; simp [h]
 by_cases h2 : i < k
 ·have : i < k + 1 := by omega
  simp [h2, this]
 have : ¬ i < k + 1 := by omega
 simp [h2, this]
theorem Zbw {P : Nat → Bool} {k i : Nat} (hi : i < 64) : (wdP P k).getLsbD i = (decide (i < k) && P i) := by unfold wdP; rw [J7]; simp [hi]
def bfr (m : Nat) (R : Nat → Nat → Bool) (a b : Int) : Bool := decide (0 ≤ a ∧ a < m) && (decide (0 ≤ b ∧ b < m) && R a.toNat b.toNat)
def prW (m : Nat) (R : Nat → Nat → Bool) (a : Int) : BitVec 64 := wdP (fun i => bfr m R i a) m
def rdP (m : Nat) (R : Nat → Nat → Bool) (d : BitVec 64) (a : Nat) : Bool := !d.getLsbD a && (prW m R a &&& ~~~d == 0#64)
def rdW (m : Nat) (R : Nat → Nat → Bool) (d : BitVec 64) : BitVec 64 := wdP (rdP m R d) m
def dnA (m : Nat) (R : Nat → Nat → Bool) (s : BitVec 64) (a : Nat) : Bool := !s.getLsbD a || (decide (a < m) && (prW m R a &&& ~~~s == 0#64))
def dnW (m : Nat) (R : Nat → Nat → Bool) (s : BitVec 64) : Bool := (List.range 64).all (dnA m R s)
section
variable {m : Nat} {R : Nat → Nat → Bool} {ps ss : List (BitVec 64)}
theorem Ord.prs (o : Ord m R ps ss) (a : Int) : (if 0 ≤ a ∧ a < ps.length then ps.getD a.toNat 0 else 0) = prW m R a := by
 rw [o.pl]
 refine YF fun i hi => ?_
 unfold prW
 rw [Zbw hi]
 by_cases h : 0 ≤ a ∧ a < m
 ·rw [if_pos h, o.pg _ (by omega)]
  unfold bfr
  rw [decide_eq_true h, Bool.true_and, Int.toNat_natCast]
  cases hR : R i a.toNat with
  | false => simp
  | true => have := (o.rg _ _ hR).1; simp [this]
 rw [if_neg h]; unfold bfr; rw [decide_eq_false h]; simp
theorem Ord.pr (o : Ord m R ps ss) {a : Nat} (h : a < m) : ps.getD a 0 = prW m R a := by
 rw [← o.prs, if_pos (by rw [o.pl]; omega), Int.toNat_natCast]
theorem Ord.rd (o : Ord m R ps ss) (d : BitVec 64) : Zcx ps d = rdW m R d := by
 refine YF fun i hi => ?_
 rw [ZbU hi, o.pl]
 unfold rdW
 rw [Zbw hi]
 by_cases h : i < m
 ·rw [o.pr h]; unfold rdP; simp [h, Bool.and_comm]
 simp [h]
theorem Ord.dn (o : Ord m R ps ss) (s : BitVec 64) : downW ps s = dnW m R s := by
 rw [Bool.eq_iff_iff]
 unfold downW dnW
 rw [List.all_eq_true, List.all_eq_true]
 constructor
 ·intro h a ha
  have ha := List.mem_range.1 ha
  unfold dnA
  cases hs : s.getLsbD a with
  | false => rfl
  | true =>
   have := h a (mem_pl.2 ⟨Nat.zero_le _, ha, hs⟩)
   unfold downA at this
   rw [o.pl] at this
   simp only [Bool.and_eq_true, decide_eq_true_eq] at this
   rw [o.pr this.1] at this
   simp [this]
 intro h a ha
 obtain ⟨_, h1, h2⟩ := mem_pl.1 ha
 have := h a (List.mem_range.2 h1)
 unfold dnA at this
 rw [h2] at this
 simp only [Bool.not_true, Bool.false_or, Bool.and_eq_true, decide_eq_true_eq] at this
 unfold downA
 rw [o.pl, o.pr this.1]; simp [this]
end
section
variable {m : Nat} {R : Nat → Nat → Bool} {ps ss : List (BitVec 64)}
end
set_option autoImplicit true
open Go
def lk (J : List (BitVec 64)) (a b : Nat) : Bool := (J.getD a 0).getLsbD b
def nxW (J : List (BitVec 64)) (w : BitVec 64) : BitVec 64 := (pl w 0).foldl (fun n a => n ||| J.getD a 0) 0#64
theorem lk_lt {J : List (BitVec 64)} {a b : Nat} (h : lk J a b = true) : b < 64 := BitVec.lt_of_getLsbD h
theorem fold_bit {J : List (BitVec 64)} {b : Nat} : ∀ {l : List Nat} {n : BitVec 64}, (l.foldl (fun n a => n ||| J.getD a 0) n).getLsbD b = true ↔ n.getLsbD b = true ∨ ∃ a, a ∈ l ∧ lk J a b = true
 | [], n => by simp
 | a :: l, n => by
  rw [List.foldl_cons, fold_bit, BitVec.getLsbD_or, Bool.or_eq_true]
  constructor
  ·rintro ((h | h) | ⟨c, hc, h⟩)
   ·exact .inl h
   ·exact .inr ⟨a, List.mem_cons_self .., h⟩
   exact .inr ⟨c, List.mem_cons_of_mem _ hc, h⟩
  rintro (h | ⟨c, hc, h⟩)
  ·exact .inl (.inl h)
  rcases List.mem_cons.1 hc with rfl | hc
  ·exact .inl (.inr h)
  exact .inr ⟨c, hc, h⟩
theorem nxW_bit {J : List (BitVec 64)} {w : BitVec 64} {b : Nat} : (nxW J w).getLsbD b = true ↔ ∃ a, w.getLsbD a = true ∧ lk J a b = true := by
 unfold nxW
 rw [fold_bit]
 constructor
 ·rintro (h | ⟨a, ha, h⟩)
  ·simp at h
  exact ⟨a, (mem_pl.1 ha).2.2, h⟩
 rintro ⟨a, ha, h⟩
 exact .inr ⟨a, mem_pl.2 ⟨Nat.zero_le _, BitVec.lt_of_getLsbD ha, ha⟩, h⟩
def spr (J : List (BitVec 64)) (s : BitVec 64) : BitVec 64 := wd fun b => s.getLsbD b || (List.range 64).any fun a => s.getLsbD a && rv (lk J) 64 a b
theorem Zbz {J : List (BitVec 64)} {s : BitVec 64} {b : Nat} (hb : b < 64) : (spr J s).getLsbD b = true ↔ s.getLsbD b = true ∨ ∃ a, s.getLsbD a = true ∧ rv (lk J) 64 a b = true := by
 unfold spr
 rw [J7]
 simp only [hb, decide_true, Bool.true_and, Bool.or_eq_true, List.any_eq_true, List.mem_range, Bool.and_eq_true]
 constructor
 ·rintro (h | ⟨a, _, h⟩)
  ·exact .inl h
  exact .inr ⟨a, h⟩
 rintro (h | ⟨a, h⟩)
 ·exact .inl h
 exact .inr ⟨a, BitVec.lt_of_getLsbD h.1, h⟩
def closedW (J : List (BitVec 64)) (w : BitVec 64) : Prop := ∀ a b, w.getLsbD a = true → lk J a b = true → w.getLsbD b = true
def subW (v w : BitVec 64) : Prop := ∀ a, v.getLsbD a = true → w.getLsbD a = true
theorem subW.ext {v w : BitVec 64} (h : subW v w) (h' : subW w v) : v = w := YF fun i _ => by
 cases hv : v.getLsbD i with
 | true => rw [h i hv]
 | false => cases hw : w.getLsbD i with
  | true => rw [h' i hw] at hv; cases hv
  | false => rfl
theorem spr_sub {J : List (BitVec 64)} {s : BitVec 64} : subW s (spr J s) := fun a h => (Zbz (BitVec.lt_of_getLsbD h)).2 (.inl h)
theorem spr_closed {J : List (BitVec 64)} {s : BitVec 64} : closedW J (spr J s) := by
 intro a b ha h
 have ha' := BitVec.lt_of_getLsbD ha
 refine (Zbz (lk_lt h)).2 (.inr ?_)
 rcases (Zbz ha').1 ha with h1 | ⟨c, h1, h2⟩
 ·exact ⟨a, h1, rv_mono (Nat.zero_le 64) h⟩
 exact ⟨c, h1, Ja ha' h2 (rv_mono (Nat.zero_le 64) h)⟩
theorem spr_least {J : List (BitVec 64)} {s w : BitVec 64} (h : subW s w) (hc : closedW J w) : subW (spr J s) w := by
 intro b hb
 rcases (Zbz (BitVec.lt_of_getLsbD hb)).1 hb with h1 | ⟨a, h1, h2⟩
 ·exact h b h1
 exact Qt (R := fun a b => w.getLsbD a = true → w.getLsbD b = true) (fun a b h ha => hc a b ha h) (fun _ _ _ _ h1 h2 h => h2 (h1 h)) h2 (h a h1)
theorem spr_eq {J : List (BitVec 64)} {s w : BitVec 64} (h : subW s w) (hw : subW w (spr J s)) (hc : closedW J w) : w = spr J s := hw.ext (spr_least h hc)
structure SprI (J : List (BitVec 64)) (s0 s f : BitVec 64) : Prop where
 a : subW s0 s
 b : subW s (spr J s0)
 c : ∀ a b, s.getLsbD a = true → f.getLsbD a = false → lk J a b = true → s.getLsbD b = true
theorem SprI.init {J : List (BitVec 64)} {s : BitVec 64} : SprI J s s s := ⟨fun _ h => h, spr_sub, fun a b h h' => by rw [h] at h'; cases h'⟩
theorem SprI.done {J : List (BitVec 64)} {s0 s : BitVec 64} (h : SprI J s0 s 0#64) : s = spr J s0 := spr_eq h.a h.b fun a b ha hl => h.c a b ha (by simp) hl
theorem SprI.next {J : List (BitVec 64)} {s0 s f : BitVec 64} (hf : subW f s) (h : SprI J s0 s f) : SprI J s0 (s ||| nxW J f) (nxW J f &&& ~~~s) := by
 refine ⟨fun a ha => ?_, fun b hb => ?_, fun a b ha hf' hl => ?_⟩
 ·rw [BitVec.getLsbD_or, h.a a ha]; rfl
 ·rw [BitVec.getLsbD_or, Bool.or_eq_true] at hb
  rcases hb with hb | hb
  ·exact h.b b hb
  obtain ⟨a, ha, hl⟩ := nxW_bit.1 hb
  exact spr_closed a b (h.b a (hf a ha)) hl
 rw [BitVec.getLsbD_or, Bool.or_eq_true]
 have ha64 := BitVec.lt_of_getLsbD ha
 by_cases hs : s.getLsbD a = true
 ·cases hfa : f.getLsbD a with
  | true => exact .inr (nxW_bit.2 ⟨a, hfa, hl⟩)
  | false => exact .inl (h.c a b hs hfa hl)
 rw [BitVec.getLsbD_or, Bool.or_eq_true] at ha
 have hn := ha.resolve_left hs
 rw [BitVec.getLsbD_and, BitVec.getLsbD_not, hn, Bool.true_and, decide_eq_true ha64, Bool.true_and] at hf'
 exact absurd (by simpa using hf') hs
theorem ZbG (s : BitVec 64) : YA 64 s ≤ 64 := by unfold YA; exact Nat.le_trans List.countP_le_length (by simp)
theorem Jt {s t : BitVec 64} (h : subW s t) (hx : ∃ a, t.getLsbD a = true ∧ s.getLsbD a = false) : YA 64 s < YA 64 t := by
 obtain ⟨a, h1, h2⟩ := hx
 exact ZaZ (fun x _ => h x) ⟨a, List.mem_range.2 (BitVec.lt_of_getLsbD h1), h1, h2⟩
structure Rk (J : List (BitVec 64)) : Prop where
 len : J.length = 64
 acy : ∀ a, rv (lk J) 64 a a = false
def rk0 : List (BitVec 64) := List.replicate 64 0#64
theorem lk_0 {a b : Nat} : lk rk0 a b = false := by
 unfold lk rk0
 rw [List.getD_eq_getElem?_getD, List.getElem?_replicate]
 split <;> simp
theorem Rk.zero : Rk rk0 := ⟨by unfold rk0; simp, fun a => by
 cases h : rv (lk rk0) 64 a a with
 | false => rfl
 | true => exact (Qt (R := fun _ _ => False) (fun a b h => by rw [lk_0] at h; cases h) (fun _ _ _ _ h _ => h) h).elim⟩
theorem Rk.less {J J' : List (BitVec 64)} (r : Rk J) (hl : J'.length = J.length) (h : ∀ a b, lk J' a b = true → lk J a b = true) : Rk J' := ⟨hl.trans r.len, fun a => by
 cases hr : rv (lk J') 64 a a with
 | false => rfl
 | true =>
  have := Qt (R := fun a b => rv (lk J) 64 a b = true) (fun a b e => rv_mono (Nat.zero_le 64) (h a b e)) (fun _ _ _ hc h1 h2 => Ja hc h1 h2) hr
  rw [r.acy a] at this; cases this⟩
def hgt (J : List (BitVec 64)) (a : Nat) : Nat := (List.range 64).countP (rv (lk J) 64 a)
open Go
abbrev GSt : Type := List Int × BitVec 64
def grL (g : Int → GSt → Bool × GSt) (row : Int) : List Nat → GSt → Bool × GSt
 | [], s => (false, s)
 | u :: l, s =>
  if s.2.getLsbD u = true then grL g row l s
  else if s.1.getD u 0 = 0 then (true, (s.1.set u (row + 1), s.2 ||| 1#64 <<< u))
  else if (g (s.1.getD u 0 - 1) (s.1, s.2 ||| 1#64 <<< u)).1 = true then (true, ((g (s.1.getD u 0 - 1) (s.1, s.2 ||| 1#64 <<< u)).2.1.set u (row + 1), (g (s.1.getD u 0 - 1) (s.1, s.2 ||| 1#64 <<< u)).2.2))
  else grL g row l (g (s.1.getD u 0 - 1) (s.1, s.2 ||| 1#64 <<< u)).2
def grw (rows : List (BitVec 64)) : Nat → Int → GSt → Bool × GSt
 | 0, _, s => (false, s)
 | n + 1, row, s => grL (grw rows n) row (pl (rows.getD row.toNat 0 &&& ~~~s.2) 0) s
def J5 (O : List Int) (r : Int) : Nat := (List.range 64).countP fun u => O.getD u 0 == r + 1
structure Gok (rows : List (BitVec 64)) (O : List Int) : Prop where
 len : O.length = 64
 nn : ∀ u, u < 64 → 0 ≤ O.getD u 0 ∧ O.getD u 0 ≤ rows.length
 may : ∀ u, u < 64 → O.getD u 0 ≠ 0 → (rows.getD (O.getD u 0 - 1).toNat 0).getLsbD u = true
theorem Z0 {O : List Int} {u v : Nat} {r : Int} (h : u < O.length) : (O.set u r).getD v 0 = if v = u then r else O.getD v 0 := by
 rw [List.getD_eq_getElem?_getD, List.getElem?_set]
 by_cases e : u = v
 ·subst e; rw [if_pos rfl, if_pos h, if_pos rfl]; rfl
 rw [if_neg e, if_neg (fun x => e x.symm), List.getD_eq_getElem?_getD]
theorem Gok.set {rows : List (BitVec 64)} {O : List Int} (k : Gok rows O) {u : Nat} {row : Int} (hu : u < 64) (hr : 0 ≤ row ∧ row < rows.length) (hm : (rows.getD row.toNat 0).getLsbD u = true) : Gok rows (O.set u (row + 1)) := by
 have hul : u < O.length := by rw [k.len]; exact hu
 refine ⟨by rw [List.length_set]; exact k.len, fun v hv => ?_, fun v hv h => ?_⟩
 ·rw [Z0 hul]; split
  ·omega
  exact k.nn v hv
 rw [Z0 hul] at h ⊢
 split
 ·rename_i e; subst e; rw [show row + 1 - 1 = row by omega]; exact hm
 rename_i e; rw [if_neg e] at h; exact k.may v hv h
theorem own_set {O : List Int} {u : Nat} {row r : Int} (hO : O.length = 64) (hu : u < 64) : J5 (O.set u (row + 1)) r + (if O.getD u 0 = r + 1 then 1 else 0) = J5 O r + if row = r then 1 else 0 := by
 have hul : u < O.length := by rw [hO]; exact hu
 have h : ∀ n, (List.range n).countP (fun v => (O.set u (row + 1)).getD v 0 == r + 1) + (if u < n ∧ O.getD u 0 = r + 1 then 1 else 0) = (List.range n).countP (fun v => O.getD v 0 == r + 1) + if u < n ∧ row = r then 1 else 0 := by
  intro n
  induction n with
  | zero => simp
  | succ n ih =>
   rw [List.range_succ, List.countP_append, List.countP_append, List.countP_singleton, List.countP_singleton, Z0 hul]
   by_cases e : n = u
   ·subst e
    simp only [Nat.lt_irrefl, false_and, if_false, Nat.add_zero] at ih
    simp only [if_true, Nat.lt_succ_self, true_and, beq_iff_eq]
    rw [ih]
    by_cases h1 : row = r
    ·have : row + 1 = r + 1 := by omega
     simp only [h1, if_true]; omega
    have : ¬ row + 1 = r + 1 := by omega
    simp only [this, h1, if_false]; omega
   rw [if_neg e]
   have e2 : (u < n + 1) ↔ u < n := by omega
   simp only [e2]; omega
 have := h 64
 simp only [hu, true_and] at this
 exact this
structure Gro (rows : List (BitVec 64)) (row : Int) (s : GSt) (b : Bool) (t : GSt) : Prop where
 sub : subW s.2 t.2
 yes : b = true → Gok rows t.1 ∧ (∀ u, s.2.getLsbD u = true → t.1.getD u 0 = s.1.getD u 0) ∧ ∀ r, 0 ≤ r → J5 t.1 r = J5 s.1 r + if row = r then 1 else 0
 no : b = false → t.1 = s.1 ∧ (∀ u, (rows.getD row.toNat 0).getLsbD u = true → t.2.getLsbD u = true) ∧ ∀ u, t.2.getLsbD u = true → s.2.getLsbD u = false → s.1.getD u 0 ≠ 0 ∧ subW (rows.getD (s.1.getD u 0 - 1).toNat 0) t.2
theorem or1 {w : BitVec 64} {u a : Nat} (hu : u < 64) : (w ||| 1#64 <<< u).getLsbD a = true ↔ w.getLsbD a = true ∨ a = u := by
 rw [Jy]; simp only [Bool.or_eq_true, Bool.and_eq_true, decide_eq_true_eq]
 constructor
 ·rintro (h | ⟨h, _⟩)
  ·exact .inl h
  exact .inr h
 rintro (h | h)
 ·exact .inl h
 exact .inr ⟨h, by omega⟩
theorem grL_ok {rows : List (BitVec 64)} {g : Int → GSt → Bool × GSt} {row : Int} (hr : 0 ≤ row ∧ row < rows.length) {k : Nat}
  (hg : ∀ (r : Int) t, 0 ≤ r → r < rows.length → Gok rows t.1 → 64 - YA 64 t.2 < k → Gro rows r t (g r t).1 (g r t).2) :
  ∀ {l : List Nat} {s0 s : GSt}, (∀ u, u ∈ l → (rows.getD row.toNat 0).getLsbD u = true) → Gok rows s.1 → 64 - YA 64 s.2 ≤ k → s.1 = s0.1 → subW s0.2 s.2 →
   (∀ u, (rows.getD row.toNat 0).getLsbD u = true → s.2.getLsbD u = true ∨ u ∈ l) → (∀ u, s.2.getLsbD u = true → s0.2.getLsbD u = false → s0.1.getD u 0 ≠ 0 ∧ subW (rows.getD (s0.1.getD u 0 - 1).toNat 0) s.2) →
   Gro rows row s0 (grL g row l s).1 (grL g row l s).2
 | [], s0, s, _, _, _, he, hsub, hall, hcl => by
  refine ⟨hsub, (fun h => by cases h), fun _ => ⟨he, fun u hu => (hall u hu).elim id (fun h => by cases h), hcl⟩⟩
 | u :: l, s0, s, hl, hk, hm, he, hsub, hall, hcl => by
  have hu := hl u (List.mem_cons_self ..)
  have hu64 := BitVec.lt_of_getLsbD hu
  have hl' : ∀ v, v ∈ l → (rows.getD row.toNat 0).getLsbD v = true := fun v hv => hl v (List.mem_cons_of_mem _ hv)
  have huO : u < s.1.length := by rw [hk.len]; exact hu64
  rw [grL]
  split
  ·rename_i hs
   refine grL_ok hr hg hl' hk hm he hsub (fun v hv => ?_) hcl
   rcases hall v hv with h | h
   ·exact .inl h
   rcases List.mem_cons.1 h with e | h
   ·subst e; exact .inl hs
   exact .inr h
  rename_i hs
  have hsf : s.2.getLsbD u = false := by cases h : s.2.getLsbD u <;> simp_all
  have hs0 : s0.2.getLsbD u = false := by
   cases h : s0.2.getLsbD u with
   | false => rfl
   | true => rw [hsub u h] at hsf; cases hsf
  have hs1 : subW s.2 (s.2 ||| 1#64 <<< u) := fun a ha => (or1 hu64).2 (.inl ha)
  have hnn := hk.nn u hu64
  split
  ·rename_i h0
   refine ⟨fun a ha => hs1 a (hsub a ha), fun _ => ⟨hk.set hu64 hr hu, fun v hv => ?_, fun r hr0 => ?_⟩, (fun h => by cases h)⟩
   ·rw [Z0 huO, if_neg (fun e => by subst e; rw [hv] at hs0; cases hs0), he]
   have := own_set (row := row) (r := r) hk.len hu64
   rw [h0] at this
   rw [← he]
   rw [if_neg (by omega)] at this; exact this
  rename_i h0
  have hgk := hg (s.1.getD u 0 - 1) (s.1, s.2 ||| 1#64 <<< u) (by omega) (by omega) hk (by
   have := Jt hs1 ⟨u, (or1 hu64).2 (.inr rfl), hsf⟩
   have := ZbG (s.2 ||| 1#64 <<< u)
   simp only; omega)
  split
  ·rename_i hb
   obtain ⟨g1, g2, g3⟩ := hgk.yes hb
   have hlen := g1.len
   refine ⟨fun a ha => hgk.sub a (hs1 a (hsub a ha)), fun _ => ⟨g1.set hu64 hr hu, fun v hv => ?_, fun r hr0 => ?_⟩, (fun h => by cases h)⟩
   ·rw [Z0 (by rw [hlen]; exact hu64), if_neg (fun e => by subst e; rw [hv] at hs0; cases hs0), g2 v (hs1 v (hsub v hv)), he]
   have h1 := own_set (row := row) (r := r) hlen hu64
   have h2 := g3 r hr0
   have h3 := g2 u ((or1 hu64).2 (.inr rfl))
   simp only at h2 h3
   rw [h3] at h1
   rw [← he]
   show J5 ((g (s.1.getD u 0 - 1) (s.1, s.2 ||| 1#64 <<< u)).2.1.set u (row + 1)) r = J5 s.1 r + (if row = r then 1 else 0)
   by_cases hq : s.1.getD u 0 = r + 1
   ·rw [if_pos hq] at h1; rw [if_pos (by omega)] at h2; omega
   rw [if_neg hq] at h1; rw [if_neg (by omega)] at h2; omega
  rename_i hb
  have hbf : (g (s.1.getD u 0 - 1) (s.1, s.2 ||| 1#64 <<< u)).1 = false := by
   cases h : (g (s.1.getD u 0 - 1) (s.1, s.2 ||| 1#64 <<< u)).1 <;> simp_all
  obtain ⟨g1, g2, g3⟩ := hgk.no hbf
  simp only at g1 g2 g3
  have hsub2 : subW s.2 (g (s.1.getD u 0 - 1) (s.1, s.2 ||| 1#64 <<< u)).2.2 := fun a ha => hgk.sub a (hs1 a ha)
  refine grL_ok hr hg hl' (by rw [g1]; exact hk) ?_ (g1.trans he) (fun a ha => hsub2 a (hsub a ha)) (fun v hv => ?_) fun v hv hv0 => ?_
  ·have : YA 64 s.2 ≤ YA 64 (g (s.1.getD u 0 - 1) (s.1, s.2 ||| 1#64 <<< u)).2.2 := List.countP_mono_left fun x _ hx => hsub2 x hx
   omega
  ·rcases hall v hv with h | h
   ·exact .inl (hsub2 v h)
   rcases List.mem_cons.1 h with e | h
   ·subst e; exact .inl (hgk.sub v ((or1 hu64).2 (.inr rfl)))
   exact .inr h
  rw [← he]
  by_cases h1 : s.2.getLsbD v = true
  ·have := hcl v h1 hv0
   rw [← he] at this
   exact ⟨this.1, fun a ha => hsub2 a (this.2 a ha)⟩
  by_cases e : v = u
  ·subst e; exact ⟨h0, g2⟩
  have h1f : (s.2 ||| 1#64 <<< u).getLsbD v = false := by
   cases h : (s.2 ||| 1#64 <<< u).getLsbD v with
   | false => rfl
   | true => exact ((or1 hu64).1 h).elim (fun h => absurd h h1) fun h => absurd h e
  exact g3 v hv h1f
theorem grw_ok {rows : List (BitVec 64)} : ∀ {n : Nat} {row : Int} {s : GSt}, 0 ≤ row → row < rows.length → Gok rows s.1 → 64 - YA 64 s.2 < n → Gro rows row s (grw rows n row s).1 (grw rows n row s).2
 | 0, row, s, _, _, _, h => by omega
 | n + 1, row, s, h1, h2, hk, h => by
  rw [grw]
  refine grL_ok (k := n) ⟨h1, h2⟩ (fun r t a b c d => grw_ok a b c (by omega)) (fun u hu => ?_) hk (by omega) rfl (fun _ h => h) (fun u hu => ?_) fun u hu hu' => by rw [hu] at hu'; cases hu'
  ·have := (mem_pl.1 hu).2.2
   rw [BitVec.getLsbD_and, Bool.and_eq_true] at this; exact this.1
  have hu64 := BitVec.lt_of_getLsbD hu
  cases hs : s.2.getLsbD u with
  | true => exact .inl rfl
  | false => exact .inr (mem_pl.2 ⟨Nat.zero_le _, hu64, by rw [BitVec.getLsbD_and, hu, BitVec.getLsbD_not, hs]; simp [hu64]⟩)
theorem come_le2 {s t : BitVec 64} (h : subW s t) : YA 64 s ≤ YA 64 t := List.countP_mono_left fun x _ hx => h x hx
open Go
structure MatU (l : List (BitVec 64)) (us : List Nat) : Prop where
 len : us.length = l.length
 nd : us.Nodup
 ok : ∀ k, k < l.length → (l.getD k 0).getLsbD (us.getD k 0) = true
def Mat (l : List (BitVec 64)) : Prop := ∃ us, MatU l us
def szO (rows : List (BitVec 64)) : Nat → List Int × Nat
 | 0 => (List.replicate 64 0, 0)
 | k + 1 => ((grw rows 65 k ((szO rows k).1, 0#64)).2.1, if (grw rows 65 k ((szO rows k).1, 0#64)).1 = true then (szO rows k).2 + 1 else (szO rows k).2)
def szN (rows : List (BitVec 64)) : Nat := (szO rows rows.length).2
theorem szO_le {rows : List (BitVec 64)} : ∀ {k : Nat}, (szO rows k).2 ≤ k
 | 0 => Nat.le_refl _
 | k + 1 => by
  have := @szO_le rows k
  rw [szO]; simp only; split <;> omega
theorem Gok.init {rows : List (BitVec 64)} : Gok rows (List.replicate 64 0) := by
 have h : ∀ u, (List.replicate 64 (0 : Int)).getD u 0 = 0 := fun u => by
  rw [List.getD_eq_getElem?_getD, List.getElem?_replicate]; split <;> rfl
 exact ⟨by simp, fun u _ => by rw [h]; omega, fun u _ h' => absurd (h u) h'⟩
theorem szO_gro {rows : List (BitVec 64)} {k : Nat} (hk : k < rows.length) (hg : Gok rows (szO rows k).1) : Gro rows k ((szO rows k).1, 0#64) (grw rows 65 k ((szO rows k).1, 0#64)).1 (grw rows 65 k ((szO rows k).1, 0#64)).2 :=
 grw_ok (by omega) (by omega) hg (by rw [ZcA]; omega)
theorem Zad {rows : List (BitVec 64)} : ∀ {k : Nat}, k ≤ rows.length → Gok rows (szO rows k).1
 | 0, _ => Gok.init
 | k + 1, h => by
  have hg := szO_gro (show k < rows.length by omega) (Zad (by omega))
  rw [szO]
  cases hb : (grw rows 65 k ((szO rows k).1, 0#64)).1 with
  | true => exact (hg.yes hb).1
  | false => rw [show ((grw rows 65 (k : Int) ((szO rows k).1, 0#64)).2.1, _).1 = _ from rfl, (hg.no hb).1]; exact Zad (by omega)
theorem ownd_0 {r : Int} (h : 0 ≤ r) : J5 (List.replicate 64 0) r = 0 := by
 unfold J5
 rw [List.countP_eq_zero]
 intro u hu
 rw [List.getD_eq_getElem?_getD, List.getElem?_replicate]
 split <;> simp <;> omega
theorem szO_own {rows : List (BitVec 64)} : ∀ {k : Nat}, k ≤ rows.length → (szO rows k).2 = k → ∀ r : Nat, J5 (szO rows k).1 r = if r < k then 1 else 0
 | 0, _, _, r => by rw [szO]; simp only; rw [ownd_0 (by omega)]; rfl
 | k + 1, h, hn, r => by
  have hg := szO_gro (show k < rows.length by omega) (Zad (by omega))
  have hle := @szO_le rows k
  rw [szO] at hn
  simp only at hn
  cases hb : (grw rows 65 k ((szO rows k).1, 0#64)).1 with
  | false => rw [hb] at hn; simp at hn; omega
  | true =>
   rw [hb] at hn; simp only [if_true] at hn
   have ih := szO_own (show k ≤ rows.length by omega) (by omega) r
   have := (hg.yes hb).2.2 r (by omega)
   rw [szO]; simp only
   rw [this]; simp only
   rw [ih]
   by_cases e : r = k
   ·subst e; simp
   have : ¬ ((k : Int) = (r : Int)) := by omega
   rw [if_neg this]
   by_cases h1 : r < k
   ·rw [if_pos h1, if_pos (by omega)]
   rw [if_neg h1, if_neg (by omega)]
theorem ZaX : ∀ {l m : List Nat}, l.Nodup → (∀ x, x ∈ l → x ∈ m) → l.length ≤ m.length
 | [], m, _, _ => by simp
 | x :: l, m, hn, h => by
  have hx := h x (List.mem_cons_self ..)
  have hn' := List.nodup_cons.1 hn
  have := ZaX (l := l) (m := m.erase x) hn'.2 fun y hy => by
   have hne : y ≠ x := fun e => hn'.1 (e ▸ hy)
   exact (List.mem_erase_of_ne hne).2 (h y (List.mem_cons_of_mem _ hy))
  rw [List.length_erase_of_mem hx] at this
  have hp := List.length_pos_of_mem hx
  rw [List.length_cons]; omega
theorem pl_nodup (w : BitVec 64) : (pl w 0).Nodup := by
 unfold pl
 exact List.Nodup.sublist List.filter_sublist (List.nodup_range' ..)
theorem own_one {O : List Int} {u v : Nat} {r : Int} (hu : u < 64) (hv : v < 64) (h1 : O.getD u 0 = r + 1) (h2 : O.getD v 0 = r + 1) (hne : u ≠ v) : 2 ≤ J5 O r := by
 unfold J5
 rw [List.countP_eq_length_filter]
 exact ZaX (l := [u, v]) (by simp [hne]) fun x hx => by
  simp only [List.mem_cons, List.not_mem_nil, or_false] at hx
  rcases hx with rfl | rfl
  ·exact List.mem_filter.2 ⟨List.mem_range.2 hu, by rw [beq_iff_eq]; exact h1⟩
  exact List.mem_filter.2 ⟨List.mem_range.2 hv, by rw [beq_iff_eq]; exact h2⟩
theorem JY {us : List Nat} (h : us.Nodup) {i j : Nat} (hi : i < us.length) (hj : j < us.length) (e : us.getD i 0 = us.getD j 0) : i = j := by
 rw [List.getD_eq_getElem?_getD, List.getD_eq_getElem?_getD, List.getElem?_eq_getElem hi, List.getElem?_eq_getElem hj] at e
 have hp := List.pairwise_iff_getElem.1 (List.nodup_iff_pairwise_ne.1 h)
 rcases Nat.lt_trichotomy i j with h1 | h1 | h1
 ·exact absurd e (hp i j hi hj h1)
 ·exact h1
 exact absurd (Eq.symm e) (hp j i hj hi h1)
theorem no_mat {rows : List (BitVec 64)} {k : Nat} (hk : k < rows.length) (hn : (szO rows k).2 = k) (hb : (grw rows 65 k ((szO rows k).1, 0#64)).1 = false) : ¬ Mat rows := by
 rintro ⟨us, hm⟩
 have hok := Zad (rows := rows) (k := k) (by omega)
 have hg := szO_gro hk hok
 obtain ⟨_, h1, h2⟩ := hg.no hb
 have hown := szO_own (rows := rows) (k := k) (by omega) hn
 simp only at h1 h2
 let S := (grw rows 65 k ((szO rows k).1, 0#64)).2.2
 let O := (szO rows k).1
 have h2' : ∀ u, u ∈ pl S 0 → u < 64 ∧ O.getD u 0 ≠ 0 ∧ subW (rows.getD (O.getD u 0 - 1).toNat 0) S := fun u hu => by
  have hb := (mem_pl.1 hu).2
  exact ⟨hb.1, h2 u hb.2 (by simp)⟩
 -- the owner of such a place is one of the rows before
 have hlt : ∀ u, u ∈ pl S 0 → (O.getD u 0 - 1).toNat < k := fun u hu => by
  have hu2 := h2' u hu
  have hnn := hok.nn u hu2.1
  have h0 : O.getD u 0 ≠ 0 := hu2.2.1
  have hpos : 0 < J5 O ((O.getD u 0 - 1).toNat : Nat) := by
   unfold J5
   rw [List.countP_pos_iff]
   exact ⟨u, List.mem_range.2 hu2.1, by
    have : O.getD u 0 = (((O.getD u 0 - 1).toNat : Nat) : Int) + 1 := by
     have : 0 ≤ O.getD u 0 := hnn.1
     omega
    simpa using this⟩
  have := hown (O.getD u 0 - 1).toNat
  by_cases h : (O.getD u 0 - 1).toNat < k
  ·exact h
  rw [if_neg h] at this
  have : J5 O ((O.getD u 0 - 1).toNat : Nat) = 0 := this
  omega
 have hus : us.length = rows.length := hm.len
 have hnd : ((pl S 0).map fun u => us.getD (O.getD u 0 - 1).toNat 0).Nodup := by
  rw [List.nodup_iff_pairwise_ne, List.pairwise_map]
  refine (List.nodup_iff_pairwise_ne.1 (pl_nodup S)).imp_of_mem ?_
  intro u v hu hv hne e
  have l1 := hlt u hu
  have l2 := hlt v hv
  have e' := JY hm.nd (by omega) (by omega) e
  have hu2 := h2' u hu
  have hv2 := h2' v hv
  have n1 : 0 ≤ O.getD u 0 := (hok.nn u hu2.1).1
  have n2 : 0 ≤ O.getD v 0 := (hok.nn v hv2.1).1
  have hu0 := hu2.2.1
  have hv0 := hv2.2.1
  have := own_one (O := O) (r := O.getD u 0 - 1) hu2.1 hv2.1 (by omega) (by omega) hne
  have h3 := hown (O.getD u 0 - 1).toNat
  rw [if_pos l1, show (((O.getD u 0 - 1).toNat : Nat) : Int) = O.getD u 0 - 1 by omega] at h3
  have h3 : J5 O (O.getD u 0 - 1) = 1 := h3
  omega
 have hall : ((us.getD k 0) :: (pl S 0).map fun u => us.getD (O.getD u 0 - 1).toNat 0).Nodup := by
  refine List.nodup_cons.2 ⟨fun hmem => ?_, hnd⟩
  obtain ⟨u, hu, e⟩ := List.mem_map.1 hmem
  have l1 := hlt u hu
  have := JY hm.nd (by omega) (by omega) e
  omega
 have := ZaX hall (m := pl S 0) fun x hx => by
  rcases List.mem_cons.1 hx with rfl | hx
  ·have hk' := hm.ok k hk
   exact mem_pl.2 ⟨Nat.zero_le _, BitVec.lt_of_getLsbD hk', h1 _ (by rw [Int.toNat_natCast]; exact hk')⟩
  obtain ⟨u, hu, rfl⟩ := List.mem_map.1 hx
  have hk' := hm.ok (O.getD u 0 - 1).toNat (by have := hlt u hu; omega)
  exact mem_pl.2 ⟨Nat.zero_le _, BitVec.lt_of_getLsbD hk', (h2' u hu).2.2 _ hk'⟩
 rw [List.length_cons, List.length_map] at this
 omega
theorem szO_step {rows : List (BitVec 64)} (hm : Mat rows) : ∀ {k : Nat}, k ≤ rows.length → (szO rows k).2 = k
 | 0, _ => rfl
 | k + 1, h => by
  have ih := szO_step hm (show k ≤ rows.length by omega)
  rw [szO]; simp only
  cases hb : (grw rows 65 k ((szO rows k).1, 0#64)).1 with
  | true => simp; omega
  | false => exact absurd hm (no_mat (by omega) ih hb)
theorem full_iff {rows : List (BitVec 64)} : szN rows = rows.length ↔ Mat rows := by
 constructor
 ·intro h
  have hok := Zad (rows := rows) (Nat.le_refl _)
  have hown := szO_own (rows := rows) (Nat.le_refl _) h
  have hex : ∀ r, r < rows.length → ∃ u, u < 64 ∧ (szO rows rows.length).1.getD u 0 = (r : Int) + 1 := fun r hr => by
   have := hown r
   rw [if_pos hr] at this
   have : 0 < J5 (szO rows rows.length).1 r := by omega
   unfold J5 at this
   obtain ⟨u, hu, e⟩ := List.countP_pos_iff.1 this
   exact ⟨u, List.mem_range.1 hu, by simpa using e⟩
  let f : Nat → Nat := fun r => ((List.range 64).find? fun u => (szO rows rows.length).1.getD u 0 == (r : Int) + 1).getD 0
  have hf : ∀ r, r < rows.length → f r < 64 ∧ (szO rows rows.length).1.getD (f r) 0 = (r : Int) + 1 := fun r hr => by
   obtain ⟨u, hu, e⟩ := hex r hr
   cases hfd : (List.range 64).find? fun u => (szO rows rows.length).1.getD u 0 == (r : Int) + 1 with
   | none =>
    have := List.find?_eq_none.1 hfd u (List.mem_range.2 hu)
    rw [e] at this; simp at this
   | some v =>
    have h1 := List.mem_of_find?_eq_some hfd
    have h2 := List.find?_some hfd
    show ((List.range 64).find? fun u => (szO rows rows.length).1.getD u 0 == (r : Int) + 1).getD 0 < 64 ∧ (szO rows rows.length).1.getD (((List.range 64).find? fun u => (szO rows rows.length).1.getD u 0 == (r : Int) + 1).getD 0) 0 = (r : Int) + 1
    rw [hfd]
    exact ⟨List.mem_range.1 h1, by simpa using h2⟩
  have hg : ∀ k, k < rows.length → ((List.range rows.length).map f).getD k 0 = f k := fun k hk => by
   rw [List.getD_eq_getElem?_getD, List.getElem?_map, List.getElem?_range hk]; rfl
  refine ⟨(List.range rows.length).map f, by simp, ?_, fun k hk => ?_⟩
  ·rw [List.nodup_iff_pairwise_ne, List.pairwise_map]
   refine (List.nodup_iff_pairwise_ne.1 List.nodup_range).imp_of_mem ?_
   intro a b ha hb hne e
   have h1 := (hf a (List.mem_range.1 ha)).2
   have h2 := (hf b (List.mem_range.1 hb)).2
   rw [e, h2] at h1
   omega
  rw [hg k hk]
  have := hf k hk
  have hmay := hok.may (f k) this.1 (by rw [this.2]; omega)
  rw [this.2, show (k : Int) + 1 - 1 = k by omega, Int.toNat_natCast] at hmay
  exact hmay
 intro h; exact szO_step h (Nat.le_refl _)
open Go
def msk (l : List (BitVec 64)) (t : BitVec 64) : List (BitVec 64) := l.map fun w => w &&& ~~~t
theorem Yg {l : List (BitVec 64)} {t : BitVec 64} : (msk l t).length = l.length := by unfold msk; simp
theorem msk_bit {w t : BitVec 64} {u : Nat} : (w &&& ~~~t).getLsbD u = true ↔ w.getLsbD u = true ∧ t.getLsbD u = false := by
 rw [BitVec.getLsbD_and, BitVec.getLsbD_not, Bool.and_eq_true]
 constructor
 ·rintro ⟨h1, h2⟩; exact ⟨h1, by simpa [BitVec.lt_of_getLsbD h1] using h2⟩
 rintro ⟨h1, h2⟩; exact ⟨h1, by rw [h2, decide_eq_true (BitVec.lt_of_getLsbD h1)]; rfl⟩
theorem msk_0 {l : List (BitVec 64)} : msk l 0#64 = l := by
 unfold msk
 conv => rhs; rw [← List.map_id l]
 apply List.map_congr_left
 intro w _
 refine YF fun i hi => ?_
 rw [BitVec.getLsbD_and, BitVec.getLsbD_not, BitVec.getLsbD_zero, decide_eq_true hi]
 simp
theorem msk_msk {l : List (BitVec 64)} {s t : BitVec 64} : msk (msk l s) t = msk l (s ||| t) := by
 unfold msk
 rw [List.map_map]
 apply List.map_congr_left
 intro w _
 refine YF fun i hi => ?_
 simp only [Function.comp, BitVec.getLsbD_and, BitVec.getLsbD_not, BitVec.getLsbD_or, hi, decide_true, Bool.true_and, Bool.not_or, Bool.and_assoc]
def Yk (l : List (BitVec 64)) (t : BitVec 64) : Bool := szN (msk l t) == l.length
theorem fullB_iff {l : List (BitVec 64)} {t : BitVec 64} : Yk l t = true ↔ Mat (msk l t) := by
 unfold Yk; rw [beq_iff_eq, ← full_iff, Yg]
theorem matU_nil {us : List Nat} : MatU [] us ↔ us = [] := by
 constructor
 ·intro h; exact List.eq_nil_of_length_eq_zero h.len
 rintro rfl; exact ⟨rfl, List.nodup_nil, fun k h => by simp at h⟩
theorem matU_cons {w : BitVec 64} {l : List (BitVec 64)} {u : Nat} {us : List Nat} : MatU (w :: l) (u :: us) ↔ w.getLsbD u = true ∧ u ∉ us ∧ MatU l us := by
 constructor
 ·intro h
  have hn := List.nodup_cons.1 h.nd
  exact ⟨h.ok 0 (by simp), hn.1, ⟨by simpa using h.len, hn.2, fun k hk => h.ok (k + 1) (by simpa using hk)⟩⟩
 rintro ⟨h1, h2, h3⟩
 refine ⟨by simp [h3.len], List.nodup_cons.2 ⟨h2, h3.nd⟩, fun k hk => ?_⟩
 cases k with
 | zero => exact h1
 | succ k => exact h3.ok k (by simpa using hk)
theorem matU_msk : ∀ {l : List (BitVec 64)} {us : List Nat} {t : BitVec 64}, MatU (msk l t) us ↔ MatU l us ∧ ∀ u, u ∈ us → t.getLsbD u = false
 | [], us, t => by
  show MatU [] us ↔ _
  rw [matU_nil]
  constructor
  ·rintro rfl; exact ⟨rfl, fun u h => by cases h⟩
  exact fun h => h.1
 | w :: l, [], t => by
  constructor
  ·intro h; have := h.len; simp [msk] at this
  intro h; have := h.1.len; simp at this
 | w :: l, u :: us, t => by
  show MatU ((w &&& ~~~t) :: msk l t) (u :: us) ↔ _
  rw [matU_cons, matU_cons, matU_msk, msk_bit]
  constructor
  ·rintro ⟨⟨h1, h2⟩, h3, h4, h5⟩
   exact ⟨⟨h1, h3, h4⟩, fun v hv => (List.mem_cons.1 hv).elim (fun e => e ▸ h2) (h5 v)⟩
  rintro ⟨⟨h1, h2, h3⟩, h4⟩
  exact ⟨⟨h1, h4 u (List.mem_cons_self ..)⟩, h2, h3, fun v hv => h4 v (List.mem_cons_of_mem _ hv)⟩
theorem XL {u v : Nat} (hu : u < 64) : (1#64 <<< u : BitVec 64).getLsbD v = false ↔ v ≠ u := by
 rw [Qa]
 by_cases h : v = u
 ·subst h; simp [hu]
 simp [h]
theorem mat_cons {w : BitVec 64} {l : List (BitVec 64)} : Mat (w :: l) ↔ ∃ u, w.getLsbD u = true ∧ Mat (msk l (1#64 <<< u)) := by
 constructor
 ·rintro ⟨us, h⟩
  cases us with
  | nil => have := h.len; simp at this
  | cons u us =>
   obtain ⟨h1, h2, h3⟩ := matU_cons.1 h
   have hu := BitVec.lt_of_getLsbD h1
   exact ⟨u, h1, us, matU_msk.2 ⟨h3, fun v hv => (XL hu).2 fun e => h2 (e ▸ hv)⟩⟩
 rintro ⟨u, h1, us, h2⟩
 have hu := BitVec.lt_of_getLsbD h1
 obtain ⟨h3, h4⟩ := matU_msk.1 h2
 exact ⟨u :: us, matU_cons.2 ⟨h1, fun hm => (XL hu).1 (h4 u hm) rfl, h3⟩⟩
theorem mat_consT {w : BitVec 64} {l : List (BitVec 64)} {t : BitVec 64} : Mat (msk (w :: l) t) ↔ ∃ u, (w &&& ~~~t).getLsbD u = true ∧ Mat (msk l (t ||| 1#64 <<< u)) := by
 show Mat ((w &&& ~~~t) :: msk l t) ↔ _
 rw [mat_cons]
 simp only [msk_msk]
theorem Zcg : ∀ {i : Nat} {l : List (BitVec 64)} {t : BitVec 64}, i < l.length → (Mat (msk l t) ↔ ∃ u, (l.getD i 0 &&& ~~~t).getLsbD u = true ∧ Mat (msk (l.eraseIdx i) (t ||| 1#64 <<< u)))
 | _, [], _, h => by simp at h
 | 0, w :: l, t, _ => mat_consT
 | i + 1, w :: l, t, h => by
  have hi : i < l.length := by simpa using h
  rw [mat_consT]
  simp only [List.getD_cons_succ, List.eraseIdx_cons_succ]
  have sw : ∀ u v : Nat, t ||| 1#64 <<< u ||| 1#64 <<< v = t ||| 1#64 <<< v ||| 1#64 <<< u := fun u v => by rw [BitVec.or_assoc, BitVec.or_comm (1#64 <<< u), ← BitVec.or_assoc]
  constructor
  ·rintro ⟨u, h1, h2⟩
   obtain ⟨v, h3, h4⟩ := (Zcg hi).1 h2
   obtain ⟨h1a, h1b⟩ := msk_bit.1 h1
   obtain ⟨h3a, h3b⟩ := msk_bit.1 h3
   have hu := BitVec.lt_of_getLsbD h1a
   have hv := BitVec.lt_of_getLsbD h3a
   rw [BitVec.getLsbD_or, Bool.or_eq_false_iff] at h3b
   have hne := (XL hu).1 h3b.2
   refine ⟨v, msk_bit.2 ⟨h3a, h3b.1⟩, mat_consT.2 ⟨u, msk_bit.2 ⟨h1a, ?_⟩, by rw [sw]; exact h4⟩⟩
   rw [BitVec.getLsbD_or, h1b, (XL hv).2 (Ne.symm hne)]; rfl
  rintro ⟨v, h3, h4⟩
  obtain ⟨u, h1, h2⟩ := mat_consT.1 h4
  obtain ⟨h1a, h1b⟩ := msk_bit.1 h1
  obtain ⟨h3a, h3b⟩ := msk_bit.1 h3
  have hu := BitVec.lt_of_getLsbD h1a
  have hv := BitVec.lt_of_getLsbD h3a
  rw [BitVec.getLsbD_or, Bool.or_eq_false_iff] at h1b
  have hne := (XL hv).1 h1b.2
  refine ⟨u, msk_bit.2 ⟨h1a, h1b.1⟩, (Zcg hi).2 ⟨v, msk_bit.2 ⟨h3a, ?_⟩, by rw [sw]; exact h2⟩⟩
  rw [BitVec.getLsbD_or, h3b, (XL hu).2 (Ne.symm hne)]; rfl
theorem mat_pull0 {i : Nat} {l : List (BitVec 64)} (hi : i < l.length) : Mat l ↔ ∃ u, (l.getD i 0).getLsbD u = true ∧ Mat (msk (l.eraseIdx i) (1#64 <<< u)) := by
 have := Zcg (t := 0#64) hi
 rw [msk_0] at this
 rw [this]
 have h0 : ∀ u : Nat, (0#64 : BitVec 64) ||| 1#64 <<< u = 1#64 <<< u := fun u => by simp
 simp only [h0, msk_bit]
 simp
def lst : List (BitVec 64) → BitVec 64 → List Nat
 | [], _ => []
 | w :: l, t => match (pl (w &&& ~~~t) 0).find? (fun u => Yk l (t ||| 1#64 <<< u)) with
  | some u => u :: lst l (t ||| 1#64 <<< u)
  | none => lst l t
theorem lst_ok : ∀ {l : List (BitVec 64)} {t : BitVec 64}, Mat (msk l t) → MatU (msk l t) (lst l t)
 | [], t, _ => matU_nil.2 rfl
 | w :: l, t, h => by
  obtain ⟨u, h1, h2⟩ := mat_consT.1 h
  rw [lst]
  cases hf : (pl (w &&& ~~~t) 0).find? (fun u => Yk l (t ||| 1#64 <<< u)) with
  | none =>
   have := List.find?_eq_none.1 hf u (mem_pl.2 ⟨Nat.zero_le _, BitVec.lt_of_getLsbD h1, h1⟩)
   rw [fullB_iff.2 h2] at this; simp at this
  | some v =>
   have hv := (mem_pl.1 (List.mem_of_find?_eq_some hf)).2
   have hv2 : Mat (msk l (t ||| 1#64 <<< v)) := fullB_iff.1 (by have := List.find?_some hf; exact this)
   have ih := matU_msk.1 (lst_ok hv2)
   show MatU ((w &&& ~~~t) :: msk l t) _
   refine matU_cons.2 ⟨hv.2, fun hm => ?_, matU_msk.2 ⟨ih.1, fun x hx => ?_⟩⟩
   ·have := ih.2 v hm
    rw [BitVec.getLsbD_or, Bool.or_eq_false_iff] at this
    exact (XL hv.1).1 this.2 rfl
   have := ih.2 x hx
   rw [BitVec.getLsbD_or, Bool.or_eq_false_iff] at this
   exact this.1
def frF (l : List (BitVec 64)) (i : Nat) (us : List Nat) : BitVec 64 := us.foldl (fun f u => if Yk (l.eraseIdx i) (1#64 <<< u) = true then f ||| 1#64 <<< u else f) 0#64
def frW (l : List (BitVec 64)) (i : Nat) : BitVec 64 := frF l i (pl (l.getD i 0) 0)
theorem frF_snoc {l : List (BitVec 64)} {i : Nat} {us : List Nat} {u : Nat} : frF l i (us ++ [u]) = if Yk (l.eraseIdx i) (1#64 <<< u) = true then frF l i us ||| 1#64 <<< u else frF l i us := by
 unfold frF; rw [List.foldl_append]; rfl
theorem frW_bit {l : List (BitVec 64)} {i u : Nat} : (frW l i).getLsbD u = true ↔ (l.getD i 0).getLsbD u = true ∧ Mat (msk (l.eraseIdx i) (1#64 <<< u)) := by
 have h : ∀ (us : List Nat) (f : BitVec 64), (∀ v, v ∈ us → v < 64) → ((us.foldl (fun f u => if Yk (l.eraseIdx i) (1#64 <<< u) = true then f ||| 1#64 <<< u else f) f).getLsbD u = true ↔ f.getLsbD u = true ∨ (u ∈ us ∧ Mat (msk (l.eraseIdx i) (1#64 <<< u)))) := by
  intro us
  induction us with
  | nil => intro f _; simp
  | cons v us ih =>
   intro f hv
   have hv64 := hv v (List.mem_cons_self ..)
   rw [List.foldl_cons, ih _ fun x hx => hv x (List.mem_cons_of_mem _ hx)]
   by_cases hf : Yk (l.eraseIdx i) (1#64 <<< v) = true
   ·rw [if_pos hf, or1 hv64]
    constructor
    ·rintro ((h | h) | h)
     ·exact .inl h
     ·subst h; exact .inr ⟨List.mem_cons_self .., fullB_iff.1 hf⟩
     exact .inr ⟨List.mem_cons_of_mem _ h.1, h.2⟩
    rintro (h | ⟨h, h2⟩)
    ·exact .inl (.inl h)
    rcases List.mem_cons.1 h with rfl | h
    ·exact .inl (.inr rfl)
    exact .inr ⟨h, h2⟩
   rw [if_neg hf]
   constructor
   ·rintro (h | h)
    ·exact .inl h
    exact .inr ⟨List.mem_cons_of_mem _ h.1, h.2⟩
   rintro (h | ⟨h, h2⟩)
   ·exact .inl h
   rcases List.mem_cons.1 h with rfl | h
   ·exact absurd (fullB_iff.2 h2) hf
   exact .inr ⟨h, h2⟩
 unfold frW frF
 rw [h _ _ fun v hv => (mem_pl.1 hv).2.1]
 constructor
 ·rintro (h | ⟨h, h2⟩)
  ·simp at h
  exact ⟨(mem_pl.1 h).2.2, h2⟩
 rintro ⟨h, h2⟩
 exact .inr ⟨mem_pl.2 ⟨Nat.zero_le _, BitVec.lt_of_getLsbD h, h⟩, h2⟩
theorem frW_one {l : List (BitVec 64)} {i u : Nat} (hi : i < l.length) (hu : u < 64) : (frW l i).getLsbD u = true ↔ Mat (l.set i (l.getD i 0 &&& 1#64 <<< u)) := by
 rw [mat_pull0 (i := i) (by rw [List.length_set]; exact hi), frW_bit]
 have h1 : (l.set i (l.getD i 0 &&& 1#64 <<< u)).getD i 0 = l.getD i 0 &&& 1#64 <<< u := by
  rw [List.getD_eq_getElem?_getD, List.getElem?_set_self hi]; rfl
 have h2 : (l.set i (l.getD i 0 &&& 1#64 <<< u)).eraseIdx i = l.eraseIdx i := List.eraseIdx_set_eq
 rw [h1, h2]
 constructor
 ·rintro ⟨h3, h4⟩
  exact ⟨u, by rw [BitVec.getLsbD_and, h3, Qa]; simp [hu], h4⟩
 rintro ⟨v, h3, h4⟩
 rw [BitVec.getLsbD_and, Bool.and_eq_true, Qa, Bool.and_eq_true, decide_eq_true_eq] at h3
 obtain ⟨h3, rfl, _⟩ := h3
 exact ⟨h3, h4⟩
theorem getD_memN {us : List Nat} {i : Nat} (h : i < us.length) : us.getD i 0 ∈ us := by
 rw [List.getD_eq_getElem?_getD, List.getElem?_eq_getElem h]; exact List.getElem_mem h
theorem matU_er : ∀ {i : Nat} {l : List (BitVec 64)} {us : List Nat}, MatU l us → i < l.length → MatU (l.eraseIdx i) (us.eraseIdx i) ∧ ∀ v, v ∈ us.eraseIdx i → v ≠ us.getD i 0 ∧ v ∈ us
 | _, [], _, _, h => by simp at h
 | _, _ :: _, [], h, _ => by have := h.len; simp at this
 | 0, w :: l, u :: us, h, _ => by
  obtain ⟨h1, h2, h3⟩ := matU_cons.1 h
  exact ⟨h3, fun v hv => ⟨fun e => h2 (by have e : v = u := e; rw [← e]; exact hv), List.mem_cons_of_mem _ hv⟩⟩
 | i + 1, w :: l, u :: us, h, hi => by
  obtain ⟨h1, h2, h3⟩ := matU_cons.1 h
  have hi' : i < l.length := by simpa using hi
  obtain ⟨h4, h5⟩ := matU_er h3 hi'
  have hiu : i < us.length := by rw [h3.len]; exact hi'
  rw [List.eraseIdx_cons_succ, List.eraseIdx_cons_succ, List.getD_cons_succ]
  refine ⟨matU_cons.2 ⟨h1, fun hm => h2 (h5 u hm).2, h4⟩, fun v hv => ?_⟩
  rcases List.mem_cons.1 hv with rfl | hv
  ·exact ⟨fun e => h2 (e ▸ getD_memN hiu), List.mem_cons_self ..⟩
  exact ⟨(h5 v hv).1, List.mem_cons_of_mem _ (h5 v hv).2⟩
theorem matU_erase {i : Nat} {l : List (BitVec 64)} {us : List Nat} (h : MatU l us) (hi : i < l.length) : (frW l i).getLsbD (us.getD i 0) = true := by
 obtain ⟨h1, h2⟩ := matU_er h hi
 have hb := h.ok i hi
 exact frW_bit.2 ⟨hb, _, matU_msk.2 ⟨h1, fun v hv => (XL (BitVec.lt_of_getLsbD hb)).2 (h2 v hv).1⟩⟩
open Go
theorem ZaU (s : BitVec 64) : subW s s := fun _ h => h
theorem QH {a b c : BitVec 64} (h : subW a b) (k : subW b c) : subW a c := fun u x => k u (h u x)
theorem subW_or {s : BitVec 64} {u : Nat} : subW s (s ||| 1#64 <<< u) := fun a h => by rw [Jy, h, Bool.true_or]
theorem Zcj {g : Int → GSt → Bool × GSt} {row : Int} (hg : ∀ r t, subW t.2 (g r t).2.2) : ∀ (l : List Nat) (s : GSt), subW s.2 (grL g row l s).2.2
 | [], s => ZaU _
 | u :: l, s => by
  rw [grL]
  split
  ·exact Zcj hg l s
  split
  ·exact subW_or
  have h1 : subW s.2 (g (s.1.getD u 0 - 1) (s.1, s.2 ||| 1#64 <<< u)).2.2 := QH subW_or (hg _ (s.1, s.2 ||| 1#64 <<< u))
  split
  ·exact h1
  exact QH h1 (Zcj hg l _)
theorem grw_subA {rows : List (BitVec 64)} : ∀ (n : Nat) (row : Int) (s : GSt), subW s.2 (grw rows n row s).2.2
 | 0, _, s => ZaU _
 | n + 1, row, s => Zcj (grw_subA n) _ s
theorem QJ {g : Int → GSt → Bool × GSt} {row : Int} (hg : ∀ r t, subW t.2 (g r t).2.2) {t : BitVec 64} : ∀ (l : List Nat) (s : GSt), subW t s.2 → grL g row (l.filter fun u => !t.getLsbD u) s = grL g row l s
 | [], s, _ => rfl
 | u :: l, s, h => by
  rw [List.filter_cons]
  by_cases hu : t.getLsbD u = true
  ·rw [if_neg (by simp [hu]), QJ hg l s h, grL, if_pos (h u hu)]
  rw [if_pos (by simp [hu]), grL, grL]
  split
  ·exact QJ hg l s h
  split
  ·rfl
  split
  ·rfl
  exact QJ hg l _ (QH (QH h subW_or) (hg _ (s.1, s.2 ||| 1#64 <<< u)))
theorem pl_filter {w t : BitVec 64} : pl (w &&& ~~~t) 0 = (pl w 0).filter fun u => !t.getLsbD u := by
 unfold pl
 rw [List.filter_filter]
 apply List.filter_congr
 intro u hu
 have h64 : u < 64 := by simp at hu; omega
 simp [BitVec.getLsbD_and, BitVec.getLsbD_not, h64, Bool.and_comm]
theorem grw_all {rows : List (BitVec 64)} {n : Nat} {row : Int} {s : GSt} : grw rows (n + 1) row s = grL (grw rows n) row (pl (rows.getD row.toNat 0) 0) s := by
 rw [grw, pl_filter, QJ (grw_subA n) _ _ (ZaU _)]
def edN (rows : List (BitVec 64)) : Nat → Nat
 | 0 => 0
 | k + 1 => if (szO rows k).2 = k then edN rows k + YA 64 (grw rows 65 k ((szO rows k).1, 0#64)).2.2 else edN rows k
theorem szO_more {rows : List (BitVec 64)} {k : Nat} : ∀ (j : Nat), (szO rows (k + j)).2 ≤ (szO rows k).2 + j
 | 0 => Nat.le_refl _
 | j + 1 => by
  have := @szO_more rows k j
  rw [← Nat.add_assoc, szO]; simp only; split <;> omega
theorem szO_yes {rows : List (BitVec 64)} {k : Nat} (h : (szO rows k).2 = k) (hb : (grw rows 65 k ((szO rows k).1, 0#64)).1 = true) : (szO rows (k + 1)).2 = k + 1 := by
 rw [szO]; simp only; rw [if_pos hb, h]
theorem edN_yes {rows : List (BitVec 64)} {k : Nat} (h : (szO rows k).2 = k) : edN rows (k + 1) = edN rows k + YA 64 (grw rows 65 k ((szO rows k).1, 0#64)).2.2 := by rw [edN, if_pos h]
theorem szO_no {rows : List (BitVec 64)} {k : Nat} (h : (szO rows k).2 = k) (hb : (grw rows 65 k ((szO rows k).1, 0#64)).1 = false) {m : Nat} (hm : k < m) : (szO rows m).2 < m := by
 have h1 : (szO rows (k + 1)).2 = k := by rw [szO]; simp only; rw [if_neg (by rw [hb]; decide), h]
 obtain ⟨j, rfl⟩ : ∃ j, m = k + 1 + j := ⟨m - (k + 1), by omega⟩
 have := @szO_more rows (k + 1) j
 omega
theorem edN_no {rows : List (BitVec 64)} {k : Nat} (h : (szO rows k).2 = k) (hb : (grw rows 65 k ((szO rows k).1, 0#64)).1 = false) : ∀ (j : Nat), edN rows (k + 1 + j) = edN rows (k + 1)
 | 0 => rfl
 | j + 1 => by
  have := szO_no h hb (show k < k + 1 + j by omega)
  rw [← Nat.add_assoc, edN, if_neg (by omega), edN_no h hb j]
def fuG (l : List (BitVec 64)) (t : BitVec 64) : Gz := ⟨0, 0, edN (msk l t) l.length⟩
theorem full_yes {l : List (BitVec 64)} {t : BitVec 64} (h : (szO (msk l t) l.length).2 = l.length) : Yk l t = true := by
 unfold Yk szN; rw [Yg, h, beq_self_eq_true]
theorem full_no {l : List (BitVec 64)} {t : BitVec 64} {k : Nat} (hk : k < l.length) (h : (szO (msk l t) k).2 = k) (hb : (grw (msk l t) 65 k ((szO (msk l t) k).1, 0#64)).1 = false) : Yk l t = false ∧ edN (msk l t) l.length = edN (msk l t) (k + 1) := by
 have h1 := szO_no h hb hk
 refine ⟨?_, ?_⟩
 ·unfold Yk szN; rw [Yg, beq_eq_false_iff_ne]; omega
 have := edN_no h hb (l.length - (k + 1))
 rwa [show k + 1 + (l.length - (k + 1)) = l.length by omega] at this
theorem nof {b : Bool} (h : b = false) : ¬ b = true := by rw [h]; decide
def mkT (l : List (BitVec 64)) (t : BitVec 64) (k : Nat) : List (BitVec 64) := msk (l.take k) t ++ l.drop k
theorem ZbC {l : List (BitVec 64)} {t : BitVec 64} {k : Nat} : (mkT l t k).length = l.length := by
 unfold mkT; rw [List.length_append, Yg, List.length_take, List.length_drop]; omega
theorem mkT_0 {l : List (BitVec 64)} {t : BitVec 64} : mkT l t 0 = l := by unfold mkT msk; simp
theorem mkT_all {l : List (BitVec 64)} {t : BitVec 64} : mkT l t l.length = msk l t := by unfold mkT; simp
theorem mkT_get {l : List (BitVec 64)} {t : BitVec 64} {k : Nat} (h : k < l.length) : (mkT l t k).getD k 0 = l.getD k 0 := by
 unfold mkT
 rw [List.getD_eq_getElem?_getD, List.getElem?_append_right (by rw [Yg, List.length_take]; omega), Yg, List.length_take, Nat.min_eq_left (by omega), Nat.sub_self, List.getElem?_drop, Nat.add_zero, List.getD_eq_getElem?_getD]
theorem mkT_set {l : List (BitVec 64)} {t : BitVec 64} {k : Nat} (h : k < l.length) : (mkT l t k).set k (l.getD k 0 &&& ~~~t) = mkT l t (k + 1) := by
 unfold mkT
 rw [List.set_append_right _ _ (by rw [Yg, List.length_take]; omega), Yg, List.length_take, Nat.min_eq_left (by omega), Nat.sub_self, List.take_succ_eq_append_getElem h, List.drop_eq_getElem_cons h, List.getD_eq_getElem?_getD, List.getElem?_eq_getElem h]
 show msk (l.take k) t ++ ((l[k] &&& ~~~t) :: l.drop (k + 1)) = _
 unfold msk
 rw [List.map_append, List.append_assoc]; rfl
open Go
abbrev fzN (a : List Nat) : VVal := .fsl (a.map fun (n : Nat) => iI (n : Nat)) a.length 1 false
def zI (a : List Nat) : List Int := a.map fun (n : Nat) => (n : Int)
theorem Zbh {a : List Nat} : (zI a).length = a.length := by unfold zI; rw [List.length_map]
theorem fzN_is (a : List Nat) : fzN a = fzI (zI a) := by unfold fzI zI; rw [List.map_map, List.length_map]; rfl
def szP (a : List Nat) : Nat → Nat
 | 0 => 0
 | k + 1 => if a.getD k 0 = szP a k then szP a k + 1 else szP a k
def Pat (a : List Nat) : Prop := ∀ k, k < a.length → a.getD k 0 ≤ szP a k
theorem YH {a : List Nat} : ∀ {k : Nat}, szP a k ≤ k
 | 0 => Nat.le_refl _
 | k + 1 => by have := @YH a k; rw [szP]; split <;> omega
def Z6 (ws : List (BitVec 64)) (a : List Nat) : Nat → List (BitVec 64)
 | 0 => []
 | k + 1 => if a.getD k 0 = (Z6 ws a k).length then Z6 ws a k ++ [ws.getD k 0] else (Z6 ws a k).set (a.getD k 0) ((Z6 ws a k).getD (a.getD k 0) 0 &&& ws.getD k 0)
theorem YB {ws : List (BitVec 64)} {a : List Nat} : ∀ {k : Nat}, (Z6 ws a k).length = szP a k
 | 0 => rfl
 | k + 1 => by
  have ih := @YB ws a k
  rw [Z6, szP, ih]
  split
  ·rw [List.length_append, ih]; rfl
  rw [List.length_set, ih]
theorem blkN_new {ws : List (BitVec 64)} {a : List Nat} {k : Nat} (h : (a.getD k 0 : Int) = ((Z6 ws a k).length : Int)) : Z6 ws a (k + 1) = Z6 ws a k ++ [ws.getD k 0] := by
 rw [Z6, if_pos (by omega)]
theorem blkN_old {ws : List (BitVec 64)} {a : List Nat} {k : Nat} (h : ¬ (a.getD k 0 : Int) = ((Z6 ws a k).length : Int)) : Z6 ws a (k + 1) = (Z6 ws a k).set (a.getD k 0) ((Z6 ws a k).getD (a.getD k 0) 0 &&& ws.getD k 0) := by
 rw [Z6, if_neg (by omega)]
theorem fget0N {α : Type} {f : α → VVal} {l : List α} {k : Nat} (d : α) (h : k < l.length) : (l.map f)[0 + ((k : Nat) : Int).toNat * 1]? = some (f (l.getD k d)) := by
 rw [Nat.zero_add]; exact YT d h
theorem LV.pos {h es : Nat} {X : Ze} {v : VVal} {cs : List VVal} {len : Nat} (l : LV h es X v cs len) (h0 : 0 < len) : ∃ b, v = .slice (some (h + b, 0)) len len false es ∧ X[b]? = some (.cells cs true) := by
 rcases l.2 with ⟨h1, _⟩ | ⟨_, b, h2, h3⟩
 ·omega
 exact ⟨b, h2, h3⟩
theorem LV.upW {h b n : Nat} {X : Ze} {l : List (BitVec 64)} {l' : List (BitVec 64)} (r : LV h 1 X (.slice (some (h + b, 0)) n n false 1) (l.map iW) n) (hn : 0 < n) (hb : b < X.length) (e : l'.length = l.length) : LV h 1 (X.set b (.cells (l'.map iW) true)) (.slice (some (h + b, 0)) n n false 1) (l'.map iW) n :=
 ⟨by have := r.1; rw [List.length_map] at this ⊢; omega, .inr ⟨hn, b, rfl, List.getElem?_set_self hb⟩⟩
def kpR (ws : List (BitVec 64)) (rss : List (List Rul)) (a : List Nat) : Bool := (rss.getD (a.length - 1) []).all fun r => erl r ws.length (zI a)
def kpB (ws : List (BitVec 64)) (rss : List (List Rul)) (a : List Nat) : Bool :=
 if (Z6 ws a a.length).getD (a.getD (a.length - 1) 0) 0 = 0 then false else if kpR ws rss a = true then Yk (Z6 ws a a.length) 0#64 else false
def kpG (u : Nat) (ws : List (BitVec 64)) (rss : List (List Rul)) (a : List Nat) : Gz :=
 ⟨1, u, 0⟩ + if (Z6 ws a a.length).getD (a.getD (a.length - 1) 0) 0 = 0 then 0 else if kpR ws rss a = true then fuG (Z6 ws a a.length) 0#64 else 0
theorem kpK_0 {ws : List (BitVec 64)} {rss : List (List Rul)} {a : List Nat} {u : Nat} (h : (Z6 ws a a.length).getD (a.getD (a.length - 1) 0) 0 = 0) : kpB ws rss a = false ∧ kpG u ws rss a = ⟨1, u, 0⟩ := by
 unfold kpB kpG; rw [if_pos h, if_pos h]; exact ⟨rfl, Gz.add_zero _⟩
theorem kpK_1 {ws : List (BitVec 64)} {rss : List (List Rul)} {a : List Nat} {u : Nat} (h : ¬ (Z6 ws a a.length).getD (a.getD (a.length - 1) 0) 0 = 0) (h2 : kpR ws rss a = false) : kpB ws rss a = false ∧ kpG u ws rss a = ⟨1, u, 0⟩ := by
 unfold kpB kpG; rw [if_neg h, if_neg h, h2]; exact ⟨rfl, Gz.add_zero _⟩
theorem kpK_2 {ws : List (BitVec 64)} {rss : List (List Rul)} {a : List Nat} {u : Nat} (h : ¬ (Z6 ws a a.length).getD (a.getD (a.length - 1) 0) 0 = 0) (h2 : kpR ws rss a = true) : kpB ws rss a = Yk (Z6 ws a a.length) 0#64 ∧ kpG u ws rss a = ⟨1, u, 0⟩ + fuG (Z6 ws a a.length) 0#64 := by
 unfold kpB kpG; rw [if_neg h, if_neg h, h2]; exact ⟨rfl, rfl⟩
theorem all_step {f : Rul → Bool} {l : List Rul} {k : Nat} {d : Rul} (hk : k < l.length) (h : (l.take k).all f = true) (h2 : f (l.getD k d) = true) : (l.take (k + 1)).all f = true := by
 rw [Yf (d := d) hk, List.all_append, h, List.all_cons, h2]; rfl
theorem Zco {f : Rul → Bool} {l : List Rul} {k : Nat} (hk : l.length ≤ k) (h : (l.take k).all f = true) : l.all f = true := by rwa [List.take_of_length_le hk] at h
theorem all_bad {f : Rul → Bool} {l : List Rul} {k : Nat} {d : Rul} (hk : k < l.length) (h2 : f (l.getD k d) = false) : l.all f = false := by
 rw [← List.take_append_drop (k + 1) l, Yf (d := d) hk, List.all_append, List.all_append, List.all_cons, h2, Bool.false_and, Bool.and_false, Bool.false_and]
section
variable {H L : Ze} {y : Nat} {g : Gz}
theorem ga_n0 (hs : H[y]? = some (gaB g)) : (H ++ L).set y (.cells (Zx [iN g.n, iN g.p, iN g.e] (0 + 0) [iW (BitVec.ofNat 64 g.n + 1#64)]) true) = H.set y (gaB ⟨g.n + 1, g.p, g.e⟩) ++ L := by
 rw [iN_one, Yl (ZG hs)]; rfl
theorem ga_p {u : Nat} (hy : y < H.length) : (H.set y (gaB g) ++ L).set y (.cells (Zx [iN g.n, iN g.p, iN g.e] (0 + 1) [iW (BitVec.ofNat 64 g.p + BitVec.ofInt 64 (u : Nat))]) true) = H.set y (gaB ⟨g.n, g.p + u, g.e⟩) ++ L := by
 rw [BitVec.ofInt_natCast, iN_add, Yl (by rw [List.length_set]; exact hy), List.set_set]; rfl
end
open Go
section
variable (kp : List Nat → Bool) (kg : List Nat → Gz)
def frL (f : List Nat → Nat → Gz × Option (List Nat)) (row : List Nat) (blocks : Nat) : List Nat → Gz × Option (List Nat)
 | [] => (0, none)
 | x :: xs =>
  if kp (row ++ [x]) = true then
   match f (row ++ [x]) (max blocks (x + 1)) with
   | (d, some s) => (kg (row ++ [x]) + d, some s)
   | (d, none) => (kg (row ++ [x]) + d + (frL f row blocks xs).1, (frL f row blocks xs).2)
  else (kg (row ++ [x]) + (frL f row blocks xs).1, (frL f row blocks xs).2)
def frm : Nat → List Nat → Nat → Gz × Option (List Nat)
 | 0, row, _ => (0, some row)
 | m + 1, row, blocks => frL kp kg (frm m) row blocks (List.range (blocks + 1))
def QB : Nat → List Nat → Nat → List (List Nat)
 | 0, row, _ => [row]
 | m + 1, row, blocks => (List.range (blocks + 1)).flatMap fun x => QB m (row ++ [x]) (max blocks (x + 1))
def XD (n : Nat) (a : List Nat) : Bool := (List.range a.length).all fun j => decide (j < n) || kp (a.take (j + 1))
theorem Xc {n : Nat} {a : List Nat} : XD kp n a = true ↔ ∀ j, j < a.length → n ≤ j → kp (a.take (j + 1)) = true := by
 unfold XD
 rw [List.all_eq_true]
 constructor
 ·intro h j hj hn
  have := h j (List.mem_range.2 hj)
  rw [Bool.or_eq_true, decide_eq_true_eq] at this
  rcases this with h | h
  ·omega
  exact h
 intro h j hj
 rw [Bool.or_eq_true, decide_eq_true_eq]
 by_cases hn : j < n
 ·exact .inl hn
 exact .inr (h j (List.mem_range.1 hj) (by omega))
theorem XW : ∀ {m : Nat} {row : List Nat} {blocks : Nat} {a : List Nat}, a ∈ QB m row blocks → ∃ z, a = row ++ z ∧ z.length = m
 | 0, row, _, a, h => by rw [QB, List.mem_singleton] at h; exact ⟨[], by rw [h, List.append_nil], rfl⟩
 | m + 1, row, blocks, a, h => by
  rw [QB, List.mem_flatMap] at h
  obtain ⟨x, _, h⟩ := h
  obtain ⟨z, rfl, hz⟩ := XW h
  exact ⟨x :: z, by rw [List.append_assoc]; rfl, by rw [List.length_cons, hz]⟩
theorem find_eq {α : Type} {p q : α → Bool} : ∀ {l : List α}, (∀ a, a ∈ l → p a = q a) → l.find? p = l.find? q
 | [], _ => rfl
 | a :: l, h => by
  rw [List.find?_cons, List.find?_cons, h a (List.mem_cons_self ..), find_eq fun b hb => h b (List.mem_cons_of_mem _ hb)]
theorem frL_find {f : List Nat → Nat → Gz × Option (List Nat)} {g : List Nat → Nat → List (List Nat)} {row : List Nat} {blocks : Nat} {n : Nat} (hn : n = row.length)
  (hf : ∀ r b, r.length = n + 1 → (f r b).2 = (g r b).find? (XD kp (n + 1))) (hg : ∀ r b a, r.length = n + 1 → a ∈ g r b → ∃ z, a = r ++ z) : ∀ xs : List Nat, (frL kp kg f row blocks xs).2 = (xs.flatMap fun x => g (row ++ [x]) (max blocks (x + 1))).find? (XD kp n)
 | [] => rfl
 | x :: xs => by
  have hl : (row ++ [x]).length = n + 1 := by rw [List.length_append, hn]; rfl
  have ih := frL_find (blocks := blocks) hn hf hg xs
  have hkey : ∀ a, a ∈ g (row ++ [x]) (max blocks (x + 1)) → XD kp n a = (kp (row ++ [x]) && XD kp (n + 1) a) := by
   intro a ha
   obtain ⟨z, rfl⟩ := hg _ _ _ hl ha
   rw [Bool.eq_iff_iff, Bool.and_eq_true, Xc, Xc]
   have ht : (row ++ [x] ++ z).take (n + 1) = row ++ [x] := by rw [List.take_append_of_le_length (by omega), List.take_of_length_le (by omega)]
   constructor
   ·intro h
    exact ⟨by have := h n (by rw [List.length_append, hl]; omega) (Nat.le_refl _); rwa [ht] at this, fun j hj hn => h j hj (by omega)⟩
   rintro ⟨h1, h2⟩ j hj hjn
   by_cases e : j = n
   ·subst e; rw [ht]; exact h1
   exact h2 j hj (by omega)
  have hfind : (g (row ++ [x]) (max blocks (x + 1))).find? (XD kp n) = if kp (row ++ [x]) = true then (f (row ++ [x]) (max blocks (x + 1))).2 else none := by
   by_cases hk : kp (row ++ [x]) = true
   ·rw [if_pos hk, hf _ _ hl]
    exact find_eq fun a ha => by rw [hkey a ha, hk, Bool.true_and]
   rw [if_neg hk, List.find?_eq_none]
   intro a ha
   rw [hkey a ha, Bool.eq_false_iff.2 hk, Bool.false_and]; decide
  rw [frL, List.flatMap_cons, List.find?_append, hfind, ← ih]
  split
  ·split
   ·rename_i h; rw [h]; rfl
   rename_i h; rw [h]; rfl
  rfl
theorem ZaB : ∀ (m : Nat) (row : List Nat) (blocks : Nat), (frm kp kg m row blocks).2 = (QB m row blocks).find? (XD kp row.length)
 | 0, row, _ => by
  rw [frm, QB, List.find?_singleton, if_pos]
  rw [Xc]; intro j h1 h2; omega
 | m + 1, row, blocks => by
  rw [frm, QB]
  refine frL_find kp kg rfl (fun r b h => ?_) (fun r b a _ ha => ?_) _
  ·rw [ZaB m r b, h]
  obtain ⟨z, h, _⟩ := XW ha; exact ⟨z, h⟩
end
open Go
abbrev ZaQ : Type := List (Gz × List Nat) × Gz
def addF (d : Gz) : ZaQ → ZaQ
 | ([], e) => ([], d + e)
 | ((d0, x) :: xs, e) => ((d + d0, x) :: xs, e)
def catT (a b : ZaQ) : ZaQ := (a.1 ++ (addF a.2 b).1, (addF a.2 b).2)
theorem addF_snd {d : Gz} {a : ZaQ} : (addF d a).1.map Prod.snd = a.1.map Prod.snd := by
 obtain ⟨l, e⟩ := a
 cases l with
 | nil => rfl
 | cons x l => rfl
theorem catT_snd {a b : ZaQ} : (catT a b).1.map Prod.snd = a.1.map Prod.snd ++ b.1.map Prod.snd := by
 unfold catT; rw [List.map_append, addF_snd]
set_option autoImplicit false
open Go Go.RowKit
theorem gaB_add {a b e : Gz} (h : gaB a = gaB b) : gaB (a + e) = gaB (b + e) := by
 simp only [VBlk.cells.injEq, List.cons.injEq, VVal.int.injEq, true_and, and_true] at h
 have w : ∀ {a b : Nat}, ((BitVec.ofNat 64 a).toNat : Int) = ((BitVec.ofNat 64 b).toNat : Int) → BitVec.ofNat 64 a = BitVec.ofNat 64 b := fun h => BitVec.eq_of_toNat_eq (by omega)
 simp only [gaB, iN, Gz.add_n, Gz.add_p, Gz.add_e, ← iN_add, w h.1, w h.2.1, w h.2.2]
section
variable {S : Sys} {l s : Nat}
theorem IterP.mono {K K' : Bool → Ze → Prop} (hk : ∀ b G, K b G → K' b G) : ∀ {xs : List (Gz × VVal)} {d : Gz} {G : Ze}, IterP S l s xs d G K → IterP S l s xs d G K'
 | [], d, G, h => fun g hg => hk _ _ (h g hg)
 | (d0, x) :: xs, d, G, h => fun g hg L => (h g hg L).mono (by
  rintro v G' ⟨b, G1, J, h1, h2, h3, h4⟩
  refine ⟨b, G1, J, h1, h2, h3, ?_⟩
  cases b
  ·exact hk _ _ h4
  exact ⟨h4.1, IterP.mono hk h4.2⟩)
def tv (T : ZaQ) : List (Gz × VVal) := T.1.map fun p => (p.1, fzN p.2)
theorem IterP.addF {K : Bool → Ze → Prop} {d g : Gz} {T : ZaQ} {G : Ze} (hg : G[s]? = some (gaB g)) (h : IterP S l s (tv (addF d T)) (addF d T).2 G K) : IterP S l s (tv T) T.2 (G.set s (gaB (g + d))) K := by
 have hs := ZG hg
 obtain ⟨xs, e⟩ := T
 cases xs with
 | nil =>
  intro g' hg'
  rw [List.getElem?_set_self hs] at hg'
  have e1 := gaB_add (e := e) (Option.some.inj hg').symm
  rw [List.set_set, e1, Gz.assoc]
  exact h g hg
 | cons p xs =>
  obtain ⟨d0, x⟩ := p
  intro g' hg' L
  rw [List.getElem?_set_self hs] at hg'
  have e1 := gaB_add (e := d0) (Option.some.inj hg').symm
  have := h g hg L
  rw [List.set_set, e1, Gz.assoc]
  refine this.mono ?_
  rintro v G' ⟨b, G1, J, h1, h2, h3, h4⟩
  exact ⟨b, G1, J, h1, h2, by rw [List.length_set]; exact h3, h4⟩
theorem IterP.catT {K : Bool → Ze → Prop} {b : ZaQ} {da : Gz} : ∀ {xs : List (Gz × List Nat)} {G : Ze}, IterP S l s (tv (catT (xs, da) b)) (catT (xs, da) b).2 G K → IterP S l s (tv (xs, da)) da G (fun c G' => if c = true then IterP S l s (tv b) b.2 G' K else K false G')
 | [], G, h => fun g hg => IterP.addF hg h
 | (d0, x) :: xs, G, h => fun g hg L => by
  refine (h g hg L).mono ?_
  rintro v G' ⟨c, G1, J, h1, h2, h3, h4⟩
  refine ⟨c, G1, J, h1, h2, h3, ?_⟩
  cases c
  ·exact h4
  exact ⟨h4.1, IterP.catT h4.2⟩
end
open Go Go.RowKit
section
variable {T : TypeId → Option VTy} {ρ : Operand → VVal} {H : Ze} {op : Op}
end
theorem LV.behind {h0 h es : Nat} {X Y : Ze} {v : VVal} {cs : List VVal} {len : Nat} (e : h0 = h + X.length) (l : LV h0 es Y v cs len) : LV h es (X ++ Y) v cs len := by
 subst e
 refine ⟨l.1, ?_⟩
 rcases l.2 with h1 | ⟨h1, b, h2, h3⟩
 ·exact .inl h1
 exact .inr ⟨h1, X.length + b, by rw [h2, Nat.add_assoc], by rw [List.getElem?_append_right (by omega), Nat.add_sub_cancel_left]; exact h3⟩
abbrev rcN (row : List Nat) : List VVal := row.map fun (n : Nat) => iI (n : Nat)
theorem Zcc {row : List Nat} {k : Nat} : rcN (row ++ [k]) = rcN row ++ [iI (k : Nat)] := List.map_append
section
variable {T : TypeId → Option VTy} {ρ : Operand → VVal} {H : Ze} {op : Op}
end
open Go Go.RowKit
structure RW {α : Type} (f : α → List VVal) (es h : Nat) (Z : Ze) (vs : List VVal) (rss : List (List α)) : Prop where
 len : vs.length = rss.length
 lv : ∀ i, i < rss.length → LV h es Z (vs.getD i .skip) ((rss.getD i []).flatMap f) (rss.getD i []).length
 dj : ∀ i j, i < rss.length → j < rss.length → i ≠ j → Dj (vs.getD i .skip) (vs.getD j .skip)
section
variable {α : Type} {f : α → List VVal} {es h : Nat} {Z : Ze} {vs : List VVal} {rss : List (List α)}
theorem Jf {β : Type} {n i : Nat} {a d : β} (h : i < n) : (List.replicate n a).getD i d = a := by
 rw [List.getD_eq_getElem?_getD, List.getElem?_replicate, if_pos h]; rfl
theorem RW.init {n : Nat} : RW f es h Z (List.replicate n (.slice none 0 0 true 0)) (List.replicate n []) where
 len := by rw [List.length_replicate, List.length_replicate]
 lv := fun i hi => by
  rw [List.length_replicate] at hi
  rw [Jf hi, Jf hi]; exact LV.nil _ _ _
 dj := fun i j hi hj _ => by
  rw [List.length_replicate] at hi hj
  rw [Jf hi, Jf hj]; exact Dj.nil _
theorem RW.app (r : RW f es h Z vs rss) (Y : Ze) : RW f es h (Z ++ Y) vs rss := ⟨r.len, fun i hi => (r.lv i hi).app Y, r.dj⟩
theorem Qm {β : Type} {l : List β} {i j : Nat} {a d : β} (h : i < l.length) : (l.set i a).getD j d = if j = i then a else l.getD j d := by
 rw [List.getD_eq_getElem?_getD, List.getElem?_set]
 by_cases e : i = j
 ·subst e; rw [if_pos rfl, if_pos h, if_pos rfl]; rfl
 rw [if_neg e, if_neg (Ne.symm e), List.getD_eq_getElem?_getD]
theorem RW.step (r : RW f es h Z vs rss) {i : Nat} (hi : i < rss.length) {Y1 W : Ze} {a b : Nat} {x : α} (hY2 : ∀ k, ZV (vs.getD i .skip) ≠ some (h + k) → Y1[k]? = Z[k]?)
  (hY3 : LV h es (Y1 ++ W) (.slice (some (h + (Z.length + 1), 0)) a b false es) ((rss.getD i []).flatMap f ++ f x) ((rss.getD i []).length + 1)) :
  RW f es h (Y1 ++ W) (vs.set i (.slice (some (h + (Z.length + 1), 0)) a b false es)) (rss.set i (rss.getD i [] ++ [x])) where
 len := by rw [List.length_set, List.length_set]; exact r.len
 lv := fun j hj => by
  rw [List.length_set] at hj
  rw [Qm (by rw [r.len]; exact hi), Qm hi]
  by_cases e : j = i
  ·subst e; rw [if_pos rfl, if_pos rfl, List.flatMap_append, List.length_append, List.flatMap_singleton]; exact hY3
  rw [if_neg e, if_neg e]; exact LV.keepN hY3 (r.lv j hj) (r.dj j i hj hi e) hY2
 dj := fun j k hj hk hjk => by
  rw [List.length_set] at hj hk
  rw [Qm (by rw [r.len]; exact hi), Qm (by rw [r.len]; exact hi)]
  by_cases e : j = i
  ·subst e; rw [if_pos rfl, if_neg (Ne.symm hjk)]; exact (LV.djN hY3 (r.lv k hk)).symm
  rw [if_neg e]
  by_cases e2 : k = i
  ·subst e2; rw [if_pos rfl]; exact LV.djN hY3 (r.lv j hj)
  rw [if_neg e2]; exact r.dj j k hj hk hjk
def ZcS (f : α → List VVal) (es : Nat) (rss : List (List α)) (vs : List VVal) (k : Nat) : List VVal := (rss.take k).map (fun l => .fsl (l.flatMap f) l.length es false) ++ vs.drop k
theorem RW.freezeK {S : Sys} {H0 H L : Ze} {env : List VVal} {c : Nat} (r : RW f es h Z vs rss) (hc : L[c]? = some (.cells vs true)) (hh : (H ++ L).length = h) : ∀ k, k ≤ rss.length →
  ∃ Z', Gh S H0 env ((H ++ L) ++ Z) env ((H ++ L.set c (.cells (ZcS f es rss vs k) true)) ++ Z') ∧ Z'.length = Z.length ∧ ∀ i, k ≤ i → i < rss.length → LV h es Z' (vs.getD i .skip) ((rss.getD i []).flatMap f) (rss.getD i []).length
 | 0, _ => ⟨Z, by
  rw [show ZcS f es rss vs 0 = vs by unfold ZcS; simp, ← YG hc]; exact Gh.refl _ _ _ _, rfl, fun i _ hi => r.lv i hi⟩
 | k + 1, hk => by
  obtain ⟨Z1, g1, l1, h1⟩ := r.freezeK (S := S) (H0 := H0) (env := env) hc hh k (by omega)
  have hcl : c < L.length := ZG hc
  have hlen := r.len
  have hk' : k < vs.length := by omega
  have hj : (ZcS f es rss vs k)[k]? = some (vs.getD k .skip) := by
   unfold ZcS
   rw [List.getElem?_append_right (by simp; omega), List.length_map, List.length_take, Nat.min_eq_left (by omega), Nat.sub_self, List.getElem?_drop, Nat.add_zero, List.getD_eq_getElem?_getD, List.getElem?_eq_getElem hk']; rfl
  obtain ⟨Z2, g2, l2, h2⟩ := Gh.cellLV (S := S) (H0 := H0) (vs := env) (H := H) (L := L.set c (.cells (ZcS f es rss vs k) true)) (List.getElem?_set_self hcl) hj (by rw [List.length_append, List.length_set, ← List.length_append]; exact hh) (h1 k (Nat.le_refl _) (by omega))
  have e : (ZcS f es rss vs k).set k (.fsl ((rss.getD k []).flatMap f) (rss.getD k []).length es false) = ZcS f es rss vs (k + 1) := by
   unfold ZcS
   rw [List.set_append_right _ _ (by simp; omega), List.length_map, List.length_take, Nat.min_eq_left (by omega), Nat.sub_self, List.drop_eq_getElem_cons hk', List.set_cons_zero, List.take_succ_eq_append_getElem (by omega), List.map_append, List.append_assoc, List.getD_eq_getElem?_getD, List.getElem?_eq_getElem (by omega)]; rfl
  refine ⟨Z2, Gh.trans g1 (by rw [List.set_set, e] at g2; exact g2), l2.trans l1, fun i hi1 hi2 => ?_⟩
  exact LV.frame (h1 i (by omega) hi2) fun j hj => h2 j fun e2 => r.dj i k hi2 (by omega) (by omega) _ hj e2
theorem RW.freeze {S : Sys} {H0 H L : Ze} {env : List VVal} {c : Nat} (r : RW f es h Z vs rss) (hc : L[c]? = some (.cells vs true)) (hh : (H ++ L).length = h) :
  ∃ Z', Gh S H0 env ((H ++ L) ++ Z) env ((H ++ L.set c (.cells (rss.map fun l => .fsl (l.flatMap f) l.length es false) true)) ++ Z') := by
 obtain ⟨Z', g, _⟩ := r.freezeK (S := S) (H0 := H0) (env := env) hc hh rss.length (Nat.le_refl _)
 refine ⟨Z', ?_⟩
 have : ZcS f es rss vs rss.length = rss.map fun l => .fsl (l.flatMap f) l.length es false := by
  unfold ZcS; rw [List.take_length, List.drop_eq_nil_of_le (by rw [r.len]; omega), List.append_nil]
 rwa [this] at g
theorem B_ghRW {S : Sys} {H0 H L : Ze} {rd : Option Nat} {env : VEnv} {Q : XV} {c1 : Code} (c : Nat) (r : RW f es h Z vs rss) (hc : L[c]? = some (.cells vs true)) (hh : (H ++ L).length = h)
  (k : ∀ Z', B S H0 rd c1 env (H ++ (L.set c (.cells (rss.map fun l => .fsl (l.flatMap f) l.length es false) true) ++ Z')) Q) : B S H0 rd c1 env ((H ++ L) ++ Z) Q := by
 obtain ⟨Z', g⟩ := r.freeze (S := S) (H0 := H0) (env := env) hc hh
 rw [List.append_assoc H (L.set _ _)] at g
 exact Ym g (k Z')
end
theorem Yn {l : List VVal} {n : Nat} (h : n = l.length) : Zo l 0 (n * 1) = some l := by
 unfold Zo; rw [if_pos (by omega), List.drop_zero, List.take_of_length_le (by omega)]
open Go Go.RowKit
section
variable {S : Sys} {H0 H : Ze} {rd : Option Nat} {env : VEnv} {Q : XV}
theorem B_rangePJ {f1 : FuncId} {caps : List VVal} {g : Operand} {ps : Array Nat} {asg body : Code} (gs : Nat) (xs : List (Gz × VVal)) (dend : Gz) (hrd : ∀ l0, rd = some l0 → ∃ st p fn tmps ps asg body, H[l0]? = some (.loop st p fn tmps ps asg body)) (hg : env.eval g = .func f1 [] caps)
  (hAll : ∀ (l : Nat) (G : Ze) (K : Bool → Ze → Prop), (∃ g1, G[gs]? = some (gaB g1)) → IterP S l gs xs dend G K → F S f1 ([.yield l] ++ caps) G fun v G' => ∃ b G1 J, G' = G1 ++ J ∧ K b G1)
  {σ : Type} (hp : VBlk → σ → Ze) (s0 : σ) (h0 : ∀ k, H ++ [k] = hp k s0) (hlen : ∀ k s, (hp k s).length = H.length + 1) (hget : ∀ k s, (hp k s)[H.length]? = some k) (hset : ∀ k k' s, (hp k s).set H.length k' = hp k' s)
  (gg : σ → Gz) (up : Gz → σ → σ) 
  (inv : List (Gz × VVal) → σ → Prop) (hga : ∀ k s pre, inv pre s → (hp k s)[gs]? = some (gaB (gg s))) (hup : ∀ k s d pre, inv pre s → (hp k s).set gs (gaB (gg s + d)) = hp k (up d s)) (hi : inv [] s0) (X : Code → List (Gz × VVal) → (Gz × VVal) → σ → Prop) (hps : ps.toList.length = 1)
  (round : ∀ pre d c post s, xs = pre ++ (d, c) :: post → inv pre s → ∀ L (kr kb : VBlk), kr = .loop .ready none 0 env ps.toList asg body → kb = .loop .busy none 0 env ps.toList asg body →
   B S (hp kr (up d s) ++ L) (some H.length) asg (YI env ps.toList [c]) (hp kr (up d s) ++ L) (fun ex env1 H1 => ex = .normal ∧ ∃ s1, H1 = hp kr s1 ++ L ∧ B S (hp kr (up d s) ++ L) (some H.length) body env1 (hp kb s1 ++ L)
    (fun ex2 _ H2 => ∃ s2 J, H2 = hp kb s2 ++ (L ++ J) ∧ ((ex2 = .normal ∧ inv (pre ++ [(d, c)]) s2) ∨ (∃ j, Zaf ex2 = some (some j) ∧ X j pre (d, c) s2)))))
  (done : ∀ s k, k = VBlk.loop .exhausted none 0 env ps.toList asg body → inv xs s → ∀ J, Q .normal env (hp k (up dend s) ++ J))
  (stop : ∀ j pre c post s k, k = VBlk.loop .exhausted (some j) 0 env ps.toList asg body → xs = pre ++ c :: post → X j pre c s → ∀ J, QP (some j) env (hp k s ++ J) Q) : B S H0 rd (.rangeFunc g ps asg body) env H Q := by
 let rec' : LoopState → Option Code → VBlk := fun st p => .loop st p 0 env ps.toList asg body
 let Kf : Bool → Ze → Prop := fun b G => if b = true then (∃ s, G = hp (rec' .ready none) (up dend s) ∧ inv xs s) else ∃ j pre c post s, G = hp (rec' .done (some j)) s ∧ xs = pre ++ c :: post ∧ X j pre c s
 have gone : ∀ {k s g1 pre}, inv pre s → (hp k s)[gs]? = some (gaB g1) → gaB g1 = gaB (gg s) := fun hv h => (Option.some.inj (h.symm.trans (hga _ _ _ hv)))
 have hup' : ∀ {k s g1 d pre}, inv pre s → (hp k s)[gs]? = some (gaB g1) → (hp k s).set gs (gaB (g1 + d)) = hp k (up d s) := by
  intro k s g1 d pre hv h
  have e := gone hv h
  simp only [VBlk.cells.injEq, List.cons.injEq, VVal.int.injEq, true_and, and_true] at e
  have w : ∀ {a b : Nat}, ((BitVec.ofNat 64 a).toNat : Int) = ((BitVec.ofNat 64 b).toNat : Int) → BitVec.ofNat 64 a = BitVec.ofNat 64 b := fun h => BitVec.eq_of_toNat_eq (by omega)
  have z : gaB (g1 + d) = gaB (gg s + d) := by
   simp only [gaB, iN, Gz.add_n, Gz.add_p, Gz.add_e, ← iN_add, w e.1, w e.2.1, w e.2.2]
  rw [z, hup _ _ _ _ hv]
 have lenlt : ∀ k s, H.length < (hp k s).length := fun k s => by rw [hlen]; omega
 have key : ∀ (ys pre : List (Gz × VVal)) (s : σ), xs = pre ++ ys → inv pre s → IterP S H.length gs ys dend (hp (rec' .ready none) s) Kf := by
  intro ys
  induction ys with
  | nil =>
   intro pre s hx hs g1 hg1
   rw [List.append_nil] at hx
   rw [hup' hs hg1]
   show if true = true then _ else _
   rw [if_pos rfl]
   exact ⟨s, rfl, hx ▸ hs⟩
  | cons c ys ih =>
   obtain ⟨d, c⟩ := c
   intro pre s hx hs g1 hg1 L
   rw [hup' hs hg1]
   have hr := round pre d c ys s hx hs L _ _ rfl rfl
   refine Zcr (p := none) (fn := 0) (tmps := env) (ps := ps.toList) (body := body) (Zn (hget _ _)) (by simp [hps]) _ rfl (hr.mono ?_)
   rintro ex env1 H1 ⟨rfl, s1, rfl, hb⟩
   refine ⟨rfl, none, 0, env, ps.toList, asg, body, Zn (hget _ s1), ?_⟩
   rw [List.set_append_left _ _ (lenlt _ _), hset]
   refine hb.mono ?_
   rintro ex2 env2 H2 ⟨s2, J, rfl, h2⟩
   rcases h2 with ⟨rfl, h2⟩ | ⟨j, hj, h2⟩
   ·refine ⟨none, rfl, .busy, none, 0, env, ps.toList, asg, body, Zn (hget _ s2), true, hp (rec' .ready none) s2, J, rfl, ?_, by rw [hlen, hlen], ?_⟩
    ·rw [List.set_append_left _ _ (lenlt _ _), hset]; rfl
    rw [if_pos rfl]
    exact ⟨⟨_, hga _ _ _ h2⟩, ih (pre ++ [(d, c)]) s2 (by rw [hx]; simp) h2⟩
   refine ⟨some j, hj, .busy, none, 0, env, ps.toList, asg, body, Zn (hget _ s2), false, hp (rec' .done (some j)) s2, J, rfl, ?_, by rw [hlen, hlen], ?_⟩
   ·rw [List.set_append_left _ _ (lenlt _ _), hset]; rfl
   rw [if_neg (by simp)]
   show if false = true then _ else _
   rw [if_neg (by simp)]
   exact ⟨j, pre, (d, c), ys, s2, rfl, hx, h2⟩
 refine B_range hrd hg (hAll H.length _ Kf ⟨gg s0, by rw [h0]; exact hga _ _ _ hi⟩ (by rw [h0]; exact key xs [] s0 rfl hi)) ?_
 rintro v H2 ⟨b, G1, J, rfl, hK⟩
 cases b
 ·have hK : ∃ j pre c post s, G1 = hp (rec' .done (some j)) s ∧ xs = pre ++ c :: post ∧ X j pre c s := by simpa [Kf] using hK
  obtain ⟨j, pre, c, post, s, rfl, hx, hX⟩ := hK
  refine ⟨.done, some j, 0, env, ps.toList, asg, body, Zn (hget _ s), by simp, ?_⟩
  rw [List.set_append_left _ _ (lenlt _ _), hset]
  exact stop j pre c post s _ rfl hx hX J
 have hK : ∃ s, G1 = hp (rec' .ready none) (up dend s) ∧ inv xs s := by simpa [Kf] using hK
 obtain ⟨s, rfl, hs⟩ := hK
 refine ⟨.ready, none, 0, env, ps.toList, asg, body, Zn (hget _ _), by simp, ?_⟩
 rw [List.set_append_left _ _ (lenlt _ _), hset]
 exact done s _ rfl hs J
end
section
variable {T : TypeId → Option VTy} {ρ : Operand → VVal} {H : Ze} {op : Op} {t e : TypeId} {x : Operand} {y z : VTy} {k : Nat} {kd : IntKind}
theorem v_clipN {hi mx : Operand} {l : List Nat} (ho : op = .slice t x none (some hi) (some mx)) (hy : T t = some y) (hd : y.desc = .slice e) (hz : T e = some z) (hs : z.size = 1) (hx : ρ x = fzN l) (hh : ρ hi = .int kd (l.length : Nat)) (hm : ρ mx = .int kd (l.length : Nat)) : vop T ρ H op = some (.fsl (rcN l) l.length 1 true, H) := by
 rw [ho]
 have hb : Yp l.length l.length none (some (.int kd (l.length : Nat))) (some (.int kd (l.length : Nat))) = some (0, l.length, l.length) := by
  unfold Yp
  simp only
  rw [if_pos (by omega)]
  simp only [Int.toNat_natCast]
  rw [if_pos (by omega)]
 have hc : Zo (rcN l) (0 * 1) ((l.length - 0) * 1) = some (rcN l) := by
  unfold Zo; rw [if_pos XH14, Nat.zero_mul, List.drop_zero, List.take_of_length_le XH14]
 simp only [vop, Jw, hy, hd, hz, hx, Option.map_some, Option.map_none, hh, hm, hb, Option.isSome_some, Option.isNone_some, Bool.true_and, hs, if_true, hc]
 simp
theorem v_appFX {s x : Operand} {ats : Array TypeId} {t u e : TypeId} {z : VTy} {du : TypeDesc} {L : Ze} {fs : List VVal} {c : VVal} {j n kx : Nat}
  (ho : op = .call { callee := .builtin .append, args := #[s, x], argTypes := ats }) (hat : ats = #[t, u]) (hz : Y6 T t = some (e, z)) (hu : (T u).map (·.desc) = some du) (hdu : XJ du = true) (hz1 : z.size = 1)
  (hs : ρ s = .fsl fs n 1 true) (hx : ρ x = .slice (some (H.length + j, 0)) 1 kx true 1) (hj : L[j]? = some (.cells [c] true)) (h1 : c.one = true) (hn : fs.length = n) (hb : (n + 1) * z.bytes ≤ 140737488355328 ∧ n + 1 ≤ 140737488355328) :
  vop T ρ (H ++ L) op = some (.slice (some (H.length + L.length, 0)) (n + 1) (n + 1) false 1, H ++ (L ++ [.cells (fs ++ [c]) true])) := by
 have hk' : YO (ρ x) = some 1 := by rw [hx]; rfl
 have hsrc : ZU (H ++ L) z.size 1 (ρ x) = some [c] := by
  rw [hx, hz1]
  simp only [ZU]
  rw [ZI rfl hj]; rfl
 have hc : Zo fs 0 (n * 1) = some fs := Yn hn.symm
 rw [ho, hat]
 simp only [vop, ZR, List.map_cons, List.map_nil, Yq, hz, hs, hu, hk']
 rw [hsrc]
 simp only
 rw [if_pos ⟨by rw [hz1]; rfl, by simp [h1], by rw [hz1]; decide, hb.1, hb.2, hdu, trivial, by decide, hz1.symm⟩, hc]
 simp
end
open Go Go.RowKit
section
variable {T : TypeId → Option VTy} {ρ : Operand → VVal} {H : Ze} {op : Op}
theorem Zbx {s x : Operand} {ats : Array TypeId} {t u e : TypeId} {z : VTy} {du : TypeDesc} {L : Ze} {cs : List VVal} {k : Nat} {ex : Bool}
  (ho : op = .call { callee := .builtin .append, args := #[s, x], argTypes := ats }) (hat : ats = #[t, u]) (hz : Y6 T t = some (e, z)) (hu : (T u).map (·.desc) = some du) (hdu : XJ du = true)
  (hs : ρ s = .slice none 0 0 true 0) (hx : ρ x = .fsl cs k z.size ex) (hn : cs.length = k * z.size) (h1 : cs.all VVal.one = true) (hp : 0 < z.size) (h0 : 0 < k)
  (hb : k * z.bytes ≤ 140737488355328 ∧ k ≤ 140737488355328) :
  vop T ρ (H ++ L) op = some (.slice (some (H.length + L.length, 0)) k k false z.size, H ++ (L ++ [.cells cs true])) := by
 have hk' : YO (ρ x) = some k := by rw [hx]; rfl
 have hsrc : ZU (H ++ L) z.size k (ρ x) = some cs := by
  rw [hx]
  show Zo cs 0 (k * z.size) = some cs
  unfold Zo; rw [if_pos (by omega), List.drop_zero, List.take_of_length_le (by omega)]
 rw [ho, hat]
 simp only [vop, ZR, List.map_cons, List.map_nil, Yq, hz, hs, hu, hk']
 rw [hsrc]
 simp only
 rw [if_pos ⟨hn, h1, hp, by simpa using hb.1, by simpa using hb.2, hdu⟩, if_neg (by simp), if_neg (by omega), if_neg (by decide)]
 simp
theorem v_wHi {t e : TypeId} {x hi : Operand} {y z : VTy} {l : List (BitVec 64)} {k : Nat} {kd : IntKind} (ho : op = .slice t x none (some hi) none) (hy : T t = some y) (hd : y.desc = .slice e) (hz : T e = some z) (hs : z.size = 1) (hx : ρ x = fzW l) (hh : ρ hi = .int kd (k : Nat)) (hk : k ≤ l.length) : vop T ρ H op = some (fzW (l.take k), H) := by
 rw [ZaT ho hy hd hz hs hx hh hk XH14]
 simp [fzW, Nat.min_eq_left hk, List.map_take]
end
section
variable {T : TypeId → Option VTy} {H : Ze}
theorem Qp {env : VEnv} {a t1 : Nat} {rs : Array ResultVar} {tt : TypeId} {y : VTy} {b off : Nat} {cs vs : List VVal} {rw : Bool} {v1 : VVal} (hr : rs = #[.cell a tt, .tmp t1]) (ha : env.getD a .skip = .ptr (some (b, off))) (hy : T tt = some y) (hd : Zk y.desc = true)
  (hb : H[b]? = some (.cells cs rw)) (hv : Zo cs off y.size = some vs) (h1 : env[t1]? = some v1) : ZX T env H rs = some (.tuple [.agg vs, v1]) := by
 subst hr
 have e1 : Y0 T env H (.cell a tt) = some (.agg vs) := by
  show Y4 T H tt (env.getD a .skip) = some (.agg vs)
  rw [ha]; simp only [Y4, hy, QS, hb, hd, if_true, hv, Option.map_some]
 have e2 : Y0 T env H (.tmp t1) = some v1 := by
  show some (env.getD t1 .skip) = some v1
  rw [List.getD_eq_getElem?_getD, h1]; rfl
 simp [ZX, e1, e2]
end
set_option autoImplicit true
open Go
section
variable {kp : List Nat → Bool} {kg : List Nat → Gz} {f : List Nat → Nat → Gz × Option (List Nat)} {row : List Nat} {blocks : Nat}
theorem QI {n k : Nat} (h : k < n) : (List.range n).drop k = k :: (List.range n).drop (k + 1) := by
 rw [List.drop_eq_getElem_cons (by simpa using h)]; simp
end
theorem Jo {row : List Nat} {k j : Nat} (h : j < row.length) : (row ++ [k]).getD j 0 = row.getD j 0 := by
 rw [List.getD_eq_getElem?_getD, List.getElem?_append_left h, List.getD_eq_getElem?_getD]
theorem Jp {row : List Nat} {k : Nat} : (row ++ [k]).getD row.length 0 = k := by
 rw [List.getD_eq_getElem?_getD, List.getElem?_append_right (Nat.le_refl _), Nat.sub_self]; rfl
theorem Zat {row : List Nat} {k : Nat} : ∀ {j : Nat}, j ≤ row.length → szP (row ++ [k]) j = szP row j
 | 0, _ => rfl
 | j + 1, h => by rw [szP, szP, Zat (by omega), Jo (by omega)]
theorem Qg : Pat [] := fun k h => absurd h (by simp)
theorem Qz {row : List Nat} {k : Nat} (h : Pat row) (hk : k ≤ szP row row.length) : Pat (row ++ [k]) := by
 intro j hj
 rw [List.length_append] at hj
 have hj : j < row.length + 1 := hj
 by_cases e : j = row.length
 ·subst e; rw [Jp, Zat (Nat.le_refl _)]; exact hk
 rw [Jo (by omega), Zat (by omega)]; exact h j (by omega)
theorem Q9 {row : List Nat} {k : Nat} (hk : k ≤ szP row row.length) : szP (row ++ [k]) (row ++ [k]).length = max (szP row row.length) (k + 1) := by
 rw [List.length_append]
 show szP (row ++ [k]) (row.length + 1) = _
 rw [szP, Zat (Nat.le_refl _), Jp]
 split <;> omega
open Go
abbrev rz : Rul := (0, 0, [], ())
def ZcF (r : Rul) (rss : List (List Rul)) : Nat → List (List Rul)
 | 0 => rss
 | s + 1 => (ZcF r rss s).set (r.steps.getD s 0).toNat ((ZcF r rss s).getD (r.steps.getD s 0).toNat [] ++ [r])
def addR (n : Nat) (rs : List Rul) : Nat → List (List Rul)
 | 0 => List.replicate n []
 | m + 1 => ZcF (rs.getD m rz) (addR n rs m) (rs.getD m rz).steps.length
theorem ZaC {r : Rul} {rss : List (List Rul)} : ∀ {s : Nat}, (ZcF r rss s).length = rss.length
 | 0 => rfl
 | s + 1 => by rw [ZcF, List.length_set, ZaC]
theorem addR_len {n : Nat} {rs : List Rul} : ∀ {m : Nat}, (addR n rs m).length = n
 | 0 => by rw [addR, List.length_replicate]
 | m + 1 => by rw [addR, ZaC, addR_len]
theorem YJ {β : Type} {l : List β} {i j : Nat} {a d : β} : (l.set i a).getD j d = if j = i ∧ i < l.length then a else l.getD j d := by
 rw [List.getD_eq_getElem?_getD, List.getElem?_set]
 by_cases e : i = j
 ·subst e
  rw [if_pos rfl]
  by_cases h : i < l.length
  ·rw [if_pos h, if_pos ⟨rfl, h⟩]; rfl
  rw [if_neg h, if_neg (fun e => h e.2), List.getD_eq_getElem?_getD, List.getElem?_eq_none (by omega)]
 rw [if_neg e, if_neg (fun h => e h.1.symm), List.getD_eq_getElem?_getD]
theorem Zcp {r : Rul} {rss : List (List Rul)} {i : Nat} : ∀ {s : Nat}, ((ZcF r rss s).getD i []).length ≤ (rss.getD i []).length + s
 | 0 => Nat.le_refl _
 | s + 1 => by
  have ih := @Zcp r rss i s
  rw [ZcF, YJ]
  split
  ·rename_i h; rw [← h.1, List.length_append]; show _ + 1 ≤ _; omega
  omega
theorem Zcq {n : Nat} {rs : List Rul} {i c : Nat} (h : ∀ r, r ∈ rs → r.steps.length ≤ c) : ∀ {m : Nat}, m ≤ rs.length → ((addR n rs m).getD i []).length ≤ m * c
 | 0, _ => by
  rw [addR, List.getD_eq_getElem?_getD, List.getElem?_replicate]; split <;> simp
 | m + 1, hm => by
  have ih := Zcq (n := n) (i := i) h (m := m) (by omega)
  have h1 := @Zcp (rs.getD m rz) (addR n rs m) i (rs.getD m rz).steps.length
  have h2 := h _ (mem_getX (d := rz) (l := rs) (k := m) (by omega))
  rw [addR, Nat.succ_mul]; omega
theorem addS_mem {r r' : Rul} {rss : List (List Rul)} {i : Nat} (hs : ∀ x, x ∈ r.steps → 0 ≤ x ∧ x < rss.length) : ∀ {s : Nat}, s ≤ r.steps.length → (r' ∈ (ZcF r rss s).getD i [] ↔ r' ∈ rss.getD i [] ∨ (r' = r ∧ (i : Int) ∈ r.steps.take s))
 | 0, _ => by simp [ZcF]
 | s + 1, h => by
  have ih := addS_mem (r' := r') (i := i) hs (s := s) (by omega)
  have hx := hs _ (Jd (l := r.steps) (k := s) (by omega))
  rw [ZcF, YJ, Yf (d := 0) (by omega), ZaC]
  by_cases e : i = (r.steps.getD s 0).toNat
  ·rw [if_pos ⟨e, by omega⟩, List.mem_append, List.mem_singleton, ← e, ih, List.mem_append, List.mem_singleton]
   have : (i : Int) = r.steps.getD s 0 := by omega
   simp only [this]
   constructor
   ·rintro ((h | h) | h)
    ·exact .inl h
    ·exact .inr ⟨h.1, .inl h.2⟩
    exact .inr ⟨h, .inr trivial⟩
   rintro (h | ⟨h, _⟩)
   ·exact .inl (.inl h)
   exact .inr h
  rw [if_neg (fun h => e h.1), ih]
  have : ¬ (i : Int) = r.steps.getD s 0 := by omega
  simp only [List.mem_append, List.mem_singleton, this, or_false]
theorem ZaD {n : Nat} {rs : List Rul} {r' : Rul} {i : Nat} (hs : ∀ r, r ∈ rs → ∀ x, x ∈ r.steps → 0 ≤ x ∧ x < n) : ∀ {m : Nat}, m ≤ rs.length → (r' ∈ (addR n rs m).getD i [] ↔ r' ∈ rs.take m ∧ (i : Int) ∈ r'.steps)
 | 0, _ => by
  rw [addR, List.getD_eq_getElem?_getD, List.getElem?_replicate]; split <;> simp
 | m + 1, hm => by
  have ih := ZaD (r' := r') (i := i) hs (m := m) (by omega)
  have hr := mem_getX (d := rz) (l := rs) (k := m) (by omega)
  rw [addR, addS_mem (by rw [addR_len]; exact hs _ hr) (Nat.le_refl _), ih, List.take_length, Yf (d := rz) (by omega), List.mem_append, List.mem_singleton]
  constructor
  ·rintro (⟨h1, h2⟩ | ⟨rfl, h2⟩)
   ·exact ⟨.inl h1, h2⟩
   exact ⟨.inr rfl, h2⟩
  rintro ⟨h1 | rfl, h2⟩
  ·exact .inl ⟨h1, h2⟩
  exact .inr ⟨rfl, h2⟩
def Y8 (p : Pb) : List (List Rul) := addR p.who.length p.rules p.rules.length
open Go
theorem Pat.lt {a : List Nat} (h : Pat a) : ∀ {n i : Nat}, n ≤ a.length → i < n → a.getD i 0 < szP a n
 | n + 1, i, hn, hi => by
  have := h n (by omega)
  rw [szP]
  by_cases e : i = n
  ·subst e; split <;> omega
  have := h.lt (n := n) (i := i) (by omega) (by omega)
  split <;> omega
def plN (a us : List Nat) : List Nat := a.map fun b => us.getD b 0
theorem Qc {a us : List Nat} : (plN a us).length = a.length := List.length_map _
def plK (a us : List Nat) (k : Nat) : List Nat := (plN a us).take k ++ List.replicate (a.length - k) 0
theorem plK_len {a us : List Nat} {k : Nat} (h : k ≤ a.length) : (plK a us k).length = a.length := by
 unfold plK; rw [List.length_append, List.length_take, Qc, List.length_replicate]; omega
theorem plK_all {a us : List Nat} : plK a us a.length = plN a us := by
 unfold plK; rw [Nat.sub_self, List.replicate_zero, List.append_nil, List.take_of_length_le (by rw [Qc]; omega)]
theorem plK_step {a us : List Nat} {k : Nat} (h : k < a.length) : (plK a us k).set k (us.getD (a.getD k 0) 0) = plK a us (k + 1) := by
 unfold plK
 rw [List.set_append_right _ _ (by rw [List.length_take]; omega), List.length_take, Qc, Nat.min_eq_left (by omega), Nat.sub_self, show a.length - k = (a.length - (k + 1)) + 1 by omega, List.replicate_succ, List.set_cons_zero, Yf (d := 0) (by rw [Qc]; exact h), List.append_assoc]
 congr 2
 unfold plN
 simp [List.getD_eq_getElem?_getD, h]
theorem rep_rc (n : Nat) : ZH [iI 0] n = rcN (List.replicate n 0) := by
 induction n with
 | zero => rfl
 | succ n ih => rw [List.replicate_succ]; show iI 0 :: ZH [iI 0] n = _; rw [ih]; rfl
theorem spl_N {l : List Nat} {k v : Nat} (h : k < l.length) : Zx (rcN l) (0 + k * 1) [iI (v : Nat)] = rcN (l.set k v) := by
 rw [show 0 + k * 1 = k by omega]
 unfold Zx
 rw [show rcN (l.set k v) = (rcN l).set k (iI (v : Nat)) from List.map_set, List.set_eq_take_append_cons_drop, if_pos XH31]; simp
open Go
theorem Zau : ∀ {m : Nat} {row : List Nat} {a : List Nat}, Pat row → a ∈ QB m row (szP row row.length) → Pat a
 | 0, row, a, hp, h => by rw [QB, List.mem_singleton] at h; exact h ▸ hp
 | m + 1, row, a, hp, h => by
  rw [QB, List.mem_flatMap] at h
  obtain ⟨x, hx, h⟩ := h
  have hx := List.mem_range.1 hx
  rw [← Q9 (by omega)] at h
  exact Zau (Qz hp (by omega)) h
theorem kpB_full {ws : List (BitVec 64)} {rss : List (List Rul)} {a : List Nat} (h : kpB ws rss a = true) : Yk (Z6 ws a a.length) 0#64 = true := by
 unfold kpB at h
 split at h
 ·cases h
 split at h
 ·exact h
 cases h
theorem fnd_ok {u : Nat} {ws : List (BitVec 64)} {rss : List (List Rul)} {a : List Nat} (h : (frm (kpB ws rss) (kpG u ws rss) ws.length [] 0).2 = some a) : a ∈ QB ws.length [] 0 ∧ a.length = ws.length ∧ Pat a ∧ XD (kpB ws rss) 0 a = true ∧ Mat (msk (Z6 ws a a.length) 0#64) := by
 rw [ZaB] at h
 have hm := List.mem_of_find?_eq_some h
 have hk := List.find?_some h
 obtain ⟨z, hz, hl⟩ := XW hm
 rw [List.nil_append] at hz; subst hz
 refine ⟨hm, hl, Zau Qg hm, hk, ?_⟩
 have hk' := (Xc _).1 hk
 cases hn : a.length with
 | zero =>
  rw [show Z6 ws a 0 = [] from rfl]
  exact fullB_iff.1 (by rfl)
 | succ n =>
  have := hk' n (by omega) (Nat.zero_le _)
  rw [List.take_of_length_le (by omega)] at this
  rw [← hn]
  exact fullB_iff.1 (kpB_full this)
def fdA (u : Nat) (ws : List (BitVec 64)) (rss : List (List Rul)) : Option (List Nat) := (frm (kpB ws rss) (kpG u ws rss) ws.length [] 0).2.map fun a => plN a (lst (Z6 ws a a.length) 0#64)
open Go
theorem XP {l : List Nat} {k i : Nat} (h : i < k) : (l.take k).getD i 0 = l.getD i 0 := by
 rw [List.getD_eq_getElem?_getD, List.getElem?_take, if_pos h, List.getD_eq_getElem?_getD]
theorem Q8 {a : List Nat} {k : Nat} : ∀ {j : Nat}, j ≤ k → szP (a.take k) j = szP a j
 | 0, _ => rfl
 | j + 1, h => by rw [szP, szP, Q8 (by omega), XP (by omega)]
theorem Qr {a : List Nat} {j : Nat} : ∀ {k : Nat}, j ≤ k → szP a j ≤ szP a k
 | 0, h => by obtain rfl : j = 0 := by omega
              exact Nat.le_refl _
 | k + 1, h => by
  by_cases e : j = k + 1
  ·rw [e]; exact Nat.le_refl _
  have := Qr (a := a) (j := j) (k := k) (by omega)
  rw [szP]; split <;> omega
theorem szP_pos {a : List Nat} {k : Nat} (h : 0 < k) : a.getD 0 0 = 0 → 0 < szP a k := fun h0 => by
 have := Qr (a := a) (j := 1) (k := k) (by omega)
 rw [szP, h0] at this
 have h1 : (if 0 = szP a 0 then szP a 0 + 1 else szP a 0) = 1 := rfl
 omega
theorem getD_setS' {β : Type} {l : List β} {i j : Nat} {a d : β} (h : i < l.length) : (l.set i a).getD j d = if j = i then a else l.getD j d := by
 rw [YJ]
 by_cases e : j = i
 ·rw [if_pos ⟨e, h⟩, if_pos e]
 rw [if_neg (fun h => e h.1), if_neg e]
theorem ZaK {ws : List (BitVec 64)} {a : List Nat} : ∀ {k : Nat}, (∀ i, i < k → a.getD i 0 ≤ szP a i) → ∀ {b u : Nat}, b < szP a k → (((Z6 ws a k).getD b 0).getLsbD u = true ↔ ∀ i, i < k → a.getD i 0 = b → (ws.getD i 0).getLsbD u = true)
 | 0, _, b, u, h => absurd h (by simp [szP])
 | k + 1, hp, b, u, h => by
  have ih := ZaK (ws := ws) (a := a) (k := k) (fun i hi => hp i (by omega)) (b := b) (u := u)
  have hl := @YB ws a k
  have hk := hp k (by omega)
  rw [szP] at h
  rw [Z6]
  by_cases e : a.getD k 0 = szP a k
  ·rw [if_pos e] at h
   rw [if_pos (by rw [hl]; exact e)]
   by_cases hb : b = szP a k
   ·subst hb
    rw [List.getD_eq_getElem?_getD, List.getElem?_append_right (by omega), hl, Nat.sub_self]
    constructor
    ·intro h1 i hi h2
     by_cases h3 : i = k
     ·subst h3; exact h1
     -- no earlier step has that block
     have := Pat.lt (a := a.take k) (fun j hj => by
      rw [List.length_take] at hj
      have := hp j (by omega)
      rw [XP (by omega), Q8 (by omega)]; exact this) (n := min k a.length) (i := i) (by rw [List.length_take]; omega)
     by_cases h4 : i < a.length
     ·have := this (by omega)
      rw [XP (by omega)] at this
      have hle : szP (a.take k) (min k a.length) ≤ szP a k := by
       rw [Q8 (by omega)]; exact Qr (by omega)
      omega
     have h0 : a.getD i 0 = 0 := by rw [List.getD_eq_getElem?_getD, List.getElem?_eq_none (by omega)]; rfl
     have h00 := szP_pos (a := a) (k := k) (by omega) (by have := hp 0 (by omega); rw [szP] at this; omega)
     omega
    intro h1; exact h1 k (by omega) e
   have hb' : b < szP a k := by omega
   rw [List.getD_eq_getElem?_getD, List.getElem?_append_left (by omega), ← List.getD_eq_getElem?_getD, ih hb']
   constructor
   ·intro h1 i hi h2
    by_cases h3 : i = k
    ·subst h3; omega
    exact h1 i (by omega) h2
   intro h1 i hi h2; exact h1 i (by omega) h2
  rw [if_neg e] at h
  rw [if_neg (by rw [hl]; exact e)]
  rw [getD_setS' (by omega)]
  by_cases hb : b = a.getD k 0
  ·subst hb
   rw [if_pos rfl, BitVec.getLsbD_and, Bool.and_eq_true, ih h]
   constructor
   ·rintro ⟨h1, h2⟩ i hi h3
    by_cases h4 : i = k
    ·subst h4; exact h2
    exact h1 i (by omega) h3
   intro h1; exact ⟨fun i hi h2 => h1 i (by omega) h2, h1 k (by omega) rfl⟩
  rw [if_neg hb, ih h]
  constructor
  ·intro h1 i hi h2
   by_cases h3 : i = k
   ·subst h3; exact absurd h2.symm hb
   exact h1 i (by omega) h2
  intro h1 i hi h2; exact h1 i (by omega) h2
open Go
theorem matB {ws : List (BitVec 64)} {a vs : List Nat} {k : Nat} (hp : ∀ i, i < k → a.getD i 0 ≤ szP a i) (hk : k ≤ a.length) : MatU (Z6 ws a k) vs ↔ vs.length = szP a k ∧ vs.Nodup ∧ ∀ i, i < k → (ws.getD i 0).getLsbD (vs.getD (a.getD i 0) 0) = true := by
 have hl := @YB ws a k
 have hlt : ∀ i, i < k → a.getD i 0 < szP a k := fun i hi => by
  have h1 := hp i hi
  have h2 := Qr (a := a) (j := i + 1) (k := k) (by omega)
  rw [szP] at h2
  split at h2 <;> omega
 constructor
 ·intro h
  refine ⟨by rw [h.len, hl], h.nd, fun i hi => ?_⟩
  have := h.ok (a.getD i 0) (by rw [hl]; exact hlt i hi)
  exact (ZaK hp (hlt i hi)).1 this i hi rfl
 rintro ⟨h1, h2, h3⟩
 exact ⟨by rw [h1, hl], h2, fun b hb => (ZaK hp (by rw [← hl]; exact hb)).2 fun i hi e => e ▸ h3 i hi⟩
theorem mat_pre {ws : List (BitVec 64)} {a : List Nat} {j k : Nat} (hp : ∀ i, i < k → a.getD i 0 ≤ szP a i) (hk : k ≤ a.length) (hj : j ≤ k) (h : Mat (Z6 ws a k)) : Mat (Z6 ws a j) := by
 obtain ⟨vs, h⟩ := h
 obtain ⟨h1, h2, h3⟩ := (matB hp hk).1 h
 have hm := Qr (a := a) hj
 refine ⟨vs.take (szP a j), (matB (fun i hi => hp i (by omega)) (by omega)).2 ⟨by rw [List.length_take]; omega, List.Nodup.sublist (List.take_sublist ..) h2, fun i hi => ?_⟩⟩
 have hlt : a.getD i 0 < szP a j := by
  have h4 := hp i (by omega)
  have h5 := Qr (a := a) (j := i + 1) (k := j) (by omega)
  rw [szP] at h5
  split at h5 <;> omega
 rw [XP hlt]; exact h3 i (by omega)
theorem Zdj {ws : List (BitVec 64)} {a : List Nat} {k : Nat} : ∀ {j : Nat}, j ≤ k → Z6 ws (a.take k) j = Z6 ws a j
 | 0, _ => rfl
 | j + 1, h => by rw [Z6, Z6, Zdj (by omega), XP (by omega)]
theorem Pat.take {a : List Nat} (h : Pat a) (k : Nat) : Pat (a.take k) := fun j hj => by
 rw [List.length_take] at hj
 rw [XP (by omega), Q8 (by omega)]; exact h j (by omega)
theorem mat_row0 {l : List (BitVec 64)} {b : Nat} (hb : b < l.length) (h : l.getD b 0 = 0) : ¬ Mat l := by
 rintro ⟨us, h1⟩
 have := h1.ok b hb
 rw [h] at this; simp at this
theorem kpB_iff {ws : List (BitVec 64)} {rss : List (List Rul)} {a : List Nat} (ha : Pat a) (h0 : 0 < a.length) : kpB ws rss a = true ↔ kpR ws rss a = true ∧ Mat (Z6 ws a a.length) := by
 have hl := @YB ws a a.length
 have hb := Pat.lt ha (Nat.le_refl a.length) (i := a.length - 1) (by omega)
 unfold kpB
 by_cases e : (Z6 ws a a.length).getD (a.getD (a.length - 1) 0) 0 = 0
 ·rw [if_pos e]
  constructor
  ·intro h; cases h
  rintro ⟨_, h⟩; exact absurd h (mat_row0 (by rw [hl]; exact hb) e)
 rw [if_neg e]
 by_cases h1 : kpR ws rss a = true
 ·rw [if_pos h1, fullB_iff, msk_0]; exact ⟨fun h => ⟨h1, h⟩, fun h => h.2⟩
 rw [if_neg h1]
 constructor
 ·intro h; cases h
 rintro ⟨h, _⟩; exact absurd h h1
theorem uq_pre (l m : List Int) : uq l ≤ uq (l ++ m) ∧ uq (l ++ m) ≤ uq l + m.length := by
 refine Xh (P := fun m => uq l ≤ uq (l ++ m) ∧ uq (l ++ m) ≤ uq l + m.length) (by simp) (fun m x ih => ?_) m
 rw [← List.append_assoc, Zac, List.length_append]
 show _ ∧ _ ≤ _ + (_ + 1)
 split <;> omega
theorem oft_pre (l m : List Int) : oft l ≤ oft (l ++ m) := by
 refine Xh (P := fun m => oft l ≤ oft (l ++ m)) (by simp) (fun m x ih => ?_) m
 rw [← List.append_assoc, ZaH]; omega
theorem rise_cut {n : Int} {k : Int} : ∀ (s : List Int) (a : Int), YX n a s = true → ∃ s1 s2, s = s1 ++ s2 ∧ (∀ x, x ∈ s1 → x < k) ∧ ∀ x, x ∈ s2 → k ≤ x
 | [], _, _ => ⟨[], [], rfl, fun x h => (by cases h), fun x h => (by cases h)⟩
 | x :: s, a, h => by
  rw [YX, Bool.and_eq_true, decide_eq_true_eq] at h
  by_cases hx : x < k
  ·obtain ⟨s1, s2, rfl, h1, h2⟩ := rise_cut (k := k) s x h.2
   exact ⟨x :: s1, s2, rfl, fun y hy => (List.mem_cons.1 hy).elim (fun e => e ▸ hx) (h1 y), h2⟩
  refine ⟨[], x :: s, rfl, fun y h => (by cases h), fun y hy => ?_⟩
  rcases List.mem_cons.1 hy with rfl | hy
  ·omega
  have := Xn s x h.2 y hy; omega
theorem lbls_app (s1 s2 l : List Int) : YK (s1 ++ s2) l = YK s1 l ++ YK s2 l := by unfold YK; rw [List.filter_append, List.map_append]
theorem lft_app (s1 s2 l : List Int) : lft (s1 ++ s2) l = lft s1 l + lft s2 l := by unfold lft; rw [List.filter_append, List.length_append]
theorem lbls_out {s l : List Int} (h : ∀ x, x ∈ s → (l.length : Int) ≤ x) : YK s l = [] ∧ lft s l = s.length := by
 unfold YK lft
 rw [List.filter_eq_nil_iff.2 (fun x hx => by have := h x hx; simp; omega), List.filter_eq_self.2 (fun x hx => by have := h x hx; simp; omega)]
 exact ⟨rfl, rfl⟩
theorem lbls_in {s l m : List Int} (h : ∀ x, x ∈ s → x < (l.length : Int) ∧ x < (m.length : Int) ∧ l.getD x.toNat 0 = m.getD x.toNat 0) : YK s l = YK s m ∧ lft s l = 0 ∧ lft s m = 0 := by
 unfold YK lft
 rw [List.filter_eq_self.2 (fun x hx => by have := h x hx; simp; omega), List.filter_eq_self.2 (fun x hx => by have := h x hx; simp; omega), List.filter_eq_nil_iff.2 (fun x hx => by have := h x hx; simp; omega), List.filter_eq_nil_iff.2 (fun x hx => by have := h x hx; simp; omega)]
 exact ⟨List.map_congr_left fun x hx => (h x hx).2.2, rfl, rfl⟩
theorem kp_mono {r : Rul} {L M : List Int} {a b : Nat} (hb : b = a + M.length) (h : kp r (L ++ M) a = true) : kp r L b = true := by
 have h1 := uq_pre L M
 have h2 := oft_pre L M
 unfold kp at h ⊢
 split
 ·rename_i e; rw [if_pos e] at h; simp only [decide_eq_true_eq] at h ⊢; omega
 rename_i e; rw [if_neg e] at h
 split
 ·rename_i e; rw [if_pos e] at h; simp only [decide_eq_true_eq] at h ⊢; omega
 rename_i e; rw [if_neg e] at h
 split
 ·rename_i e; rw [if_pos e] at h; simp only [decide_eq_true_eq] at h ⊢; omega
 rename_i e; rw [if_neg e] at h
 split
 ·rename_i e; rw [if_pos e] at h; simp only [decide_eq_true_eq] at h ⊢; omega
 rename_i e; rw [if_neg e] at h; simp only [decide_eq_true_eq] at h ⊢; omega
theorem Zb1 {l : List Int} {k i : Nat} (h : i < k) : (l.take k).getD i 0 = l.getD i 0 := by
 rw [List.getD_eq_getElem?_getD, List.getElem?_take, if_pos h, List.getD_eq_getElem?_getD]
theorem erl_pre {r : Rul} {n : Int} {l : List Int} {k : Nat} (h : erl r n l = true) : erl r n (l.take k) = true := by
 unfold erl at h ⊢
 rw [Bool.and_eq_true, Bool.and_eq_true, decide_eq_true_eq] at h
 obtain ⟨h1, h2, h3⟩ := h
 rw [h1, decide_eq_true (by rw [List.length_take]; omega), Bool.true_and, Bool.true_and]
 by_cases hk : l.length ≤ k
 ·rw [List.take_of_length_le hk]; exact h3
 have hr := h1
 unfold rck at hr
 rw [Bool.and_eq_true, Bool.and_eq_true] at hr
 obtain ⟨s1, s2, hs, ha, hb⟩ := rise_cut (k := (k : Int)) r.steps (-1) hr.2.1
 have hmem := Xn _ _ hr.2.1
 have hlen : (l.take k).length = k := by rw [List.length_take]; omega
 unfold kpL at h3 ⊢
 rw [hs] at h3 ⊢
 have e1 := lbls_in (s := s1) (l := l.take k) (m := l) fun x hx => by
  have h4 := ha x hx
  have h5 := hmem x (by rw [hs]; exact List.mem_append_left _ hx)
  exact ⟨by omega, by omega, Zb1 (by omega)⟩
 have e2 := lbls_out (s := s2) (l := l.take k) fun x hx => by have := hb x hx; omega
 have e3 := Zch s2 l
 rw [lbls_app, lft_app, e1.1, e1.2.1, e2.1, e2.2, List.append_nil, Nat.zero_add]
 rw [lbls_app, lft_app, e1.2.2, Nat.zero_add] at h3
 exact kp_mono (by omega) h3
theorem max_of : ∀ {s : List Int}, s ≠ [] → ∃ j, j ∈ s ∧ ∀ x, x ∈ s → x ≤ j
 | [x], _ => ⟨x, by simp, fun y hy => by simp at hy; omega⟩
 | x :: y :: s, _ => by
  obtain ⟨j, h1, h2⟩ := max_of (s := y :: s) (by simp)
  by_cases h : x ≤ j
  ·exact ⟨j, List.mem_cons_of_mem _ h1, fun z hz => (List.mem_cons.1 hz).elim (fun e => e ▸ h) (h2 z)⟩
  exact ⟨x, List.mem_cons_self .., fun z hz => (List.mem_cons.1 hz).elim (fun e => by omega) (fun h3 => by have := h2 z h3; omega)⟩
theorem Ql {n : Int} {r : Rul} (h : rck n r = true) : r.steps ≠ [] ∧ ∀ x, x ∈ r.steps → 0 ≤ x ∧ x < n := by
 unfold rck at h
 rw [Bool.and_eq_true, Bool.and_eq_true] at h
 refine ⟨fun e => ?_, fun x hx => ?_⟩
 ·have := h.2.2
  unfold knd at this
  rw [e] at this
  simp at this
  omega
 have := Xn _ _ h.2.1 x hx; omega
theorem erl_last {r : Rul} {n : Int} {l : List Int} {j : Nat} (hl : (l.length : Int) ≤ n) (hj : j < l.length) (hmax : ∀ x, x ∈ r.steps → x ≤ j) (hr : rck n r = true) (h : erl r n (l.take (j + 1)) = true) : erl r n l = true := by
 unfold erl at h ⊢
 rw [Bool.and_eq_true, Bool.and_eq_true] at h
 rw [hr, decide_eq_true hl, Bool.true_and, Bool.true_and]
 have h3 := h.2.2
 unfold kpL at h3 ⊢
 have hlen : (l.take (j + 1)).length = j + 1 := by rw [List.length_take]; omega
 have hs := (Ql hr).2
 have e := lbls_in (s := r.steps) (l := l.take (j + 1)) (m := l) fun x hx => by
  have h4 := hmax x hx
  have h5 := hs x hx
  exact ⟨by omega, by omega, Zb1 (by omega)⟩
 rw [e.1, e.2.1] at h3
 rw [e.2.2]; exact h3
theorem zI_take {a : List Nat} {k : Nat} : zI (a.take k) = (zI a).take k := by unfold zI; rw [List.map_take]
theorem Je {ws : List (BitVec 64)} {rs : List Rul} {a : List Nat} (ha : Pat a) (hl : a.length = ws.length) (hr : ∀ r, r ∈ rs → rck ws.length r = true) :
  XD (kpB ws (addR ws.length rs rs.length)) 0 a = true ↔ Mat (Z6 ws a a.length) ∧ ∀ r, r ∈ rs → erl r ws.length (zI a) = true := by
 have hs : ∀ r, r ∈ rs → ∀ x, x ∈ r.steps → 0 ≤ x ∧ x < (ws.length : Int) := fun r h => (Ql (hr r h)).2
 have hzl : (zI a).length = a.length := Zbh
 have hkp : ∀ j, j < a.length → (kpB ws (addR ws.length rs rs.length) (a.take (j + 1)) = true ↔ (∀ r, r ∈ rs → (j : Int) ∈ r.steps → erl r ws.length ((zI a).take (j + 1)) = true) ∧ Mat (Z6 ws a (j + 1))) := fun j hj => by
  have hlen : (a.take (j + 1)).length = j + 1 := by rw [List.length_take]; omega
  rw [kpB_iff (ha.take _) (by omega), hlen, Zdj (Nat.le_refl _)]
  unfold kpR
  rw [hlen, Nat.add_sub_cancel, List.all_eq_true, zI_take]
  constructor
  ·rintro ⟨h1, h2⟩
   exact ⟨fun r hr1 hr2 => h1 r ((ZaD hs (Nat.le_refl _)).2 ⟨by rw [List.take_length]; exact hr1, hr2⟩), h2⟩
  rintro ⟨h1, h2⟩
  refine ⟨fun r hr1 => ?_, h2⟩
  have := (ZaD hs (Nat.le_refl _)).1 hr1
  rw [List.take_length] at this
  exact h1 r this.1 this.2
 rw [Xc]
 constructor
 ·intro h
  refine ⟨?_, fun r hr1 => ?_⟩
  ·cases hn : a.length with
   | zero => exact ⟨[], matU_nil.2 rfl⟩
   | succ n => exact ((hkp n (by omega)).1 (h n (by omega) (Nat.zero_le _))).2
  obtain ⟨j, hj, hmax⟩ := max_of (Ql (hr r hr1)).1
  have h2 := hs r hr1 j hj
  have h3 := ((hkp j.toNat (by omega)).1 (h j.toNat (by omega) (Nat.zero_le _))).1 r hr1 (by rw [Int.toNat_of_nonneg h2.1]; exact hj)
  exact erl_last (by omega) (by omega) (fun x hx => by have := hmax x hx; omega) (hr r hr1) h3
 rintro ⟨h1, h2⟩ j hj _
 exact (hkp j hj).2 ⟨fun r hr1 _ => erl_pre (h2 r hr1), mat_pre ha (Nat.le_refl _) (by omega) h1⟩
open Go
theorem Zcd : ∀ {m : Nat} {row a : List Nat}, Pat a → a.length = row.length + m → a.take row.length = row → a ∈ QB m row (szP row row.length)
 | 0, row, a, _, hl, ht => by
  rw [QB, List.mem_singleton, ← ht, List.take_of_length_le (by omega)]
 | m + 1, row, a, hp, hl, ht => by
  rw [QB, List.mem_flatMap]
  have h1 := hp row.length (by omega)
  have h2 : szP a row.length = szP row row.length := by rw [← Q8 (a := a) (Nat.le_refl _), ht]
  refine ⟨a.getD row.length 0, List.mem_range.2 (by omega), ?_⟩
  rw [← Q9 (by omega)]
  refine Zcd hp (by rw [List.length_append]; show _ = _ + 1 + m; omega) ?_
  rw [List.length_append]
  show a.take (row.length + 1) = _
  rw [Yf (d := 0) (by omega), ht]
section
variable {f : Int → Int}
theorem mem_mapI {L : List Int} {x : Int} (h : ∀ y, y ∈ L → f y = f x → y = x) : f x ∈ L.map f ↔ x ∈ L := by
 rw [List.mem_map]
 constructor
 ·rintro ⟨y, hy, e⟩; exact h y hy e ▸ hy
 intro hx; exact ⟨x, hx, rfl⟩
theorem Zb3 : ∀ {L : List Int} {x : Int}, (∀ y, y ∈ L → f y = f x → y = x) → (L.map f).count (f x) = L.count x
 | [], _, _ => rfl
 | y :: L, x, h => by
  rw [List.map_cons, List.count_cons, List.count_cons, Zb3 fun z hz => h z (List.mem_cons_of_mem _ hz)]
  congr 1
  by_cases e : y = x
  ·subst e; simp
  have : ¬ f y = f x := fun e2 => e (h y (List.mem_cons_self ..) e2)
  simp [e, this]
theorem uq_map {L : List Int} : (∀ x, x ∈ L → ∀ y, y ∈ L → f x = f y → x = y) → uq (L.map f) = uq L := by
 refine Xh (P := fun L => (∀ x, x ∈ L → ∀ y, y ∈ L → f x = f y → x = y) → uq (L.map f) = uq L) (fun _ => rfl) (fun L x ih h => ?_) L
 rw [List.map_append, List.map_singleton, Zac, Zac, ih fun a ha b hb => h a (List.mem_append_left _ ha) b (List.mem_append_left _ hb)]
 have := mem_mapI (f := f) (L := L) (x := x) fun y hy e => h y (List.mem_append_left _ hy) x (by simp) e
 simp only [this]
theorem oft_map {L : List Int} : (∀ x, x ∈ L → ∀ y, y ∈ L → f x = f y → x = y) → oft (L.map f) = oft L := by
 refine Xh (P := fun L => (∀ x, x ∈ L → ∀ y, y ∈ L → f x = f y → x = y) → oft (L.map f) = oft L) (fun _ => rfl) (fun L x ih h => ?_) L
 rw [List.map_append, List.map_singleton, ZaH, ZaH, ih fun a ha b hb => h a (List.mem_append_left _ ha) b (List.mem_append_left _ hb)]
 rw [Zb3 fun y hy e => h y (List.mem_append_left _ hy) x (by simp) e]
theorem lbls_map {s l : List Int} (hs : ∀ x, x ∈ s → 0 ≤ x) : YK s (l.map f) = (YK s l).map f ∧ lft s (l.map f) = lft s l := by
 unfold YK lft
 rw [List.length_map, List.map_map]
 refine ⟨List.map_congr_left fun x hx => ?_, rfl⟩
 obtain ⟨h1, h2⟩ := List.mem_filter.1 hx
 rw [decide_eq_true_eq] at h2
 have h3 := hs x h1
 have h4 : x.toNat < l.length := by omega
 simp [List.getD_eq_getElem?_getD, h4]
theorem lbls_mem {s l : List Int} (hs : ∀ x, x ∈ s → 0 ≤ x) : ∀ x, x ∈ YK s l → x ∈ l := fun x hx => by
 unfold YK at hx
 obtain ⟨i, hi, rfl⟩ := List.mem_map.1 hx
 obtain ⟨h1, h2⟩ := List.mem_filter.1 hi
 rw [decide_eq_true_eq] at h2
 have h3 := hs i h1
 exact Jd (by omega)
theorem erl_map {r : Rul} {n : Int} {l : List Int} (h : ∀ x, x ∈ l → ∀ y, y ∈ l → f x = f y → x = y) : erl r n (l.map f) = erl r n l := by
 unfold erl
 rw [List.length_map]
 by_cases hr : rck n r = true
 ·rw [hr]
  have hs := fun x hx => ((Ql hr).2 x hx).1
  have hm := @lbls_mem r.steps l hs
  have hk : kpL r (l.map f) = kpL r l := by
   unfold kpL
   have hL : ∀ x, x ∈ YK r.steps l → ∀ y, y ∈ YK r.steps l → f x = f y → x = y := fun x hx y hy => h x (hm x hx) y (hm y hy)
   rw [(lbls_map hs).1, (lbls_map hs).2]
   unfold kp
   rw [uq_map hL, oft_map hL]
  rw [hk]
 rw [Bool.eq_false_iff.2 hr]; rfl
end
theorem zI_pl {a vs : List Nat} : zI (plN a vs) = (zI a).map fun z => ((vs.getD z.toNat 0 : Nat) : Int) := by
 unfold zI plN
 rw [List.map_map, List.map_map]
 apply List.map_congr_left
 intro b _
 simp
theorem erl_pl {r : Rul} {n : Int} {a vs : List Nat} (hn : vs.Nodup) (h : ∀ b, b ∈ a → b < vs.length) : erl r n (zI (plN a vs)) = erl r n (zI a) := by
 rw [zI_pl]
 refine erl_map fun x hx y hy e => ?_
 unfold zI at hx hy
 obtain ⟨b, hb, rfl⟩ := List.mem_map.1 hx
 obtain ⟨c, hc, rfl⟩ := List.mem_map.1 hy
 have e : (((vs.getD b 0 : Nat) : Int)) = ((vs.getD c 0 : Nat) : Int) := e
 have := JY hn (h b hb) (h c hc) (by omega)
 rw [this]
def ptK (us : List Nat) : Nat → List Nat × List Nat
 | 0 => ([], [])
 | k + 1 => if us.getD k 0 ∈ (ptK us k).2 then ((ptK us k).1 ++ [(ptK us k).2.idxOf (us.getD k 0)], (ptK us k).2) else ((ptK us k).1 ++ [(ptK us k).2.length], (ptK us k).2 ++ [us.getD k 0])
structure PtOk (us : List Nat) (k : Nat) (a vs : List Nat) : Prop where
 len : a.length = k
 pat : Pat a
 sz : szP a k = vs.length
 nd : vs.Nodup
 ok : ∀ i, i < k → a.getD i 0 < vs.length ∧ vs.getD (a.getD i 0) 0 = us.getD i 0
theorem idx_get {l : List Nat} {u : Nat} (h : u ∈ l) : l.idxOf u < l.length ∧ l.getD (l.idxOf u) 0 = u := by
 have h1 := List.idxOf_lt_length_iff.2 h
 exact ⟨h1, by rw [List.getD_eq_getElem?_getD, List.getElem?_eq_getElem h1]; simp⟩
theorem ptK_ok {us : List Nat} : ∀ {k : Nat}, PtOk us k (ptK us k).1 (ptK us k).2
 | 0 => ⟨rfl, Qg, rfl, List.nodup_nil, fun i h => absurd h (by omega)⟩
 | k + 1 => by
  have ih := @ptK_ok us k
  have hl := ih.len
  have hsz := ih.sz
  rw [ptK]
  have hget : ∀ (x i : Nat), i < k → ((ptK us k).1 ++ [x]).getD i 0 = (ptK us k).1.getD i 0 := fun x i hi => Jo (by omega)
  have hlast : ∀ x : Nat, ((ptK us k).1 ++ [x]).getD k 0 = x := fun x => by
   have := Jp (row := (ptK us k).1) (k := x); rwa [hl] at this
  have hszA : ∀ x : Nat, x ≤ szP (ptK us k).1 k → szP ((ptK us k).1 ++ [x]) (k + 1) = max (szP (ptK us k).1 k) (x + 1) := fun x hx => by
   have := Q9 (row := (ptK us k).1) (k := x) (by rw [hl]; exact hx)
   rw [List.length_append, hl] at this; exact this
  by_cases h : us.getD k 0 ∈ (ptK us k).2
  ·rw [if_pos h]
   obtain ⟨h1, h2⟩ := idx_get h
   refine ⟨by rw [List.length_append, hl]; rfl, Qz ih.pat (by rw [hl, hsz]; omega), ?_, ih.nd, fun i hi => ?_⟩
   ·rw [hszA _ (by omega), hsz]; show max (ptK us k).2.length _ = (ptK us k).2.length; omega
   by_cases e : i = k
   ·subst e; rw [hlast]; exact ⟨h1, h2⟩
   rw [hget _ i (by omega)]; exact ih.ok i (by omega)
  rw [if_neg h]
  refine ⟨by rw [List.length_append, hl]; rfl, Qz ih.pat (by rw [hl, hsz]; exact Nat.le_refl _), ?_, List.nodup_append.2 ⟨ih.nd, by simp, fun a ha b hb => by
   rw [List.mem_singleton] at hb; subst hb; exact fun e => h (e ▸ ha)⟩, fun i hi => ?_⟩
  ·rw [hszA _ (by omega), hsz, List.length_append]; show max _ _ = _ + 1; omega
  rw [List.length_append]
  show _ < _ + 1 ∧ _
  by_cases e : i = k
  ·subst e; rw [hlast]; exact ⟨by omega, Jp⟩
  rw [hget _ i (by omega)]
  have := ih.ok i (by omega)
  exact ⟨by omega, by rw [Jo this.1]; exact this.2⟩
theorem ptK_pl {us : List Nat} : plN (ptK us us.length).1 (ptK us us.length).2 = us := by
 have ih := @ptK_ok us us.length
 apply List.ext_getElem (by rw [Qc, ih.len])
 intro i h1 h2
 have := (ih.ok i h2).2
 have e : (plN (ptK us us.length).1 (ptK us us.length).2).getD i 0 = us.getD i 0 := by
  unfold plN
  have h3 : i < (ptK us us.length).1.length := by rw [ih.len]; exact h2
  rw [← this]
  simp [List.getD_eq_getElem?_getD, h3]
 rw [List.getD_eq_getElem?_getD, List.getElem?_eq_getElem h1, List.getD_eq_getElem?_getD, List.getElem?_eq_getElem h2] at e
 exact e
structure PlanN (ws : List (BitVec 64)) (rs : List Rul) (us : List Nat) : Prop where
 len : us.length = ws.length
 may : ∀ i, i < ws.length → (ws.getD i 0).getLsbD (us.getD i 0) = true
 rul : ∀ r, r ∈ rs → erl r ws.length (zI us) = true
theorem pat_mem {a : List Nat} (ha : Pat a) : ∀ b, b ∈ a → b < szP a a.length := fun b hb => by
 obtain ⟨i, hi, rfl⟩ := List.getElem_of_mem hb
 have := Pat.lt ha (Nat.le_refl _) hi
 rwa [List.getD_eq_getElem?_getD, List.getElem?_eq_getElem hi] at this
theorem plN_get {a vs : List Nat} {i : Nat} (h : i < a.length) : (plN a vs).getD i 0 = vs.getD (a.getD i 0) 0 := by
 unfold plN; simp [List.getD_eq_getElem?_getD, h]
theorem plan_of {ws : List (BitVec 64)} {rs : List Rul} {a vs : List Nat} (ha : Pat a) (hl : a.length = ws.length) (hm : MatU (Z6 ws a a.length) vs) (hr : ∀ r, r ∈ rs → erl r ws.length (zI a) = true) : PlanN ws rs (plN a vs) := by
 obtain ⟨h1, h2, h3⟩ := (matB ha (Nat.le_refl _)).1 hm
 refine ⟨by rw [Qc, hl], fun i hi => ?_, fun r hr1 => ?_⟩
 ·rw [plN_get (by omega)]; exact h3 i (by omega)
 rw [erl_pl h2 fun b hb => by rw [h1]; exact pat_mem ha b hb]; exact hr r hr1
theorem of_plan {ws : List (BitVec 64)} {rs : List Rul} {us : List Nat} (h : PlanN ws rs us) : Pat (ptK us us.length).1 ∧ (ptK us us.length).1.length = ws.length ∧ MatU (Z6 ws (ptK us us.length).1 (ptK us us.length).1.length) (ptK us us.length).2 ∧ ∀ r, r ∈ rs → erl r ws.length (zI (ptK us us.length).1) = true := by
 have ih := @ptK_ok us us.length
 have hl := ih.len
 have hw := h.len
 refine ⟨ih.pat, by omega, (matB ih.pat (Nat.le_refl _)).2 ⟨by rw [hl]; exact ih.sz.symm, ih.nd, fun i hi => ?_⟩, fun r hr => ?_⟩
 ·rw [(ih.ok i (by omega)).2]; exact h.may i (by omega)
 have := h.rul r hr
 rw [← ptK_pl (us := us), erl_pl ih.nd fun b hb => by have h9 := pat_mem ih.pat b hb; rw [hl, ih.sz] at h9; exact h9] at this
 exact this
theorem fd_some {u : Nat} {ws : List (BitVec 64)} {rs : List Rul} {l : List Nat} (hr : ∀ r, r ∈ rs → rck ws.length r = true) (h : fdA u ws (addR ws.length rs rs.length) = some l) : PlanN ws rs l := by
 unfold fdA at h
 rw [Option.map_eq_some_iff] at h
 obtain ⟨a, h, rfl⟩ := h
 obtain ⟨h1, h2, h3, h4, h5⟩ := fnd_ok h
 obtain ⟨h6, h7⟩ := (Je h3 h2 hr).1 h4
 have := lst_ok h5
 rw [msk_0] at this
 exact plan_of h3 h2 this h7
theorem fd_none {u : Nat} {ws : List (BitVec 64)} {rs : List Rul} (hr : ∀ r, r ∈ rs → rck ws.length r = true) (h : fdA u ws (addR ws.length rs rs.length) = none) : ∀ us, ¬ PlanN ws rs us := fun us hp => by
 unfold fdA at h
 rw [Option.map_eq_none_iff, ZaB, List.find?_eq_none] at h
 obtain ⟨h1, h2, h3, h4⟩ := of_plan hp
 exact h _ (Zcd h1 (by simpa using h2) rfl) ((Je h1 h2 hr).2 ⟨⟨_, h3⟩, h4⟩)
set_option autoImplicit false
open Go Go.RowKit
def Zbs (S : Sys) (l : Nat) : List (List VVal) → Ze → (Bool → Ze → Prop) → Prop
 | [], G, K => K true G
 | x :: xs, G, K => ∀ L, Fv S (.yield l) x (G ++ L) fun v G' => ∃ b G1 J, v = .bool b ∧ G' = G1 ++ (L ++ J) ∧ G1.length = G.length ∧ if b = true then Zbs S l xs G1 K else K false G1
section
variable {S : Sys} {H0 H : Ze} {rd : Option Nat} {env : VEnv} {Q : XV}
theorem Jh {f1 : FuncId} {caps : List VVal} {g : Operand} {ps : Array Nat} {asg body : Code} {β : Type} (fv : β → List VVal) (np : Nat) (hnp : ∀ x, (fv x).length = np) (xs : List β) (hrd : ∀ l0, rd = some l0 → ∃ st p fn tmps ps asg body, H[l0]? = some (.loop st p fn tmps ps asg body)) (hg : env.eval g = .func f1 [] caps)
  (hAll : ∀ (l : Nat) (G : Ze) (K : Bool → Ze → Prop), Zbs S l (xs.map fv) G K → F S f1 ([.yield l] ++ caps) G fun v G' => ∃ b G1 J, G' = G1 ++ J ∧ K b G1)
  {σ : Type} (hp : VBlk → σ → Ze) (s0 : σ) (h0 : ∀ k, H ++ [k] = hp k s0) (hlen : ∀ k s, (hp k s).length = H.length + 1) (hget : ∀ k s, (hp k s)[H.length]? = some k) (hset : ∀ k k' s, (hp k s).set H.length k' = hp k' s)
  (inv : List β → σ → Prop) (hi : inv [] s0) (X : Code → List β → β → σ → Prop) (hps : ps.toList.length = np)
  (round : ∀ pre c post s, xs = pre ++ c :: post → inv pre s → ∀ L (kr kb : VBlk), kr = .loop .ready none 0 env ps.toList asg body → kb = .loop .busy none 0 env ps.toList asg body →
   B S (hp kr s ++ L) (some H.length) asg (YI env ps.toList (fv c)) (hp kr s ++ L) (fun ex env1 H1 => ex = .normal ∧ ∃ s1, H1 = hp kr s1 ++ L ∧ B S (hp kr s ++ L) (some H.length) body env1 (hp kb s1 ++ L)
    (fun ex2 _ H2 => ∃ s2 J, H2 = hp kb s2 ++ (L ++ J) ∧ ((ex2 = .normal ∧ inv (pre ++ [c]) s2) ∨ (∃ j, Zaf ex2 = some (some j) ∧ X j pre c s2)))))
  (done : ∀ s k, k = VBlk.loop .exhausted none 0 env ps.toList asg body → inv xs s → ∀ J, Q .normal env (hp k s ++ J))
  (stop : ∀ j pre c post s k, k = VBlk.loop .exhausted (some j) 0 env ps.toList asg body → xs = pre ++ c :: post → X j pre c s → ∀ J, QP (some j) env (hp k s ++ J) Q) : B S H0 rd (.rangeFunc g ps asg body) env H Q := by
 let rec' : LoopState → Option Code → VBlk := fun st p => .loop st p 0 env ps.toList asg body
 let Kf : Bool → Ze → Prop := fun b G => if b = true then (∃ s, G = hp (rec' .ready none) s ∧ inv xs s) else ∃ j pre c post s, G = hp (rec' .done (some j)) s ∧ xs = pre ++ c :: post ∧ X j pre c s
 have lenlt : ∀ k s, H.length < (hp k s).length := fun k s => by rw [hlen]; omega
 have key : ∀ (ys pre : List β) (s : σ), xs = pre ++ ys → inv pre s → Zbs S H.length (ys.map fv) (hp (rec' .ready none) s) Kf := by
  intro ys
  induction ys with
  | nil =>
   intro pre s hx hs
   rw [List.append_nil] at hx
   show ∃ s', hp (rec' .ready none) s = hp (rec' .ready none) s' ∧ inv xs s'
   exact ⟨s, rfl, hx ▸ hs⟩
  | cons c ys ih =>
   intro pre s hx hs L
   have hr := round pre c ys s hx hs L _ _ rfl rfl
   refine Zcr (p := none) (fn := 0) (tmps := env) (ps := ps.toList) (body := body) (Zn (hget _ _)) (by rw [hnp, hps]) _ rfl (hr.mono ?_)
   rintro ex env1 H1 ⟨rfl, s1, rfl, hb⟩
   refine ⟨rfl, none, 0, env, ps.toList, asg, body, Zn (hget _ s1), ?_⟩
   rw [List.set_append_left _ _ (lenlt _ _), hset]
   refine hb.mono ?_
   rintro ex2 env2 H2 ⟨s2, J, rfl, h2⟩
   rcases h2 with ⟨rfl, h2⟩ | ⟨j, hj, h2⟩
   ·refine ⟨none, rfl, .busy, none, 0, env, ps.toList, asg, body, Zn (hget _ s2), true, hp (rec' .ready none) s2, J, rfl, ?_, by rw [hlen, hlen], ?_⟩
    ·rw [List.set_append_left _ _ (lenlt _ _), hset]; rfl
    rw [if_pos rfl]
    exact ih (pre ++ [c]) s2 (by rw [hx]; simp) h2
   refine ⟨some j, hj, .busy, none, 0, env, ps.toList, asg, body, Zn (hget _ s2), false, hp (rec' .done (some j)) s2, J, rfl, ?_, by rw [hlen, hlen], ?_⟩
   ·rw [List.set_append_left _ _ (lenlt _ _), hset]; rfl
   rw [if_neg (by simp)]
   show ∃ j' pre' c' post' s', hp (rec' .done (some j)) s2 = hp (rec' .done (some j')) s' ∧ xs = pre' ++ c' :: post' ∧ X j' pre' c' s'
   exact ⟨j, pre, c, ys, s2, rfl, hx, h2⟩
 refine B_range hrd hg (hAll H.length _ Kf (by rw [h0]; exact key xs [] s0 rfl hi)) ?_
 rintro v H2 ⟨b, G1, J, rfl, hK⟩
 cases b
 ·have hK : ∃ j pre c post s, G1 = hp (rec' .done (some j)) s ∧ xs = pre ++ c :: post ∧ X j pre c s := by simpa [Kf] using hK
  obtain ⟨j, pre, c, post, s, rfl, hx, hX⟩ := hK
  refine ⟨.done, some j, 0, env, ps.toList, asg, body, Zn (hget _ s), by simp, ?_⟩
  rw [List.set_append_left _ _ (lenlt _ _), hset]
  exact stop j pre c post s _ rfl hx hX J
 have hK : ∃ s, G1 = hp (rec' .ready none) s ∧ inv xs s := by simpa [Kf] using hK
 obtain ⟨s, rfl, hs⟩ := hK
 refine ⟨.ready, none, 0, env, ps.toList, asg, body, Zn (hget _ _), by simp, ?_⟩
 rw [List.set_append_left _ _ (lenlt _ _), hset]
 exact done s _ rfl hs J
theorem B_frzEnd {c : Code} {env' : VEnv} {A Z : Ze} {row : List Nat} {k n cp : Nat} (i : Nat) (hv : env[i]? = some (.slice (some (A.length + Z.length, 0)) n cp false 1)) (hn : n = row.length + 1) (hc : cp = n) (he : env.set i (fzN (row ++ [k])) = env')
  (h : B S H0 rd c env' (A ++ (Z ++ [.dead])) Q) : B S H0 rd c env (A ++ (Z ++ [.cells (rcN row ++ [iI (k : Nat)]) true])) Q := by
 subst hc; subst hn
 refine Ym (Gh.freezeL (H := A) (L := Z ++ [.cells (rcN row ++ [iI (k : Nat)]) true]) (l := rcN (row ++ [k])) (vs' := env') i Z.length hv Xw (by rw [← Zcc]; exact Yn (by simp)) (Nat.le_refl _) (by rw [← he]; show _ = env.set i (.fsl _ (row ++ [k]).length 1 false); rw [List.length_append]; rfl)) ?_
 rw [set_end]; exact h
end
theorem ea_fold {A L J0 J2 : Ze} {a b : VBlk} : A ++ ((((L ++ J0) ++ [a]) ++ [b]) ++ J2) = A ++ (L ++ (J0 ++ [a, b] ++ J2)) := by simp
theorem ea_fold0 {A L J0 : Ze} {a b : VBlk} : A ++ (((L ++ J0) ++ [a]) ++ [b]) = A ++ (L ++ (J0 ++ [a, b])) := by simp
set_option autoImplicit true
open Go
section
variable {kp : List Nat → Bool} {kg : List Nat → Gz} {f : List Nat → Nat → ZaQ} {row : List Nat} {blocks : Nat}
def ptF (kp : List Nat → Bool) (kg : List Nat → Gz) (f : List Nat → Nat → ZaQ) (row : List Nat) (blocks : Nat) : List Nat → ZaQ
 | [] => ([], 0)
 | x :: xs => addF (kg (row ++ [x])) (if kp (row ++ [x]) = true then catT (f (row ++ [x]) (max blocks (x + 1))) (ptF kp kg f row blocks xs) else ptF kp kg f row blocks xs)
def ptT (kp : List Nat → Bool) (kg : List Nat → Gz) : Nat → List Nat → Nat → ZaQ
 | 0, row, _ => ([(0, row)], 0)
 | m + 1, row, blocks => ptF kp kg (ptT kp kg m) row blocks (List.range (blocks + 1))
def ptR (kp : List Nat → Bool) (kg : List Nat → Gz) (f : List Nat → Nat → ZaQ) (row : List Nat) (blocks k : Nat) : ZaQ := ptF kp kg f row blocks ((List.range (blocks + 1)).drop k)
theorem ptR_end {k : Nat} (h : blocks < k) : ptR kp kg f row blocks k = ([], 0) := by
 unfold ptR; rw [List.drop_eq_nil_of_le (by simp; omega)]; rfl
theorem ptR_no {k : Nat} (h : k ≤ blocks) (h1 : kp (row ++ [k]) = false) : ptR kp kg f row blocks k = addF (kg (row ++ [k])) (ptR kp kg f row blocks (k + 1)) := by
 unfold ptR; rw [QI (by omega), ptF, if_neg (by rw [h1]; decide)]
theorem ptR_yes {k : Nat} (h : k ≤ blocks) (h1 : kp (row ++ [k]) = true) : ptR kp kg f row blocks k = addF (kg (row ++ [k])) (catT (f (row ++ [k]) (max blocks (k + 1))) (ptR kp kg f row blocks (k + 1))) := by
 unfold ptR; rw [QI (by omega), ptF, if_pos h1]
theorem ptT_R {m : Nat} : ptT kp kg (m + 1) row blocks = ptR kp kg (ptT kp kg m) row blocks 0 := by
 unfold ptR; rw [ptT]; rfl
theorem ptF_snd {g : List Nat → Nat → List (List Nat)} {n : Nat} (hn : n = row.length)
  (hf : ∀ r b, r.length = n + 1 → (f r b).1.map Prod.snd = (g r b).filter (XD kp (n + 1))) (hg : ∀ r b a, r.length = n + 1 → a ∈ g r b → ∃ z, a = r ++ z) : ∀ xs : List Nat, (ptF kp kg f row blocks xs).1.map Prod.snd = (xs.flatMap fun x => g (row ++ [x]) (max blocks (x + 1))).filter (XD kp n)
 | [] => rfl
 | x :: xs => by
  have hl : (row ++ [x]).length = n + 1 := by rw [List.length_append, hn]; rfl
  have ih := ptF_snd hn hf hg xs
  have hkey : ∀ a, a ∈ g (row ++ [x]) (max blocks (x + 1)) → XD kp n a = (kp (row ++ [x]) && XD kp (n + 1) a) := by
   intro a ha
   obtain ⟨z, rfl⟩ := hg _ _ _ hl ha
   rw [Bool.eq_iff_iff, Bool.and_eq_true, Xc, Xc]
   have ht : (row ++ [x] ++ z).take (n + 1) = row ++ [x] := by rw [List.take_append_of_le_length (by omega), List.take_of_length_le (by omega)]
   constructor
   ·intro h
    exact ⟨by have := h n (by rw [List.length_append, hl]; omega) (Nat.le_refl _); rwa [ht] at this, fun j hj hn => h j hj (by omega)⟩
   rintro ⟨h1, h2⟩ j hj hjn
   by_cases e : j = n
   ·subst e; rw [ht]; exact h1
   exact h2 j hj (by omega)
  have hfil : (g (row ++ [x]) (max blocks (x + 1))).filter (XD kp n) = if kp (row ++ [x]) = true then (f (row ++ [x]) (max blocks (x + 1))).1.map Prod.snd else [] := by
   by_cases hk : kp (row ++ [x]) = true
   ·rw [if_pos hk, hf _ _ hl]
    exact List.filter_congr fun a ha => by rw [hkey a ha, hk, Bool.true_and]
   rw [if_neg hk, List.filter_eq_nil_iff]
   intro a ha
   rw [hkey a ha, Bool.eq_false_iff.2 hk, Bool.false_and]; decide
  rw [ptF, addF_snd, List.flatMap_cons, List.filter_append, hfil, ← ih]
  split
  ·rw [catT_snd]
  rfl
theorem ptT_snd : ∀ (m : Nat) (row : List Nat) (blocks : Nat), (ptT kp kg m row blocks).1.map Prod.snd = (QB m row blocks).filter (XD kp row.length)
 | 0, row, _ => by
  rw [ptT, QB, List.filter_cons, if_pos]; · rfl
  rw [Xc]; intro j h1 h2; omega
 | m + 1, row, blocks => by
  rw [ptT, QB]
  refine ptF_snd rfl (fun r b h => ?_) (fun r b a _ ha => ?_) _
  ·rw [ptT_snd m r b, h]
  obtain ⟨z, h, _⟩ := XW ha; exact ⟨z, h⟩
end
set_option autoImplicit false
open Go
def Z8 (most : BitVec 64) (n : Nat) : BitVec 64 := BitVec.ofNat 64 (min most.toNat n)
theorem Ys {most : BitVec 64} {n : Nat} : (Z8 most n).toNat = min most.toNat n := by
 unfold Z8
 rw [BitVec.toNat_ofNat, Nat.mod_eq_of_lt]
 have := most.isLt; omega
theorem satW_0 {most : BitVec 64} : Z8 most 0 = 0#64 := by apply BitVec.eq_of_toNat_eq; rw [Ys]; simp
theorem satW_step {most : BitVec 64} {n c : Nat} : Z8 most n + Z8 (most - Z8 most n) c = Z8 most (n + c) := by
 apply BitVec.eq_of_toNat_eq
 have h1 := @Ys most n
 have hlt := most.isLt
 rw [BitVec.toNat_add, Ys, Ys, Ys, BitVec.toNat_sub, h1]
 omega
theorem satW_full {most : BitVec 64} {n k : Nat} (h : Z8 most n = most) (hk : n ≤ k) : Z8 most k = most := by
 apply BitVec.eq_of_toNat_eq
 have := congrArg BitVec.toNat h
 rw [Ys] at this ⊢
 omega
set_option autoImplicit true
open Go
theorem sum_add {α : Type} {f g : α → Nat} : ∀ {l : List α}, (l.map fun a => f a + g a).sum = (l.map f).sum + (l.map g).sum
 | [] => rfl
 | a :: l => by simp only [List.map_cons, List.sum_cons, sum_add (l := l)]; omega
theorem sum_zero {α : Type} {f : α → Nat} : ∀ {l : List α}, (∀ a, a ∈ l → f a = 0) → (l.map f).sum = 0
 | [], _ => rfl
 | a :: l, h => by simp only [List.map_cons, List.sum_cons, h a (List.mem_cons_self ..), sum_zero fun b hb => h b (List.mem_cons_of_mem _ hb)]
theorem sum_swap {α β : Type} {f : α → β → Nat} {m : List β} : ∀ {l : List α}, (l.map fun a => (m.map fun b => f a b).sum).sum = (m.map fun b => (l.map fun a => f a b).sum).sum
 | [] => by simp only [List.map_nil, List.sum_nil]; exact (sum_zero fun _ _ => rfl).symm
 | a :: l => by simp only [List.map_cons, List.sum_cons, sum_swap (l := l), sum_add]
def cnT : List (BitVec 64) → BitVec 64 → Nat
 | [], _ => 1
 | w :: l, t => ((pl (w &&& ~~~t) 0).map fun u => cnT l (t ||| 1#64 <<< u)).sum
def cnI (rows : List (BitVec 64)) (u : Nat) : List Nat → BitVec 64 → Nat
 | [], _ => 1
 | i :: L, t => (((pl (rows.getD i 0 &&& ~~~t) 0).filter fun v => decide (v < u)).map fun v => cnI rows u L (t ||| 1#64 <<< v)).sum
theorem cI_64 {rows : List (BitVec 64)} : ∀ {L : List Nat} {t : BitVec 64}, cnI rows 64 L t = cnT (L.map fun i => rows.getD i 0) t
 | [], _ => rfl
 | i :: L, t => by
  rw [cnI, List.map_cons, cnT]
  rw [List.filter_eq_self.2 fun v hv => decide_eq_true (mem_pl.1 hv).2.1]
  simp only [cI_64]
theorem cI_gone {rows : List (BitVec 64)} {u : Nat} (hu : u < 64) : ∀ {L : List Nat} {t t' : BitVec 64}, (∀ v, v < u → t'.getLsbD v = t.getLsbD v) → t'.getLsbD u = true → cnI rows (u + 1) L t' = cnI rows u L t
 | [], _, _, _, _ => rfl
 | i :: L, t, t', h, hu' => by
  rw [cnI, cnI]
  have e : (pl (rows.getD i 0 &&& ~~~t') 0).filter (fun v => decide (v < u + 1)) = (pl (rows.getD i 0 &&& ~~~t) 0).filter fun v => decide (v < u) := by
   unfold pl
   rw [List.filter_filter, List.filter_filter]
   apply List.filter_congr
   intro v hv
   have hv64 : v < 64 := by rw [List.mem_range'] at hv; omega
   rw [BitVec.getLsbD_and, BitVec.getLsbD_and, BitVec.getLsbD_not, BitVec.getLsbD_not]
   by_cases h1 : v < u
   ·rw [h v h1, decide_eq_true h1, decide_eq_true (show v < u + 1 by omega)]
   by_cases h2 : v = u
   ·subst h2; rw [hu']; simp
   rw [decide_eq_false h1, decide_eq_false (show ¬ v < u + 1 by omega)]; simp
  rw [e]
  congr 1
  apply List.map_congr_left
  intro v hv
  have hv := (List.mem_filter.1 hv)
  have hvu : v < u := by simpa using hv.2
  refine cI_gone hu (fun x hx => ?_) ?_
  ·rw [BitVec.getLsbD_or, BitVec.getLsbD_or, h x hx]
  rw [BitVec.getLsbD_or, hu']; rfl
theorem pl_split {w : BitVec 64} {u : Nat} (hu : u < 64) : (pl w 0).filter (fun v => decide (v < u + 1)) = (pl w 0).filter (fun v => decide (v < u)) ++ if w.getLsbD u = true then [u] else [] := by
 have e1 : pl w 0 = pl w 0 := rfl
 have hsp : (List.range' 0 64).filter w.getLsbD = (List.range' 0 u).filter w.getLsbD ++ (List.range' u (64 - u)).filter w.getLsbD := by
  have h : List.range' 0 u ++ List.range' (0 + u) (64 - u) = List.range' 0 64 := by
   rw [List.range'_append_1]; congr 1; omega
  rw [Nat.zero_add] at h
  rw [← h, List.filter_append]
 have hlo : ∀ n, u ≤ n → ((List.range' 0 u).filter w.getLsbD).filter (fun v => decide (v < n)) = (List.range' 0 u).filter w.getLsbD := fun n hn => List.filter_eq_self.2 fun v hv => decide_eq_true (by
  have := (List.mem_filter.1 hv).1
  rw [List.mem_range'] at this; omega)
 have hhi : ((List.range' u (64 - u)).filter w.getLsbD).filter (fun v => decide (v < u)) = [] := List.filter_eq_nil_iff.2 fun v hv => by
  have := (List.mem_filter.1 hv).1
  rw [List.mem_range'] at this; simp; omega
 have hhi1 : ((List.range' u (64 - u)).filter w.getLsbD).filter (fun v => decide (v < u + 1)) = if w.getLsbD u = true then [u] else [] := by
  rw [show 64 - u = (63 - u) + 1 by omega, List.range'_succ, List.filter_cons]
  have hrest : ((List.range' (u + 1) (63 - u)).filter w.getLsbD).filter (fun v => decide (v < u + 1)) = [] := List.filter_eq_nil_iff.2 fun v hv => by
   have := (List.mem_filter.1 hv).1
   rw [List.mem_range'] at this; simp; omega
  split
  ·rw [List.filter_cons, if_pos (by simp), hrest]
  exact hrest
 unfold pl
 rw [show 64 - 0 = 64 from rfl, hsp, List.filter_append, List.filter_append, hlo _ (by omega), hlo _ (Nat.le_refl _), hhi, hhi1, List.append_nil]
theorem cI_step {rows : List (BitVec 64)} {u : Nat} (hu : u < 64) : ∀ {L : List Nat} {t : BitVec 64}, L.Nodup → t.getLsbD u = false → cnI rows (u + 1) L t = cnI rows u L t + ((L.filter fun i => (rows.getD i 0).getLsbD u).map fun i => cnI rows u (L.erase i) t).sum
 | [], t, _, _ => rfl
 | i :: L, t, hn, ht => by
  have hn' := List.nodup_cons.1 hn
  have hbit : (rows.getD i 0 &&& ~~~t).getLsbD u = (rows.getD i 0).getLsbD u := by
   rw [BitVec.getLsbD_and, BitVec.getLsbD_not, ht]; simp [hu]
  have hstep : ∀ v, v ∈ (pl (rows.getD i 0 &&& ~~~t) 0).filter (fun v => decide (v < u)) → cnI rows (u + 1) L (t ||| 1#64 <<< v) = cnI rows u L (t ||| 1#64 <<< v) + ((L.filter fun i => (rows.getD i 0).getLsbD u).map fun j => cnI rows u (L.erase j) (t ||| 1#64 <<< v)).sum := fun v hv => by
   have hvu : v < u := by simpa using (List.mem_filter.1 hv).2
   exact cI_step hu hn'.2 (by rw [BitVec.getLsbD_or, ht, Qa]; simp; omega)
  have herase : ∀ j, j ∈ L.filter (fun i => (rows.getD i 0).getLsbD u) → cnI rows u ((i :: L).erase j) t = cnI rows u (i :: L.erase j) t := fun j hj => by
   have hji : ¬ i = j := fun e => hn'.1 (e ▸ (List.mem_filter.1 hj).1)
   rw [List.erase_cons, if_neg (by simpa using hji)]
  rw [cnI, pl_split hu, List.map_append, List.sum_append, List.map_congr_left hstep, sum_add, sum_swap, hbit]
  rw [List.filter_cons]
  by_cases hr : (rows.getD i 0).getLsbD u = true
  ·have hg : cnI rows (u + 1) L (t ||| 1#64 <<< u) = cnI rows u L t := cI_gone hu (fun v hv => by rw [BitVec.getLsbD_or, Qa]; simp; omega) (by rw [BitVec.getLsbD_or, Qa]; simp [hu])
   simp only [if_pos hr, List.map_cons, List.map_nil, List.sum_cons, List.sum_nil, List.erase_cons_head, hg]
   rw [List.map_congr_left herase]
   simp only [cnI]
   omega
  simp only [if_neg hr, List.map_nil, List.sum_nil]
  rw [List.map_congr_left herase]
  simp only [cnI]
  omega
def idx (n s : Nat) : List Nat := (List.range n).filter s.testBit
theorem Zda {n s : Nat} : (idx n s).Nodup := List.Nodup.sublist List.filter_sublist List.nodup_range
theorem idx_erase {n s i s' : Nat} (h : ∀ j, s'.testBit j = (s.testBit j && decide (j ≠ i))) : (idx n s).erase i = idx n s' := by
 rw [List.Nodup.erase_eq_filter Zda]
 unfold idx
 rw [List.filter_filter]
 apply List.filter_congr
 intro j _
 rw [h j, Bool.and_comm]
 congr 1
 by_cases e : j = i
 ·subst e; simp
 simp [e]
open Go
abbrev less (s i : Nat) : Nat := s ^^^ 2 ^ i
theorem Zaz {s i : Nat} (h : s.testBit i = true) (j : Nat) : (less s i).testBit j = (s.testBit j && decide (j ≠ i)) := by
 unfold less
 rw [Nat.testBit_xor, Nat.testBit_two_pow]
 by_cases e : j = i
 ·subst e; rw [h]; simp
 have : ¬ i = j := fun x => e x.symm
 simp [e, this]
theorem bits_lt {x y a : Nat} (hx : x.testBit a = false) (hy : y.testBit a = true) (h : ∀ j, a < j → x.testBit j = y.testBit j) : x < y := by
 have e : x / 2 ^ (a + 1) = y / 2 ^ (a + 1) := Nat.eq_of_testBit_eq fun i => by
  rw [Nat.testBit_div_two_pow, Nat.testBit_div_two_pow]; exact h (i + (a + 1)) (by omega)
 rw [Nat.testBit_eq_decide_div_mod_eq, decide_eq_false_iff_not] at hx
 rw [Nat.testBit_eq_decide_div_mod_eq, decide_eq_true_eq] at hy
 rw [Nat.pow_succ, ← Nat.div_div_eq_div_mul, ← Nat.div_div_eq_div_mul] at e
 have h1 : x / 2 ^ a < y / 2 ^ a := by omega
 apply Classical.byContradiction
 intro hn
 have := Nat.div_le_div_right (c := 2 ^ a) (show y ≤ x by omega)
 omega
theorem JC {s i : Nat} (h : s.testBit i = true) : less s i < s := bits_lt (a := i) (by rw [Zaz h]; simp) h fun j hj => by
 rw [Zaz h]
 have : j ≠ i := by omega
 simp [this]
def wS (rows : List (BitVec 64)) (u s : Nat) : Nat := cnI rows u (idx rows.length s) 0#64
def wP (rows : List (BitVec 64)) (u s : Nat) : Nat → Nat
 | 0 => wS rows u s
 | k + 1 => if s.testBit k = true ∧ (rows.getD k 0).getLsbD u = true then wP rows u s k + wS rows u (less s k) else wP rows u s k
theorem wP_sum {rows : List (BitVec 64)} {u s : Nat} : ∀ {k : Nat}, wP rows u s k = wS rows u s + (((List.range k).filter fun i => s.testBit i && (rows.getD i 0).getLsbD u).map fun i => wS rows u (less s i)).sum
 | 0 => rfl
 | k + 1 => by
  rw [wP, List.range_succ, List.filter_append, List.map_append, List.sum_append, wP_sum (k := k)]
  by_cases h : s.testBit k = true ∧ (rows.getD k 0).getLsbD u = true
  ·rw [if_pos h]
   have : [k].filter (fun i => s.testBit i && (rows.getD i 0).getLsbD u) = [k] := by rw [List.filter_cons, if_pos (by rw [h.1, h.2]; rfl)]; rfl
   rw [this]; simp; omega
  rw [if_neg h]
  have : [k].filter (fun i => s.testBit i && (rows.getD i 0).getLsbD u) = [] := by
   rw [List.filter_eq_nil_iff]
   intro i hi
   rw [List.mem_singleton.1 hi, Bool.and_eq_true]; exact h
  rw [this]; simp
theorem wP_all {rows : List (BitVec 64)} {u s : Nat} (hu : u < 64) : wP rows u s rows.length = wS rows (u + 1) s := by
 rw [wP_sum]
 unfold wS
 rw [cI_step hu Zda (by simp)]
 congr 1
 unfold idx
 rw [List.filter_filter]
 have hf : (List.range rows.length).filter (fun i => s.testBit i && (rows.getD i 0).getLsbD u) = (List.range rows.length).filter (fun i => (rows.getD i 0).getLsbD u && s.testBit i) := by
  apply List.filter_congr
  intro i _
  rw [Bool.and_comm]
 rw [hf]
 congr 1
 apply List.map_congr_left
 intro i hi
 have hb := (List.mem_filter.1 hi).2
 rw [Bool.and_eq_true] at hb
 have := idx_erase (n := rows.length) (s := s) (i := i) (s' := less s i) (Zaz hb.2)
 unfold idx at this
 rw [this]
theorem wS_0 {rows : List (BitVec 64)} {u : Nat} : wS rows u 0 = 1 := by
 unfold wS idx
 have : (List.range rows.length).filter (Nat.testBit 0) = [] := List.filter_eq_nil_iff.2 fun i _ => by simp
 rw [this]; rfl
theorem wS_start {rows : List (BitVec 64)} {s : Nat} (hs : s < 2 ^ rows.length) : wS rows 0 s = if s = 0 then 1 else 0 := by
 by_cases h : s = 0
 ·subst h; rw [if_pos rfl, wS_0]
 rw [if_neg h]
 unfold wS
 cases hi : idx rows.length s with
 | nil =>
  exfalso
  apply h
  apply Nat.eq_of_testBit_eq
  intro i
  rw [Nat.zero_testBit]
  by_cases hin : i < rows.length
  ·cases hb : s.testBit i with
   | false => rfl
   | true =>
    have : i ∈ idx rows.length s := List.mem_filter.2 ⟨List.mem_range.2 hin, hb⟩
    rw [hi] at this; cases this
  exact Nat.testBit_lt_two_pow (Nat.lt_of_lt_of_le hs (Nat.pow_le_pow_right (by decide) (by omega)))
 | cons i L =>
  rw [cnI]
  have : ((pl (rows.getD i 0 &&& ~~~0#64) 0).filter fun v => decide (v < 0)) = [] := List.filter_eq_nil_iff.2 fun v _ => by simp
  rw [this]; rfl
theorem wS_end {rows : List (BitVec 64)} : wS rows 64 (2 ^ rows.length - 1) = cnT rows 0#64 := by
 unfold wS
 rw [cI_64]
 have h1 : idx rows.length (2 ^ rows.length - 1) = List.range rows.length := List.filter_eq_self.2 fun i hi => by
  rw [Nat.testBit_two_pow_sub_one]; simpa using hi
 rw [h1]
 congr 1
 apply List.ext_getElem (by simp)
 intro i h2 h3
 simp [List.getD_eq_getElem?_getD, h3]
def Y7 (n : Nat) (f : Nat → BitVec 64) : List (BitVec 64) := (List.range (2 ^ n)).map f
theorem Xx {n : Nat} {f : Nat → BitVec 64} : (Y7 n f).length = 2 ^ n := by unfold Y7; simp
theorem Zb6 {n s : Nat} {f : Nat → BitVec 64} (h : s < 2 ^ n) : (Y7 n f).getD s 0 = f s := by
 unfold Y7
 rw [List.getD_eq_getElem?_getD, List.getElem?_map, List.getElem?_range h]; rfl
theorem wayL_set {n s : Nat} {f g : Nat → BitVec 64} {v : BitVec 64} (h1 : g s = v) (h2 : ∀ s', s' < 2 ^ n → s' ≠ s → g s' = f s') : (Y7 n f).set s v = Y7 n g := by
 apply List.ext_getElem?
 intro i
 unfold Y7
 rw [List.getElem?_set, List.length_map, List.length_range, List.getElem?_map, List.getElem?_map]
 by_cases hi : i < 2 ^ n
 ·rw [List.getElem?_range hi]
  by_cases e : s = i
  ·subst e; rw [if_pos rfl, if_pos hi, ← h1]; rfl
  rw [if_neg e]
  show some (f i) = some (g i)
  rw [h2 i hi (fun x => e x.symm)]
 rw [List.getElem?_eq_none (by simpa using hi)]
 by_cases e : s = i
 ·subst e; rw [if_pos rfl, if_neg hi]; rfl
 rw [if_neg e]; rfl
theorem JP {n : Nat} {f g : Nat → BitVec 64} (h : ∀ s, s < 2 ^ n → f s = g s) : Y7 n f = Y7 n g := by
 unfold Y7
 apply List.map_congr_left
 intro s hs
 exact h s (List.mem_range.1 hs)
def wF (rows : List (BitVec 64)) (most : BitVec 64) (u s k : Nat) (s' : Nat) : BitVec 64 := Z8 most (if s < s' then wS rows (u + 1) s' else if s' = s then wP rows u s k else wS rows u s')
def wU (rows : List (BitVec 64)) (most : BitVec 64) (u s' : Nat) : BitVec 64 := Z8 most (wS rows u s')
theorem sat_add {most : BitVec 64} {a b : Nat} (hm : most.toNat ≤ 65536) : (if (most.toNat : Int) < ((Z8 most a + Z8 most b).toNat : Int) then (most.toNat : Int) else ((Z8 most a + Z8 most b).toNat : Int)) = ((Z8 most (a + b)).toNat : Int) := by
 have h : (Z8 most a + Z8 most b).toNat = min most.toNat a + min most.toNat b := by
  rw [BitVec.toNat_add, Ys, Ys]; omega
 rw [h, Ys]; split <;> omega
end Go.V
