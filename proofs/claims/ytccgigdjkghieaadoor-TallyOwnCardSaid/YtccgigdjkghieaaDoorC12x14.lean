/- Proved: Rows.TallyOwnCardSaid, the statement TallyOwn with its card, of the given program at the commit; no conditions beyond those in the statement. -/
import Derived.Test.YtccgigdjkghieaaDoorC12x13
set_option autoImplicit false
set_option linter.unusedVariables false
set_option linter.unusedSimpArgs false
set_option maxHeartbeats 4000000
set_option maxRecDepth 100000
namespace Go.Proofs.YtccgigdjkghieaaDoor.VT
open Go Go.V Go.RowKit
abbrev u76 {a0 a1 a2 a3 a4 a5 a6 a7 a8 a9 a10 a11 a12 a13 a14 a15 a16 a17 a18 a19 a20 a21 a22 a23 a24 a25 a26 a27 a28 a29 a30 a31 a32 a33 a34 a35 a36 a37 a38 a39 a40 a41 a42 a43 a44 a45 a46 a47 a48 a49 a50 a51 a52 a53 a54 a55 a56 a57 a58 a59 a60 a61 a62 a63 a64 a65 a66 a67 a68 a69 a70 a71 a72 a73 a74 a75 : VVal} : VEnv := a0 :: a1 :: a2 :: a3 :: a4 :: a5 :: a6 :: a7 :: a8 :: a9 :: a10 :: a11 :: a12 :: a13 :: a14 :: a15 :: a16 :: a17 :: a18 :: a19 :: a20 :: a21 :: a22 :: a23 :: a24 :: a25 :: a26 :: a27 :: a28 :: a29 :: a30 :: a31 :: a32 :: a33 :: a34 :: a35 :: a36 :: a37 :: a38 :: a39 :: a40 :: a41 :: a42 :: a43 :: a44 :: a45 :: a46 :: a47 :: a48 :: a49 :: a50 :: a51 :: a52 :: a53 :: a54 :: a55 :: a56 :: a57 :: a58 :: a59 :: a60 :: a61 :: a62 :: a63 :: a64 :: a65 :: a66 :: a67 :: a68 :: a69 :: a70 :: a71 :: a72 :: a73 :: a74 :: a75 :: []
theorem W2p {T : TypeId → Option VTy} {H : Ze} {op : Op} {ρ : Operand → VVal} {t : TypeId} {a : Operand} {y : VTy} {p : VVal} {n : Nat} {vs : List VVal} (ho : op = .load t a) (ha : ρ a = p) (hy : T t = some y) (hd : Zk y.desc = true) (hn : y.size = n) (h : XF H p n vs := by first | exact .inl ⟨_, _, rfl, XH37⟩ | exact .inr ⟨_, _, _, _, rfl, XH35, XH37⟩) : vop T ρ H op = some (.agg vs, H) := XI ho ha hy hd hn h
theorem W2r {T : TypeId → Option VTy} {H : Ze} {op : Op} {ρ : Operand → VVal} {t : TypeId} {a : Operand} {y : VTy} {p v : VVal} (ho : op = .load t a) (ha : ρ a = p) (hy : T t = some y) (hd : Zk y.desc = false) (h : LdOk H p v := by first | exact .inl ⟨_, _, rfl, XH37⟩ | exact .inr ⟨_, _, _, _, rfl, XH35, XH37⟩) : vop T ρ H op = some (v, H) := Yv ho ha hy hd h
theorem W2u {S : V.Sys} {H : Ze} {fn : Func} {ex : Exit} {env : VEnv} {B L : Ze} {v : VVal} {R : VVal → Ze → Prop} (hx : ex = .normal ∨ ex = .ret) (hv : ZX S.C.T env (B ++ L) fn.results = some v) (h : R v B) (hB : BaseOk H B := by exact BaseOk.refl _) (hu : v.under H.length = true := by exact Jb (p := fewQ q m)) : fnK S fn H R ex env (B ++ L) := Xk hx hv hB hu h
theorem Za2 {l w : List VVal} {off m j : Nat} (h : Zo l off m = some w) (hj : j < m) : l[off + j]? = w[j]? := by
 unfold Zo at h
 split at h
 ·injection h with h; subst h
  rw [List.getElem?_take, if_pos hj, List.getElem?_drop]
 cases h
theorem rul_f {l : List Rul} {k j : Nat} (h : k < l.length) (hj : j < 3) : (l.flatMap rlB)[((k : Nat) : Int).toNat * 3 + j]? = (rlB (l.getD k r0))[j]? := by
 exact Za2 (fm_nat (f := rlB) (m := 3) (fun _ => rfl) l k r0 h) hj
theorem rul_f0 {l : List Rul} {k : Nat} (h : k < l.length) : (l.flatMap rlB)[((k : Nat) : Int).toNat * 3 + 0]? = some (iI (l.getD k r0).kind) := rul_f h (by decide)
theorem rul_f1 {l : List Rul} {k : Nat} (h : k < l.length) : (l.flatMap rlB)[((k : Nat) : Int).toNat * 3 + 1]? = some (iI (l.getD k r0).k) := rul_f h (by decide)
theorem rul_f2 {l : List Rul} {k : Nat} (h : k < l.length) : (l.flatMap rlB)[((k : Nat) : Int).toNat * 3 + 2]? = some (fzI (l.getD k r0).steps) := rul_f h (by decide)
def myB (p : Pb) (i : Nat) (u : Int) : Bool := decide (0 ≤ u ∧ u < 64) && (wrd p i).getLsbD u.toNat
theorem okW_in {p : Pb} {i : Nat} (g : Go.V.Good p) (hi : i < p.who.length) : (-1 ≤ p.fixed.getD i 0 ∧ p.fixed.getD i 0 < p.users) ∧ (p.who.getD i 0) >>> p.users.toNat = 0#64 := by
 have hok := g.ok i hi
 unfold okW at hok
 rw [Bool.and_eq_true, decide_eq_true_eq, decide_eq_true_eq] at hok
 exact hok
theorem myB_f {p : Pb} {i : Nat} {u : Int} (g : Go.V.Good p) (hi : i < p.who.length) (h : 0 ≤ p.fixed.getD i 0) : myB p i u = decide (u = p.fixed.getD i 0) := by
 have hok := (okW_in g hi).1; have g2 := g.u64
 unfold myB
 rw [wrd_f h, one_shl, Bool.eq_iff_iff, Bool.and_eq_true, Bool.and_eq_true, decide_eq_true_eq, decide_eq_true_eq, decide_eq_true_eq, decide_eq_true_eq]
 omega
theorem myB_w {p : Pb} {i : Nat} {u : Int} (g : Go.V.Good p) (hi : i < p.who.length) (h : p.fixed.getD i 0 < 0) : myB p i u = (decide (0 ≤ u ∧ u < p.users) && (p.who.getD i 0).getLsbD u.toNat) := by
 have hok := (okW_in g hi).2; have g2 := g.u64; have g4 := g.u0
 unfold myB
 rw [wrd_w h]
 by_cases h1 : 0 ≤ u ∧ u < p.users
 ·rw [decide_eq_true h1, decide_eq_true (by omega)]
 rw [decide_eq_false h1, Bool.false_and]
 by_cases h2 : 0 ≤ u ∧ u < 64
 ·rw [decide_eq_true h2, Bool.true_and]; exact high_bit hok (by omega)
 rw [decide_eq_false h2, Bool.false_and]
theorem bit_eq {w : BitVec 64} {k : Nat} : (((w >>> k &&& 1#64).toNat : Int) == ((1#64 : BitVec 64).toNat : Int)) = w.getLsbD k := by
 have h : (w >>> k &&& 1#64) = if w.getLsbD k = true then 1#64 else 0#64 := by
  apply BitVec.eq_of_getLsbD_eq
  intro i hi
  rw [BitVec.getLsbD_and, BitVec.getLsbD_ushiftRight, BitVec.getLsbD_one]
  by_cases e : i = 0
  ·subst e; cases hb : w.getLsbD k <;> simp [hb]
  cases hb : w.getLsbD k <;> simp [e]
 rw [h]
 cases w.getLsbD k <;> rfl
def ZcE (m : Nat) (r : Rul) : Bool := r.steps.all fun s => decide (s < (m : Int))
def fewQ (q : Pb) (m : Nat) : Pb := (q.users, q.who.take m, q.fixed.take m, q.rules.filter (ZcE m), ())
def YD (p : Pb) (m : Nat) : Pb := fewQ (cutP p) m
theorem fewP_L {p : Pb} {m : Nat} (h : -9223372036854775808 ≤ p.users ∧ p.users < 9223372036854775808) : PbL (YD p m) := by
 have g := cutP_L h
 refine ⟨g.u, ?_, ?_, ?_, fun r hr => g.s r (List.mem_filter.1 hr).1⟩
 ·have := g.w; show (List.take _ _).length ≤ _; rw [List.length_take]; omega
 ·have := g.f; show (List.take _ _).length ≤ _; rw [List.length_take]; omega
 have := g.r; exact Nat.le_trans (List.length_filter_le _ _) this
theorem Jr {l : List Rul} {m k : Nat} (h : k < l.length) : (l.take (k + 1)).filter (ZcE m) = (l.take k).filter (ZcE m) ++ if ZcE m (l.getD k r0) = true then [l.getD k r0] else [] := by
 rw [Yf (d := r0) h, List.filter_append]
 congr 1
 by_cases e : ZcE m (l.getD k r0) = true
 ·rw [if_pos e, List.filter_cons, if_pos e]; rfl
 rw [if_neg e, List.filter_cons, if_neg e]; rfl
theorem Ju {l : List Int} {k : Nat} {f : Int → Bool} (h : k < l.length) : (l.take (k + 1)).all f = ((l.take k).all f && f (l.getD k 0)) := by
 rw [Yf (d := 0) h, List.all_append, List.all_cons, List.all_nil, Bool.and_true]
theorem Few_q {x : SW} (H : Ze) (p : Pb) (m : Nat) (hu : -9223372036854775808 ≤ p.users ∧ p.users < 9223372036854775808) (q : Pb) (hq : cutP p = q) : F (psys x) 15 [.agg (pbB p), iI (m : Nat)] H fun v G => v = .agg (pbB (fewQ q m)) ∧ G = H := by
 have hL := cutP_L hu
 rw [hq] at hL
 have h1 := hL.w; have h2 := hL.f; have h3 := hL.r; have h4 := hL.s
 have h40 : q.rules.length ≤ 40 := by rw [← hq]; show ((List.take 40 _).map Zbu).length ≤ _; rw [List.length_map, List.length_take]; omega
 refine Zp Tryd.func15 rfl u76 rfl ?_
 refine Zc (Za (Lo u76 (ZJ rfl rfl rfl) ?_))
 refine Lo u76 (ZP rfl rfl) ?_
 refine Zd (Zb (Zc (Ym (Gh.freezePtrL (cs := pbB p) 2 0 rfl rfl rfl) ?_)))
 refine Za (Lo u76 (W2p rfl rfl rfl rfl rfl) ?_)
 refine Zs rfl rfl rfl (by exact hq ▸ Cut_spec _ p) ?_
 rintro _ _ ⟨rfl, rfl⟩
 refine Le u76 ?_
 refine Lo u76 (ZP rfl rfl) ?_
 refine Lo u76 (W13 rfl rfl rfl rfl rfl rfl rfl) ?_
 refine Zd (Zb (ZcC (mk 76 75557863725914323419085) (fun (u0 : Unit) => []) (fun (u0 : Unit) G => (True) ∧ G = H ++ [.dead, pqB 0 Yj Yj Yj, .cells [iI q.users, fzW (q.who.take m), fzI q.fixed, fzR q.rules] true]) ?_ ?_))
 ·skip
  refine Zc (Za (Lo u76 rfl ?_))
  refine Lo u76 (W2r rfl rfl rfl rfl) ?_
  refine Lo u76 rfl ?_
  refine Lm u76 ?_
  refine Lo u76 rfl ?_
  refine Zd (Zb (Zi _ rfl (fun hc1 => ?_) (fun hc1 => ?_)))
  ·try simp only [qB, qN] at hc1
   refine Za (Lo u76 rfl ?_)
   refine Lo u76 (W2r rfl rfl rfl rfl) ?_
   refine Lm u76 ?_
   refine Lo u76 (v_wHi (k := m) rfl rfl rfl rfl rfl rfl rfl (by omega)) ?_
   refine Lo u76 rfl ?_
   refine Lo u76 (W13 rfl rfl rfl rfl rfl rfl rfl) ?_
   refine Zd (Zt (mk 76 75557863725914323419085) (env' := u76) rfl ⟨(), rfl, ?_⟩)
   first
    | exact ⟨trivial, rfl⟩
    | exact ⟨trivial, by rw [List.take_of_length_le (l := q.who) (by omega)]; rfl⟩
  try simp only [qB, qN] at hc1
  refine Zh (Zt (mk 76 75557863725914323419085) (env' := u76) rfl ⟨(), rfl, ?_⟩)
  first
   | exact ⟨trivial, rfl⟩
   | exact ⟨trivial, by rw [List.take_of_length_le (l := q.who) (by omega)]; rfl⟩
 rintro u0 _ ⟨_, rfl⟩
 refine ZL (env' := u76) rfl ?_
 refine ZcC (mk 76 75557863725914323419085) (fun (u0 : Unit) => []) (fun (u0 : Unit) G => (True) ∧ G = H ++ [.dead, pqB 0 Yj Yj Yj, .cells [iI q.users, fzW (q.who.take m), fzI (q.fixed.take m), fzR q.rules] true]) ?_ ?_
 ·skip
  refine Zc (Za (Lo u76 rfl ?_))
  refine Lo u76 (W2r rfl rfl rfl rfl) ?_
  refine Lo u76 rfl ?_
  refine Lm u76 ?_
  refine Lo u76 rfl ?_
  refine Zd (Zb (Zi _ rfl (fun hc2 => ?_) (fun hc2 => ?_)))
  ·try simp only [qB, qN] at hc2
   refine Za (Lo u76 rfl ?_)
   refine Lo u76 (W2r rfl rfl rfl rfl) ?_
   refine Lm u76 ?_
   refine Lo u76 (v_iHi (k := m) rfl rfl rfl rfl rfl rfl rfl (by omega)) ?_
   refine Lo u76 rfl ?_
   refine Lo u76 (W13 rfl rfl rfl rfl rfl rfl rfl) ?_
   refine Zd (Zt (mk 76 75557863725914323419085) (env' := u76) rfl ⟨(), rfl, ?_⟩)
   first
    | exact ⟨trivial, rfl⟩
    | exact ⟨trivial, by rw [List.take_of_length_le (l := q.fixed) (by omega)]⟩
  try simp only [qB, qN] at hc2
  refine Zh (Zt (mk 76 75557863725914323419085) (env' := u76) rfl ⟨(), rfl, ?_⟩)
  first
   | exact ⟨trivial, rfl⟩
   | exact ⟨trivial, by rw [List.take_of_length_le (l := q.fixed) (by omega)]⟩
 rintro u0 _ ⟨_, rfl⟩
 refine ZL (env' := u76) rfl ?_
 refine Zc (Za (Lk u76 (.slice none 0 0 true 0) ?_))
 refine Zd (Zb (Zc (Zc (Za (Lk u76 (.int .i64 0) ?_)))))
 refine Zd (Zb (Zg (Zr (mk 76 75557863725914323418893) (env' := u76) rfl ?_)))
 refine Zw (fun (⟨k, lv⟩ : Nat × VVal) => q.rules.length - k) (fun (⟨k, lv⟩ : Nat × VVal) => [(6, lv), (7, iI (k : Nat))]) (fun (⟨k, lv⟩ : Nat × VVal) G => (k ≤ q.rules.length) ∧ ∃ X, G = (H ++ [.dead, pqB 0 Yj Yj Yj, .cells [iI q.users, fzW (q.who.take m), fzI (q.fixed.take m), fzR q.rules] true]) ++ X ∧ LV (H.length + 3) 3 X lv (((q.rules.take k).filter (ZcE m)).flatMap rlB) ((q.rules.take k).filter (ZcE m)).length) ⟨0, _⟩ rfl ?_ ?_
 ·refine ⟨?_, ⟨[], (List.append_nil _).symm, LV.nil _ _ _⟩⟩
  exact Nat.zero_le _
 rintro ⟨k, lv⟩ _ ⟨hk, ⟨X, rfl, hl⟩⟩
 refine ZL (env' := u76) rfl ?_
 refine Zc (Zc (Za (Lm u76 ?_)))
 refine Lo u76 rfl ?_
 refine Lo u76 (W2r rfl rfl rfl rfl) ?_
 refine Lo u76 rfl ?_
 refine Lo u76 rfl ?_
 refine Zd (Zb (Zi _ rfl (fun hc3 => ?_) (fun hc3 => ?_)))
 ·try simp only [qB, qN] at hc3
  refine Zh (Zb (Zc (Zg (Zc (Za (Lk u76 (.bool true) ?_))))))
  refine Zd (Zb (Zc (Zc (Za (Lk u76 (.int .i64 0) ?_)))))
  refine Zd (Zb (Zg (Zr (mk 76 75557863725914323418125) (env' := u76) rfl ?_)))
  refine Zw (fun (⟨s, b⟩ : Nat × Bool) => (q.rules.getD k r0).steps.length - s) (fun (⟨s, b⟩ : Nat × Bool) => [(8, .bool b), (9, iI (s : Nat))]) (fun (⟨s, b⟩ : Nat × Bool) G => (s ≤ (q.rules.getD k r0).steps.length ∧ b = ((q.rules.getD k r0).steps.take s).all fun x => decide (x < (m : Int))) ∧ G = (H ++ [.dead, pqB 0 Yj Yj Yj, .cells [iI q.users, fzW (q.who.take m), fzI (q.fixed.take m), fzR q.rules] true]) ++ X) ⟨0, true⟩ rfl ?_ ?_
  ·refine ⟨?_, rfl⟩
   exact ⟨Nat.zero_le _, rfl⟩
  rintro ⟨s, b⟩ _ ⟨⟨hs, hb⟩, rfl⟩
  refine ZL (env' := u76) rfl ?_
  refine Zc (Zc ?_)
  have hst := h4 _ (Y3 (l := q.rules) (k := k) (by omega))
  refine Za (Lm u76 ?_)
  refine Lo u76 rfl ?_
  refine Lo u76 (W2r rfl rfl rfl rfl) ?_
  refine Lm u76 ?_
  refine Lo u76 (W18 rfl rfl rfl rfl rfl rfl rfl) ?_
  refine Lo u76 rfl ?_
  refine Lo u76 (W2r rfl rfl rfl rfl) ?_
  refine Lo u76 rfl ?_
  refine Lo u76 rfl ?_
  refine Zd (Zb (Zi _ rfl (fun hc4 => ?_) (fun hc4 => ?_)))
  ·try simp only [qB, qN] at hc4
   refine Zh (Zb (Zc (Zg (Za (Lm u76 ?_)))))
   refine Lm u76 ?_
   refine ZB 51 (env1 := u76) (env2 := u76) rfl rfl rfl (fun hg5 => ?_) (fun hg5 => ?_)
   ·try simp only [qB, qN] at hg5
    refine Lo u76 rfl ?_
    refine Lo u76 (W2r rfl rfl rfl rfl) ?_
    refine Lm u76 ?_
    refine Lo u76 (W18 rfl rfl rfl rfl rfl rfl rfl) ?_
    refine Lo u76 rfl ?_
    refine Lo u76 (W2r rfl rfl rfl rfl) ?_
    refine Lm u76 ?_
    refine Lo u76 (W18 rfl rfl rfl rfl rfl rfl rfl) ?_
    refine Lo u76 (W2r rfl rfl rfl rfl) ?_
    refine Lm u76 ?_
    refine Lo u76 rfl ?_
    refine Lo u76 (ZM rfl rfl rfl) ?_
    refine La u76 ?_
    refine Zd (Zq (Zb (Za (Lm u76 ?_))))
    refine Lo u76 (W14 rfl rfl rfl) ?_
    refine La u76 ?_
    refine Zd (Zt (mk 76 75557863725914323418125) (env' := u76) rfl ⟨⟨s + 1, _⟩, ?_, rfl, ?_⟩)
    ·first | omega | (simp only []; omega)
    first | exact ⟨⟨by omega, by rw [Ju (by omega), ← hb, (show b = true by assumption), Bool.true_and]⟩, rfl⟩ | exact ⟨⟨by omega, by rw [Ju (by omega), ← hb, (show b = false by simp_all), Bool.false_and]⟩, rfl⟩
   try simp only [qB, qN] at hg5
   refine Lf u76 ?_
   refine Lf u76 ?_
   refine Lf u76 ?_
   refine Lf u76 ?_
   refine Lf u76 ?_
   refine Lf u76 ?_
   refine Lf u76 ?_
   refine Lf u76 ?_
   refine Lf u76 ?_
   refine Lf u76 ?_
   refine Lf u76 ?_
   refine Lo u76 (ZC (VVal.bool false) rfl rfl rfl) ?_
   refine La u76 ?_
   refine Zd (Zq (Zb (Za (Lm u76 ?_))))
   refine Lo u76 (W14 rfl rfl rfl) ?_
   refine La u76 ?_
   refine Zd (Zt (mk 76 75557863725914323418125) (env' := u76) rfl ⟨⟨s + 1, _⟩, ?_, rfl, ?_⟩)
   ·first | omega | (simp only []; omega)
   first | exact ⟨⟨by omega, by rw [Ju (by omega), ← hb, (show b = true by assumption), Bool.true_and]⟩, rfl⟩ | exact ⟨⟨by omega, by rw [Ju (by omega), ← hb, (show b = false by simp_all), Bool.false_and]⟩, rfl⟩
  try simp only [qB, qN] at hc4
  refine Zz (ZA (Zu (Zy (Zb (Zc (Za (Lm u76 ?_)))))))
  refine Zd (Zb (Zi _ rfl (fun hc6 => ?_) (fun hc6 => ?_)))
  ·try simp only [qB, qN] at hc6
   refine Za (Lm u76 ?_)
   refine Lo u76 rfl ?_
   refine Lo u76 (W2r rfl rfl rfl rfl) ?_
   refine Lm u76 ?_
   refine Lo u76 (W18 rfl rfl rfl rfl rfl rfl rfl) ?_
   refine Lo u76 (W2p rfl rfl rfl rfl rfl) ?_
   refine Lo u76 (Zv rfl rfl (by decide) rfl) ?_
   refine X7 rfl rfl (Xt rfl rfl rfl rfl rfl rfl rfl (by simp) hl rfl rfl (by decide) (by have h9 := List.length_filter_le (ZcE m) ((q.rules).take k); rw [List.length_take] at h9; show (_ + 1) * 40 ≤ _ ∧ _ + 1 ≤ _; omega) (by decide)) ?_
   rintro _ _ ⟨Y1, rfl, rfl, hY1, hY2, hY3⟩
   refine Le u76 ?_
   refine La u76 ?_
   refine Zd (Zq (Zb (Za (Lm u76 ?_))))
   refine Lo u76 (W14 rfl rfl rfl) ?_
   refine La u76 ?_
   refine Zd ?_
   obtain rfl : s = (q.rules.getD k r0).steps.length := by omega
   rw [List.take_length] at hb
   refine Zt (mk 76 75557863725914323418893) (env' := u76) rfl ⟨⟨k + 1, _⟩, ?_, rfl, ?_⟩
   ·first | omega | (simp only []; omega)
   first | exact ⟨by omega, _, rfl, by rw [Jr (by omega), if_pos (show ZcE m (q.rules.getD k r0) = true from hb.symm.trans (by assumption))]; exact LV.pushF hY3⟩ | exact ⟨by omega, _, rfl, by rw [Jr (by omega), if_neg (fun e => by rw [show ZcE m (q.rules.getD k r0) = b from hb.symm] at e; rw [(by assumption : b = false)] at e; cases e), List.append_nil]; exact hl⟩
  try simp only [qB, qN] at hc6
  refine Zh (Zq (Zb (Za (Lm u76 ?_))))
  refine Lo u76 (W14 rfl rfl rfl) ?_
  refine La u76 ?_
  refine Zd ?_
  obtain rfl : s = (q.rules.getD k r0).steps.length := by omega
  rw [List.take_length] at hb
  refine Zt (mk 76 75557863725914323418893) (env' := u76) rfl ⟨⟨k + 1, _⟩, ?_, rfl, ?_⟩
  ·first | omega | (simp only []; omega)
  first | exact ⟨by omega, _, rfl, by rw [Jr (by omega), if_pos (show ZcE m (q.rules.getD k r0) = true from hb.symm.trans (by assumption))]; exact LV.pushF hY3⟩ | exact ⟨by omega, _, rfl, by rw [Jr (by omega), if_neg (fun e => by rw [show ZcE m (q.rules.getD k r0) = b from hb.symm] at e; rw [(by assumption : b = false)] at e; cases e), List.append_nil]; exact hl⟩
 try simp only [qB, qN] at hc3
 refine Zz (ZA (Zu (Zy (Zb (Zc ?_)))))
 obtain rfl : k = q.rules.length := by omega
 rw [List.take_length] at hl
 refine B_ghLVh (env' := u76) 6 hl (by simp) rfl rfl fun X4 hX4 hF4 => ?_
 refine YS (List.append_assoc _ _ _) ?_
 refine Za (Lm u76 ?_)
 refine Lo u76 rfl ?_
 refine Lo u76 (W13 rfl rfl rfl rfl rfl rfl rfl) ?_
 refine Zd (Zb (Zc (Za (Lo u76 (W2p rfl rfl rfl rfl rfl) ?_))))
 refine Lo u76 (W13 rfl rfl rfl rfl rfl rfl rfl) ?_
 refine Zd (Zb (Zj ?_))
 refine W2u (.inr rfl) (YV rfl rfl rfl rfl XH0 XH7) ?_
 exact ⟨rfl, rfl⟩
theorem Few_spec {x : SW} (H : Ze) (p : Pb) (m : Nat) (hu : -9223372036854775808 ≤ p.users ∧ p.users < 9223372036854775808) : F (psys x) 15 [.agg (pbB p), iI (m : Nat)] H fun v G => v = .agg (pbB (YD p m)) ∧ G = H := Few_q H p m hu _ rfl
abbrev hmB (s : Nat) (rows : List (BitVec 64)) (O : List Int) : VBlk := .cells (fzW rows :: (O.map iI ++ [.ptr (some (s, 0))])) true
abbrev hsB (w : BitVec 64) : VBlk := .cells [iW w] true
abbrev gw (g : Gz) (w : BitVec 64) : Gz := ⟨g.n, g.p, g.e + YA 64 w⟩
def htH (H : Ze) (p q s : Nat) (rows : List (BitVec 64)) (t : GSt) (g : Gz) : Ze := ((H.set p (hmB s rows t.1)).set q (hsB t.2)).set s (gaB g)
section
variable {H L : Ze} {p q s : Nat} {rows : List (BitVec 64)} {t : GSt} {g : Gz}
structure Apart3 (H : Ze) (p q s : Nat) : Prop where
 hp : p < H.length
 hq : q < H.length
 hs : s < H.length
 pq : p ≠ q
 ps : p ≠ s
 qs : q ≠ s
theorem YN {n : Nat} (h : H.length = n) : (htH H p q s rows t g).length = n := by unfold htH; rw [List.length_set, List.length_set, List.length_set]; exact h
theorem htH_id {O : List Int} {w : BitVec 64} (hp : H[p]? = some (hmB s rows O)) (hq : H[q]? = some (hsB w)) (hs : H[s]? = some (gaB g)) : htH H p q s rows (O, w) g = H := by
 unfold htH; rw [← YG hp, ← YG hq, ← YG hs]
theorem ht_s (a : Apart3 H p q s) : (htH H p q s rows t g ++ L)[s]? = some (gaB g) := by
 unfold htH; exact Zn (List.getElem?_set_self (by rw [List.length_set, List.length_set]; exact a.hs))
theorem ht_q (a : Apart3 H p q s) : (htH H p q s rows t g ++ L)[q]? = some (hsB t.2) := by
 unfold htH; exact Zn (by rw [List.getElem?_set_ne (Ne.symm a.qs)]; exact List.getElem?_set_self (by rw [List.length_set]; exact a.hq))
theorem ht_p (a : Apart3 H p q s) : (htH H p q s rows t g ++ L)[p]? = some (hmB s rows t.1) := by
 unfold htH; exact Zn (by rw [List.getElem?_set_ne (Ne.symm a.ps), List.getElem?_set_ne (Ne.symm a.pq)]; exact List.getElem?_set_self a.hp)
theorem ht_sets0 {k : VBlk} (a : Apart3 H p q s) : (htH H p q s rows t g ++ L).set s k = ((H.set p (hmB s rows t.1)).set q (hsB t.2)).set s k ++ L := by
 rw [Yl (by rw [YN rfl]; exact a.hs)]; unfold htH; rw [List.set_set]
theorem ht_setq0 {k : VBlk} (a : Apart3 H p q s) : (htH H p q s rows t g ++ L).set q k = ((H.set p (hmB s rows t.1)).set q k).set s (gaB g) ++ L := by
 rw [Yl (by rw [YN rfl]; exact a.hq)]; unfold htH; rw [List.set_comm _ _ (Ne.symm a.qs), List.set_set]
theorem ht_setq {w : BitVec 64} (a : Apart3 H p q s) : (htH H p q s rows t g ++ L).set q (hsB w) = htH H p q s rows (t.1, w) g ++ L := ht_setq0 a
theorem ht_setp0 {k : VBlk} (a : Apart3 H p q s) : (htH H p q s rows t g ++ L).set p k = ((H.set p k).set q (hsB t.2)).set s (gaB g) ++ L := by
 rw [Yl (by rw [YN rfl]; exact a.hp)]; unfold htH
 rw [List.set_comm _ _ (Ne.symm a.ps), List.set_comm _ _ (Ne.symm a.pq), List.set_set]
theorem ht_setp {u : Int} {r : Int} (a : Apart3 H p q s) (hu : u.toNat < t.1.length) : (htH H p q s rows t g ++ L).set p (.cells (Zx (fzW rows :: (t.1.map iI ++ [.ptr (some (s, 0))])) (0 + 1 + u.toNat * 1) [iI r]) true) = htH H p q s rows (t.1.set u.toNat r, t.2) g ++ L := by
 have : Zx (fzW rows :: (t.1.map iI ++ [.ptr (some (s, 0))])) (0 + 1 + u.toNat * 1) [iI r] = fzW rows :: ((t.1.set u.toNat r).map iI ++ [.ptr (some (s, 0))]) := by
  rw [show 0 + 1 + u.toNat * 1 = u.toNat + 1 by omega]
  unfold Zx
  rw [List.map_set, ← List.set_append_left _ _ (by rw [List.length_map]; exact hu), List.set_eq_take_append_cons_drop, if_pos (by rw [List.length_append, List.length_map]; omega)]; simp
 rw [this, ht_setp0 a]; rfl
theorem ht_ht {t' : GSt} {g' : Gz} (a : Apart3 H p q s) : htH (htH H p q s rows t g ++ L) p q s rows t' g' = htH H p q s rows t' g' ++ L := by
 have : htH (htH H p q s rows t g ++ L) p q s rows t' g' = (((htH H p q s rows t g ++ L).set p (hmB s rows t'.1)).set q (hsB t'.2)).set s (gaB g') := rfl
 rw [this, ht_setp0 a]
 rw [Yl (by simp; exact a.hq), List.set_comm _ _ (Ne.symm a.qs), List.set_set, Yl (by simp; exact a.hs), List.set_set]; rfl
theorem ht_len6 {u : Int} {v : VVal} (h : u.toNat < t.1.length) : 0 + 1 + u.toNat * 1 + [v].length ≤ (fzW rows :: (t.1.map iI ++ [.ptr (some (s, 0))])).length := by
 show 0 + 1 + u.toNat * 1 + 1 ≤ (t.1.map iI ++ [_]).length + 1
 rw [List.length_append, List.length_map]; show _ ≤ _ + 1 + 1; omega
theorem ht_base (a : Apart3 H p q s) : BaseOk H (htH H p q s rows t g) := BaseOk.set (BaseOk.set (BaseOk.set (BaseOk.refl _) _ (by
 show VVal.underL _ (fzW rows :: (t.1.map iI ++ [.ptr (some (s, 0))])) = true
 have h1 : VVal.underL H.length (t.1.map iI ++ [.ptr (some (s, 0))]) = true := VVal.underL_app (VVal.underL_map fun _ => rfl) (by simp [VVal.underL, VVal.under, a.hs])
 simp only [VVal.underL, h1, Bool.and_true]
 exact VVal.underL_map fun _ => rfl)) _ rfl) _ rfl
theorem XQ {u : Int} (h : 0 ≤ u ∧ u < t.1.length) : (fzW rows :: (t.1.map iI ++ [.ptr (some (s, 0))]))[0 + 1 + u.toNat * 1]? = some (iI (t.1.getD u.toNat 0)) := by
 rw [show 0 + 1 + u.toNat * 1 = u.toNat + 1 by omega, List.getElem?_cons_succ]
 have : u.toNat < t.1.length := by omega
 rw [List.getElem?_append_left (by rw [List.length_map]; exact this)]
 simp [List.getElem?_eq_getElem this]
theorem ZaA (h : t.1.length = 64) : (fzW rows :: (t.1.map iI ++ [.ptr (some (s, 0))]))[0 + 65]? = some (.ptr (some (s, 0))) := by
 rw [show 0 + 65 = 64 + 1 by omega, List.getElem?_cons_succ, List.getElem?_append_right (by rw [List.length_map, h]; omega), List.length_map, h]; rfl
theorem apart_app {X : Ze} (a : Apart3 H p q s) : Apart3 (htH H p q s rows t g ++ X) p q s := ⟨by rw [List.length_append, YN rfl]; have := a.hp; omega, by rw [List.length_append, YN rfl]; have := a.hq; omega, by rw [List.length_append, YN rfl]; have := a.hs; omega, a.pq, a.ps, a.qs⟩
end
theorem come_one {w : BitVec 64} {u : Nat} (hu : u < 64) (h : w.getLsbD u = false) (g : Gz) : (⟨g.n, g.p, (g.e + YA 64 w) + 1⟩ : Gz) = gw g (w ||| 1#64 <<< u) := by
 unfold gw; rw [come_next hu (Nat.le_refl _) h, Nat.add_assoc]
section
variable {H L : Ze} {p q s : Nat} {rows : List (BitVec 64)} {t : GSt} {g : Gz}
theorem ht_incw {w : BitVec 64} (a : Apart3 H p q s) : (htH H p q s rows t (gw g w) ++ L).set s (.cells (Zx [iN (gw g w).n, iN (gw g w).p, iN (gw g w).e] (0 + 2) [iW (BitVec.ofNat 64 (gw g w).e + 1#64)]) true) = htH H p q s rows t ⟨g.n, g.p, (g.e + YA 64 w) + 1⟩ ++ L := by
 rw [iN_one]; exact ht_sets0 a
end
abbrev u67 {a0 a1 a2 a3 a4 a5 a6 a7 a8 a9 a10 a11 a12 a13 a14 a15 a16 a17 a18 a19 a20 a21 a22 a23 a24 a25 a26 a27 a28 a29 a30 a31 a32 a33 a34 a35 a36 a37 a38 a39 a40 a41 a42 a43 a44 a45 a46 a47 a48 a49 a50 a51 a52 a53 a54 a55 a56 a57 a58 a59 a60 a61 a62 a63 a64 a65 a66 : VVal} : VEnv := a0 :: a1 :: a2 :: a3 :: a4 :: a5 :: a6 :: a7 :: a8 :: a9 :: a10 :: a11 :: a12 :: a13 :: a14 :: a15 :: a16 :: a17 :: a18 :: a19 :: a20 :: a21 :: a22 :: a23 :: a24 :: a25 :: a26 :: a27 :: a28 :: a29 :: a30 :: a31 :: a32 :: a33 :: a34 :: a35 :: a36 :: a37 :: a38 :: a39 :: a40 :: a41 :: a42 :: a43 :: a44 :: a45 :: a46 :: a47 :: a48 :: a49 :: a50 :: a51 :: a52 :: a53 :: a54 :: a55 :: a56 :: a57 :: a58 :: a59 :: a60 :: a61 :: a62 :: a63 :: a64 :: a65 :: a66 :: []
theorem W2x {T : TypeId → Option VTy} {H : Ze} {op : Op} {ρ : Operand → VVal} {t : TypeId} {a : Operand} {y : VTy} {p v : VVal} (ho : op = .load t a) (ha : ρ a = p) (hy : T t = some y) (hd : Zk y.desc = false) (h : LdOk H p v := by first | exact .inl ⟨_, _, rfl, by first | rfl | assumption | exact XQ (by omega) | exact ZaA hl1 | exact Jj (α := BitVec 64) 0 (by omega)⟩ | exact .inr ⟨_, _, _, _, rfl, XH40, by first | rfl | assumption | exact XQ (by omega) | exact ZaA hl1 | exact Jj (α := BitVec 64) 0 (by omega)⟩) : vop T ρ H op = some (v, H) := Yv ho ha hy hd h
theorem W2z {T : TypeId → Option VTy} {H : Ze} {op : Op} {ρ : Operand → VVal} {t : TypeId} {a : Operand} {y : VTy} {p v : VVal} (ho : op = .load t a) (ha : ρ a = p) (hy : T t = some y) (hd : Zk y.desc = false) (h : LdOk H p v := by first | exact .inl ⟨_, _, rfl, by rfl⟩ | exact .inr ⟨_, _, _, _, rfl, by exact ZI (YN rfl) rfl, by rfl⟩) : vop T ρ H op = some (v, H) := Yv ho ha hy hd h
theorem W30 {T : TypeId → Option VTy} {H : Ze} {op : Op} {ρ : Operand → VVal} {t : TypeId} {a : Operand} {y : VTy} {p v : VVal} (ho : op = .load t a) (ha : ρ a = p) (hy : T t = some y) (hd : Zk y.desc = false) (h : LdOk H p v := by first | exact .inl ⟨_, _, rfl, by rfl⟩ | exact .inr ⟨_, _, _, _, rfl, XH40, by rfl⟩) : vop T ρ H op = some (v, H) := Yv ho ha hy hd h
theorem W31 {T : TypeId → Option VTy} {H : Ze} {op : Op} {ρ : VEnv} {H' : Ze} {t : TypeId} {a : Operand} {i : Nat} {v : VVal} {y : VTy} {b off : Nat} {cs new : List VVal} (ho : op = .store t a (.tmp i)) (hv : ρ[i]? = some v) (ha : ρ.eval a = .ptr (some (b, off))) (hy : T t = some y) (hx : v.cells = some new) (hn : new.length = y.size) (h1 : new.all VVal.one = true) (hb : H[b]? = some (.cells cs true) := by exact XH40) (hl : off + new.length ≤ cs.length := by exact XH38) (hH : H.set b (.cells (Zx cs off new) true) = H' := by exact ht_incw hA) : vop T ρ.eval H op = some (.skip, H') := Z3 ho hv ha hy hx hn h1 hb hl hH
theorem W32 {T : TypeId → Option VTy} {H : Ze} {op : Op} {ρ : VEnv} {H' : Ze} {t : TypeId} {a : Operand} {i : Nat} {v : VVal} {y : VTy} {b off : Nat} {cs new : List VVal} (ho : op = .store t a (.tmp i)) (hv : ρ[i]? = some v) (ha : ρ.eval a = .ptr (some (b, off))) (hy : T t = some y) (hx : v.cells = some new) (hn : new.length = y.size) (h1 : new.all VVal.one = true) (hb : H[b]? = some (.cells cs true) := by exact XH40) (hl : off + new.length ≤ cs.length := by exact XH38) (hH : H.set b (.cells (Zx cs off new) true) = H' := by exact ht_setq hA) : vop T ρ.eval H op = some (.skip, H') := Z3 ho hv ha hy hx hn h1 hb hl hH
theorem W33 {T : TypeId → Option VTy} {H : Ze} {op : Op} {ρ : Operand → VVal} {t : TypeId} {a : Operand} {y : VTy} {p v : VVal} (ho : op = .load t a) (ha : ρ a = p) (hy : T t = some y) (hd : Zk y.desc = false) (h : LdOk H p v := by first | exact .inl ⟨_, _, rfl, by exact XQ (t := (s1.1, s1.2 ||| 1#64 <<< c)) XH28⟩ | exact .inr ⟨_, _, _, _, rfl, XH40, by exact XQ (t := (s1.1, s1.2 ||| 1#64 <<< c)) XH28⟩) : vop T ρ H op = some (v, H) := Yv ho ha hy hd h
theorem W35 {T : TypeId → Option VTy} {H : Ze} {op : Op} {ρ : VEnv} {H' : Ze} {t : TypeId} {a : Operand} {i : Nat} {v : VVal} {y : VTy} {b off : Nat} {cs new : List VVal} (ho : op = .store t a (.tmp i)) (hv : ρ[i]? = some v) (ha : ρ.eval a = .ptr (some (b, off))) (hy : T t = some y) (hx : v.cells = some new) (hn : new.length = y.size) (h1 : new.all VVal.one = true) (hb : H[b]? = some (.cells cs true) := by exact XH40) (hl : off + new.length ≤ cs.length := by first | exact ht_len6 (t := (s1.1, 0#64)) (show c < s1.1.length by omega) | exact ht_len6 (Nat.lt_of_lt_of_eq hc64 (hgr.yes (by assumption)).1.len.symm)) (hH : H.set b (.cells (Zx cs off new) true) = H' := by first | exact ht_setp hA (show c < s1.1.length by omega) | exact ht_setp hA (Nat.lt_of_lt_of_eq hc64 (hgr.yes (by assumption)).1.len.symm)) : vop T ρ.eval H op = some (.skip, H') := Z3 ho hv ha hy hx hn h1 hb hl hH
theorem W37 {S : V.Sys} {H : Ze} {fn : Func} {ex : Exit} {env : VEnv} {B L : Ze} {v : VVal} {R : VVal → Ze → Prop} (hx : ex = .normal ∨ ex = .ret) (hv : ZX S.C.T env (B ++ L) fn.results = some v) (h : R v B) (hB : BaseOk H B := by exact ht_base hA) (hu : v.under H.length = true := by exact XH49) : fnK S fn H R ex env (B ++ L) := Xk hx hv hB hu h
theorem Zdb {x : SW} (H : Ze) (w : BitVec 64) : F (psys x) 159 [iW w] H fun v G => v = .agg [iW w] ∧ G = H := by
 refine Zp Tryd.func159 rfl u6 rfl ?_
 refine Zc (Za (Lo u6 (ZP rfl rfl) ?_))
 refine Zd (Zb (Zc (Za (Lo u6 rfl ?_))))
 refine Lm u6 ?_
 refine Zs rfl rfl rfl (by exact Of_spec _ 0#64 _) ?_
 rintro _ _ ⟨rfl, rfl⟩
 refine Le u6 ?_
 refine Lo u6 (W13 rfl rfl rfl rfl rfl rfl rfl) ?_
 refine Zd (Zb (Zj ?_))
 refine W10 (.inr rfl) (YV rfl rfl rfl rfl XH0 XH6) ?_
 exact ⟨rfl, rfl⟩
theorem hgrow_in {x : SW} {p q y n : Nat} {rows : List (BitVec 64)} (ih : ∀ (H : Ze) (row : Int) (O : List Int) (S : BitVec 64) (g : Gz), Apart3 H p q y → H[p]? = some (hmB y rows O) → H[q]? = some (hsB S) → H[y]? = some (gaB (gw g S)) → 0 ≤ row → row < rows.length → Gok rows O → 64 - YA 64 S < n → F (psys x) 134 [.ptr (some (p, 0)), iI row, .ptr (some (q, 0))] H fun v G => v = .bool (grw rows n row (O, S)).1 ∧ G = htH H p q y rows (grw rows n row (O, S)).2 (gw g (grw rows n row (O, S)).2.2)) {H L : Ze} (a : Apart3 H p q y) (t : GSt) (g : Gz) (row : Int) (h0 : 0 ≤ row) (h1 : row < rows.length) (hk : Gok rows t.1) (hm : 64 - YA 64 t.2 < n) :
  F (psys x) 134 [.ptr (some (p, 0)), iI row, .ptr (some (q, 0))] (htH H p q y rows t (gw g t.2) ++ L) fun v G => v = .bool (grw rows n row t).1 ∧ G = htH H p q y rows (grw rows n row t).2 (gw g (grw rows n row t).2.2) ++ L := by
 have := ih (htH H p q y rows t (gw g t.2) ++ L) row t.1 t.2 g (apart_app a) (ht_p a) (ht_q a) (ht_s a) h0 h1 hk hm
 rw [ht_ht a] at this
 exact this
theorem hgrow_s {x : SW} (p q y n : Nat) (rows : List (BitVec 64)) (ih : ∀ (H : Ze) (row : Int) (O : List Int) (S : BitVec 64) (g : Gz), Apart3 H p q y → H[p]? = some (hmB y rows O) → H[q]? = some (hsB S) → H[y]? = some (gaB (gw g S)) → 0 ≤ row → row < rows.length → Gok rows O → 64 - YA 64 S < n → F (psys x) 134 [.ptr (some (p, 0)), iI row, .ptr (some (q, 0))] H fun v G => v = .bool (grw rows n row (O, S)).1 ∧ G = htH H p q y rows (grw rows n row (O, S)).2 (gw g (grw rows n row (O, S)).2.2)) (H : Ze) (hA : Apart3 H p q y) (row : Int) (O : List Int) (S : BitVec 64) (g : Gz) (hp : H[p]? = some (hmB y rows O)) (hq : H[q]? = some (hsB S)) (hs : H[y]? = some (gaB (gw g S))) (h0 : 0 ≤ row) (h1 : row < rows.length) (hO : Gok rows O) (hm : 64 - YA 64 S < n + 1) (h62 : rows.length < 4611686018427387904) : F (psys x) 134 [.ptr (some (p, 0)), iI row, .ptr (some (q, 0))] H fun v G => v = .bool (grw rows (n + 1) row (O, S)).1 ∧ G = htH H p q y rows (grw rows (n + 1) row (O, S)).2 (gw g (grw rows (n + 1) row (O, S)).2.2) := by
 refine Zp Tryd.func134 rfl u67 rfl ?_
 refine Zc (Za (Lo u67 (ZJ rfl rfl rfl) ?_))
 refine Lo u67 (ZJ rfl rfl rfl) ?_
 refine Lo u67 (ZJ rfl rfl rfl) ?_
 refine Lo u67 (ZP rfl rfl) ?_
 refine Zd (Zb (Zc (Zc (ZK [0, 1, 2, 3, 4, 5, 6, 7, 8] #[0, 1, 3, 7, 0, 31, 63, 127, 255] XH3 XH3 XH3 ?_))))
 refine Ok u67 rfl (W2x rfl rfl rfl rfl) ?_
 refine Oc u67 rfl rfl ?_
 refine Oc u67 rfl rfl ?_
 refine Ok u67 rfl (W2x rfl rfl rfl rfl) ?_
 refine Ok u67 rfl (W2x rfl rfl rfl rfl) ?_
 refine Oc u67 rfl (W18 rfl rfl rfl rfl rfl rfl rfl) ?_
 refine Ok u67 rfl (W2x rfl rfl rfl rfl) ?_
 refine Yd (env' := u67) rfl rfl rfl rfl rfl (by exact Zdb _ _) XH20 rfl rfl ?_
 refine Yd (env' := u67) rfl rfl rfl rfl rfl (by exact Zcu _ _) XH20 rfl rfl ?_
 refine ZW [] XH3 (trivial) ?_
 refine Zb (Zg (Zr (mk 67 147573952589676347271) (env' := u67) rfl ?_))
 refine Zct cI (pl (rows.getD row.toNat 0) 0) (fun l0 h => by cases h) rfl (fun l G R h => Za3 _ _ _ _ h) (σ := GSt × Bool) (fun k s => htH H p q y rows s.1 (gw g (s.1).2) ++ [.cells [.ptr (some (p, 0))] true, .cells [iI row] true, .cells [.ptr (some (q, 0))] true, .cells [.bool s.2] true, k]) ((O, S), false) (fun k => by show _ = htH H p q y rows (O, S) (gw g S) ++ _; rw [htH_id hp hq hs, List.append_assoc]; rfl) (fun k s => by rw [List.length_append]; exact ZI (YN rfl) rfl) (fun k k1 s => by rw [List.length_append]; exact ZO (YN rfl)) (fun pre s => ∃ z, (pl (rows.getD row.toNat 0) 0) = pre ++ z ∧ grL (grw rows n) row (pl (rows.getD row.toNat 0) 0) (O, S) = grL (grw rows n) row z s.1 ∧ s.1.1 = O ∧ 64 - YA 64 s.1.2 ≤ n ∧ s.2 = false) ?_ (fun j pre c s => (j = Code.ret ∧ (grL (grw rows n) row (pl (rows.getD row.toNat 0) 0) (O, S) = (true, s.1) ∧ s.2 = true))) rfl ?_ ?_ ?_
 ·exact ⟨_, rfl, rfl, rfl, by show 64 - YA 64 S ≤ n; omega, rfl⟩
 ·intro pre c post s hx hI kr kb hkr hkb
  obtain ⟨s1, res⟩ := s
  try dsimp only at hI ⊢
  obtain ⟨z, hz, hg, hO1, hcm, hres⟩ := hI
  have hres : res = false := hres
  subst hres
  obtain rfl : z = c :: post := List.append_cancel_left (hz.symm.trans hx)
  have hO1 : s1.1 = O := hO1
  have hcm : 64 - YA 64 s1.2 ≤ n := hcm
  have hg : grL (grw rows n) row (pl (rows.getD row.toNat 0) 0) (O, S) = grL (grw rows n) row (c :: post) s1 := hg
  have hcx : c ∈ (pl (rows.getD row.toNat 0) 0) := by rw [hx]; simp
  obtain ⟨_, hc64, _⟩ := mem_pl.1 hcx
  have hk1 : Gok rows s1.1 := by rw [hO1]; exact hO
  have hl1 : s1.1.length = 64 := hk1.len
  have hnn1 := hk1.nn c hc64
  refine ZL (env' := u67) rfl ?_
  refine Za (La u67 ?_)
  refine Zd (⟨rfl, (s1, false), rfl, ?_⟩)
  try dsimp only
  refine Zg (Zc (Zc (Za (Lo u67 (W2z rfl rfl rfl rfl) ?_))))
  refine Lo u67 rfl ?_
  refine Lo u67 (W30 rfl rfl rfl rfl) ?_
  refine Zs rfl rfl rfl (by exact Zdb _ _) ?_
  rintro _ _ ⟨rfl, rfl⟩
  refine Le u67 ?_
  refine Lm u67 ?_
  refine Zs rfl rfl rfl (by exact Has_spec _ _ _) ?_
  rintro v _ ⟨hv, rfl⟩; obtain rfl : v = .bool (s1.2.getLsbD c) := hv.trans (by rw [decide_eq_true ⟨Int.natCast_nonneg c, by omega⟩, Bool.true_and]; rfl)
  refine Le u67 ?_
  refine Zd (Zb (Zi _ rfl (fun hc1 => ?_) (fun hc1 => ?_)))
  ·try simp only [qB] at hc1
   refine Zz (ZA (Zy ?_))
   have hseen : s1.2.getLsbD c = true := by assumption
   refine ⟨(s1, false), rfl, .inl ⟨rfl, ?_⟩⟩
   exact ⟨post, by rw [hx, List.append_assoc]; rfl, by rw [hg, grL, if_pos hseen], hO1, hcm, rfl⟩
  try simp only [qB] at hc1
  refine Zh (Zb (Zc (Za ?_)))
  have hnseen : ¬ s1.2.getLsbD c = true := nof (by assumption)
  have hcg := Jt (s := s1.2) (t := s1.2 ||| 1#64 <<< c) (fun a ha => (or1 hc64).2 (.inl ha)) ⟨c, (or1 hc64).2 (.inr rfl), Zah hnseen⟩
  have hcl := ZbG (s1.2 ||| 1#64 <<< c)
  refine Lo u67 (W2z rfl rfl rfl rfl) ?_
  refine Lo u67 rfl ?_
  refine Lo u67 rfl ?_
  refine Lo u67 (W2x rfl rfl rfl rfl) ?_
  refine Lo u67 rfl ?_
  refine Lo u67 rfl ?_
  refine Lo u67 (W30 rfl rfl rfl rfl) ?_
  refine Lo u67 (XY (b := 1#64) rfl rfl rfl) ?_
  refine Lo u67 rfl ?_
  refine Lo u67 rfl ?_
  refine Lo u67 (W31 rfl rfl rfl rfl rfl rfl rfl) ?_
  refine Zd (Zb (Zc (ZK [0, 1, 2, 3, 4, 5, 6, 7] #[0, 1, 3, 0, 8, 31, 63, 127] XH3 XH3 XH3 ?_)))
  refine Ok u67 rfl (W2z rfl rfl rfl rfl) ?_
  refine Oc u67 rfl rfl ?_
  refine Ok u67 rfl (W2x rfl rfl rfl rfl) ?_
  refine Om u67 ?_
  refine Oc u67 rfl (Qh rfl rfl rfl XH4) ?_
  refine Oc u67 rfl (ZcG rfl rfl rfl) ?_
  refine Oc u67 rfl rfl ?_
  refine Oo u67 .turn rfl (W32 rfl rfl rfl rfl rfl rfl rfl) ?_
  refine ZW [] XH3 (trivial) ?_
  refine Zb (Zc ?_)
  rw [come_one hc64 (Zah hnseen) g]
  refine ZK [0, 1, 2, 3, 4, 5, 6, 7, 8, 9, 10, 11, 12, 13, 14, 15, 16, 17, 18] #[0, 0, 1, 5, 15, 31, 63, 127, 255, 255, 255, 767, 2815, 7935, 16127, 32511, 255, 131071, 262143] XH3 XH3 XH3 ?_
  refine Ok u67 rfl (W2z rfl rfl rfl rfl) ?_
  refine Om u67 ?_
  refine Oc u67 rfl rfl ?_
  refine Oc u67 rfl rfl ?_
  refine Oc u67 rfl XH34 ?_
  refine Ok u67 rfl (W33 rfl rfl rfl rfl) ?_
  refine Oc u67 rfl rfl ?_
  refine Om u67 ?_
  refine Xi 48 (env1 := u67) (env2 := u67) rfl rfl rfl (fun hg2 => ?_) (fun hg2 => ?_)
  ·try simp only [qB] at hg2
   refine Of u67 rfl ?_
   refine Of u67 rfl ?_
   refine Of u67 rfl ?_
   refine Of u67 rfl ?_
   refine Of u67 rfl ?_
   refine Of u67 rfl ?_
   refine Of u67 rfl ?_
   refine Of u67 rfl ?_
   refine Of u67 rfl ?_
   refine Of u67 rfl ?_
   refine Oc u67 rfl (ZF (VVal.bool true) rfl rfl rfl) ?_
   refine ZW [] XH3 (trivial) ?_
   refine Zb (ZN rfl rfl ?_)
   refine Zc (ZK [0, 1, 2, 3, 4, 5, 6, 7] #[0, 0, 0, 4, 1, 17, 63, 127] XH3 XH3 XH3 ?_)
   refine Ok u67 rfl (W2z rfl rfl rfl rfl) ?_
   refine Om u67 ?_
   refine Ok u67 rfl (W2z rfl rfl rfl rfl) ?_
   refine Oc u67 rfl (W14 rfl rfl rfl) ?_
   refine Oc u67 rfl rfl ?_
   refine Oc u67 rfl rfl ?_
   refine Oc u67 rfl XH34 ?_
   refine Oo u67 .turn rfl (W35 rfl rfl rfl rfl rfl rfl rfl) ?_
   refine ZW [] XH3 (trivial) ?_
   refine Zb (Zc (Za (Lo u67 (Ya (VVal.bool true) rfl rfl rfl rfl rfl rfl rfl XH17 XH5 (by exact ZO (YN rfl))) ?_)))
   refine Zd (Zb (Zj (ZE (⟨(_, true), rfl, .inr ⟨Code.ret, rfl, ⟨rfl, ?_⟩⟩⟩))))
   first
    | exact ⟨by rw [hg, grL, if_neg hnseen, if_pos (by assumption)]; rfl, rfl⟩
    | exact ⟨by rw [hg, grL, if_neg hnseen, if_neg hno, if_pos (by assumption)]; rfl, rfl⟩
  try simp only [qB] at hg2
  have hno : ¬ s1.1.getD c 0 = 0 := by assumption
  have hgr := grw_ok (rows := rows) (n := n) (row := s1.1.getD c 0 - 1) (s := (s1.1, s1.2 ||| 1#64 <<< c)) (by omega) (by omega) hk1 XH30
  refine Ok u67 rfl (W2z rfl rfl rfl rfl) ?_
  refine Ok u67 rfl (W2z rfl rfl rfl rfl) ?_
  refine Om u67 ?_
  refine Oc u67 rfl rfl ?_
  refine Oc u67 rfl rfl ?_
  refine Oc u67 rfl XH34 ?_
  refine Ok u67 rfl (W33 rfl rfl rfl rfl) ?_
  refine Oc u67 rfl (W1y rfl rfl rfl) ?_
  refine Ok u67 rfl (W2z rfl rfl rfl rfl) ?_
  refine Yd (env' := u67) rfl rfl rfl rfl rfl (by exact hgrow_in ih hA (s1.1, s1.2 ||| 1#64 <<< c) g _ (show (0 : Int) ≤ s1.1.getD c 0 - 1 by omega) (show s1.1.getD c 0 - 1 < (rows.length : Int) by omega) hk1 XH30) XH20 rfl rfl ?_
  refine Oc u67 rfl (ZY rfl rfl rfl) ?_
  refine ZW [] XH3 (trivial) ?_
  refine Zb (Zi _ rfl (fun hc3 => ?_) (fun hc3 => ?_))
  ·try simp only [qB] at hc3
   refine Zc (ZK [0, 1, 2, 3, 4, 5, 6, 7] #[0, 0, 0, 4, 1, 17, 63, 127] XH3 XH3 XH3 ?_)
   refine Ok u67 rfl (W2z rfl rfl rfl rfl) ?_
   refine Om u67 ?_
   refine Ok u67 rfl (W2z rfl rfl rfl rfl) ?_
   refine Oc u67 rfl (W14 rfl rfl rfl) ?_
   refine Oc u67 rfl rfl ?_
   refine Oc u67 rfl rfl ?_
   refine Oc u67 rfl XH34 ?_
   refine Oo u67 .turn rfl (W35 rfl rfl rfl rfl rfl rfl rfl) ?_
   refine ZW [] XH3 (trivial) ?_
   refine Zb (Zc (Za (Lo u67 (Ya (VVal.bool true) rfl rfl rfl rfl rfl rfl rfl XH17 XH5 (by exact ZO (YN rfl))) ?_)))
   refine Zd (Zb (Zj (ZE (⟨(_, true), rfl, .inr ⟨Code.ret, rfl, ⟨rfl, ?_⟩⟩⟩))))
   first
    | exact ⟨by rw [hg, grL, if_neg hnseen, if_pos (by assumption)]; rfl, rfl⟩
    | exact ⟨by rw [hg, grL, if_neg hnseen, if_neg hno, if_pos (by assumption)]; rfl, rfl⟩
  try simp only [qB] at hc3
  refine Zh (Zq ?_)
  have hcg2 : YA 64 (s1.2 ||| 1#64 <<< c) ≤ YA 64 (grw rows n (s1.1.getD c 0 - 1) (s1.1, s1.2 ||| 1#64 <<< c)).2.2 := come_le2 hgr.sub
  refine ⟨(_, false), rfl, .inl ⟨rfl, ?_⟩⟩
  exact ⟨post, by rw [hx, List.append_assoc]; rfl, by rw [hg, grL, if_neg hnseen, if_neg hno, if_neg (nof (by assumption))]; rfl, ((hgr.no (by assumption)).1).trans hO1, (by show 64 - YA 64 (grw rows n (s1.1.getD c 0 - 1) (s1.1, s1.2 ||| 1#64 <<< c)).2.2 ≤ n; omega), rfl⟩
 ·intro s k hk hI
  obtain ⟨s1, res⟩ := s
  try dsimp only at hI ⊢
  obtain ⟨z, hz, hg, hO1, hcm, hres⟩ := hI
  have hres : res = false := hres
  subst hres
  obtain rfl : z = [] := by simpa using hz
  refine Zq (Zb (Zc (Za (Lo u67 (Ya (VVal.bool false) rfl rfl rfl rfl rfl rfl rfl XH17 XH5 (by exact ZO (YN rfl))) ?_))))
  refine Zd (Zb (Zj (W37 (.inr rfl) (Jk rfl rfl rfl rfl (by exact ZI (YN rfl) rfl) (by first | rfl | assumption | exact XQ (by omega) | exact ZaA hl1 | exact Jj (α := BitVec 64) 0 (by omega))) ?_)))
  exact ⟨by rw [show grw rows (n + 1) row (O, S) = (false, s1) from grw_all.trans hg], by rw [show grw rows (n + 1) row (O, S) = (false, s1) from grw_all.trans hg]⟩
 rintro j pre c post s k hk hx (⟨rfl, hX⟩)
 obtain ⟨s1, res⟩ := s
 try dsimp only
 obtain ⟨hX1, hX2⟩ := hX
 have hX2 : res = true := hX2
 subst hX2
 refine J_ret (ZE (Zl (W37 (.inr rfl) (Jk rfl rfl rfl rfl (by exact ZI (YN rfl) rfl) (by first | rfl | assumption | exact XQ (by omega) | exact ZaA hl1 | exact Jj (α := BitVec 64) 0 (by omega))) ?_)))
 exact ⟨by rw [show grw rows (n + 1) row (O, S) = (true, s1) from grw_all.trans hX1], by rw [show grw rows (n + 1) row (O, S) = (true, s1) from grw_all.trans hX1]⟩
abbrev u51 {a0 a1 a2 a3 a4 a5 a6 a7 a8 a9 a10 a11 a12 a13 a14 a15 a16 a17 a18 a19 a20 a21 a22 a23 a24 a25 a26 a27 a28 a29 a30 a31 a32 a33 a34 a35 a36 a37 a38 a39 a40 a41 a42 a43 a44 a45 a46 a47 a48 a49 a50 : VVal} : VEnv := a0 :: a1 :: a2 :: a3 :: a4 :: a5 :: a6 :: a7 :: a8 :: a9 :: a10 :: a11 :: a12 :: a13 :: a14 :: a15 :: a16 :: a17 :: a18 :: a19 :: a20 :: a21 :: a22 :: a23 :: a24 :: a25 :: a26 :: a27 :: a28 :: a29 :: a30 :: a31 :: a32 :: a33 :: a34 :: a35 :: a36 :: a37 :: a38 :: a39 :: a40 :: a41 :: a42 :: a43 :: a44 :: a45 :: a46 :: a47 :: a48 :: a49 :: a50 :: []
theorem W3a {T : TypeId → Option VTy} {H : Ze} {op : Op} {ρ : Operand → VVal} {t : TypeId} {a : Operand} {y : VTy} {p v : VVal} (ho : op = .load t a) (ha : ρ a = p) (hy : T t = some y) (hd : Zk y.desc = false) (h : LdOk H p v := by first | exact .inl ⟨_, _, rfl, by first | exact XE (α := BitVec 64) 0 (by rw [ZbC]; omega) | rfl⟩ | exact .inr ⟨_, _, _, _, rfl, XH35, by first | exact XE (α := BitVec 64) 0 (by rw [ZbC]; omega) | rfl⟩) : vop T ρ H op = some (v, H) := Yv ho ha hy hd h
theorem W3c {T : TypeId → Option VTy} {H : Ze} {op : Op} {ρ : VEnv} {H' : Ze} {t : TypeId} {a : Operand} {i : Nat} {v : VVal} {y : VTy} {b off : Nat} {cs new : List VVal} (ho : op = .store t a (.tmp i)) (hv : ρ[i]? = some v) (ha : ρ.eval a = .ptr (some (b, off))) (hy : T t = some y) (hx : v.cells = some new) (hn : new.length = y.size) (h1 : new.all VVal.one = true) (hb : H[b]? = some (.cells cs true) := by exact XH35) (hl : off + new.length ≤ cs.length := by show 0 + (k : Int).toNat * 1 + 1 ≤ _; rw [List.length_map, ZbC]; omega) (hH : H.set b (.cells (Zx cs off new) true) = H' := by exact (ZO rfl).trans (by show H ++ [VBlk.cells (Zx (List.map iW (mkT l t k)) (0 + (k : Int).toNat * 1) [_]) true, _] = _; rw [spl_w (by rw [ZbC]; omega)])) : vop T ρ.eval H op = some (.skip, H') := Z3 ho hv ha hy hx hn h1 hb hl hH
theorem W3e {S : V.Sys} {H : Ze} {fn : Func} {ex : Exit} {env : VEnv} {B L : Ze} {v : VVal} {R : VVal → Ze → Prop} (hx : ex = .normal ∨ ex = .ret) (hv : ZX S.C.T env (B ++ L) fn.results = some v) (h : R v B) (hB : BaseOk H B := by exact BaseOk.set (BaseOk.refl _) _ rfl) (hu : v.under H.length = true := by exact XH49) : fnK S fn H R ex env (B ++ L) := Xk hx hv hB hu h
theorem W3f {P : Prop} (h : P := by first | exact ⟨by rw [(full_no (by omega) hz (by assumption)).1], by rw [show fuG l t = ⟨0, 0, edN (msk l t) (k + 1)⟩ from congrArg (Gz.mk 0 0) (full_no (by omega) hz (by assumption)).2]⟩ | (obtain rfl : k = l.length := by omega); exact ⟨by rw [full_yes hz], rfl⟩) : P := h
theorem ZbZ {x : SW} (p q y : Nat) (rows : List (BitVec 64)) (h62 : rows.length < 4611686018427387904) : ∀ (n : Nat) (H : Ze) (row : Int) (O : List Int) (S : BitVec 64) (g : Gz), Apart3 H p q y → H[p]? = some (hmB y rows O) → H[q]? = some (hsB S) → H[y]? = some (gaB (gw g S)) → 0 ≤ row → row < rows.length → Gok rows O → 64 - YA 64 S < n → F (psys x) 134 [.ptr (some (p, 0)), iI row, .ptr (some (q, 0))] H fun v G => v = .bool (grw rows n row (O, S)).1 ∧ G = htH H p q y rows (grw rows n row (O, S)).2 (gw g (grw rows n row (O, S)).2.2)
 | 0, _, _, _, _, _, _, _, _, _, _, _, _, h => absurd h (by omega)
 | n + 1, H, row, O, S, g, a, hp, hq, hs, h0, h1, hO, hm => hgrow_s p q y n rows (fun H row O S g a b c d e f h i => ZbZ p q y rows h62 n H row O S g a b c d e f h i) H a row O S g hp hq hs h0 h1 hO hm h62
theorem gw_0 (g : Gz) : gw g 0#64 = g := by unfold gw; rw [ZcA]; rfl
theorem gw_ed {rows : List (BitVec 64)} {k : Nat} {g : Gz} (h : (szO rows k).2 = k) : gw (g + ⟨0, 0, edN rows k⟩) (grw rows 65 k ((szO rows k).1, 0#64)).2.2 = g + ⟨0, 0, edN rows (k + 1)⟩ := by
 rw [edN_yes h]; exact Gz.ext' rfl rfl (Nat.add_assoc _ _ _)
theorem hgrow_at {x : SW} {H : Ze} {y p q : Nat} (hp : p = H.length + 1) (hq : q = H.length + 2) (g : Gz) (hy : y < H.length) (rows : List (BitVec 64)) (O : List Int) (row : Int) (h0 : 0 ≤ row) (h1 : row < rows.length) (hO : Gok rows O) (h62 : rows.length < 4611686018427387904) : F (psys x) 134 [.ptr (some (p, 0)), iI row, .ptr (some (q, 0))] (H.set y (gaB g) ++ [.dead, hmB y rows O, hsB 0#64]) fun v G => v = .bool (grw rows 65 row (O, 0#64)).1 ∧ G = H.set y (gaB (gw g (grw rows 65 row (O, 0#64)).2.2)) ++ [.dead, hmB y rows (grw rows 65 row (O, 0#64)).2.1, hsB (grw rows 65 row (O, 0#64)).2.2] := by
 subst hp hq
 have := ZbZ (x := x) (H.length + 1) (H.length + 2) y rows h62 65 (H.set y (gaB g) ++ [.dead, hmB y rows O, hsB 0#64]) row O 0#64 g ⟨by simp, by simp, by simp; omega, by omega, by omega, by omega⟩ (ZI (List.length_set) rfl) (ZI (List.length_set) rfl) (by rw [gw_0]; exact JE (List.getElem?_set_self hy)) h0 h1 hO (by rw [ZcA]; omega)
 unfold htH at this
 rw [ZO (List.length_set), ZO (List.length_set), Yl (by rw [List.length_set]; exact hy), List.set_set] at this
 exact this
theorem hmB_under {n y : Nat} {rows : List (BitVec 64)} {O : List Int} (h : y < n) : (hmB y rows O).under n = true := by
 show VVal.underL n (fzW rows :: (O.map iI ++ [.ptr (some (y, 0))])) = true
 have h1 : VVal.underL n (O.map iI ++ [.ptr (some (y, 0))]) = true := VVal.underL_app (VVal.underL_map fun _ => rfl) (by simp [VVal.underL, VVal.under, h])
 simp only [VVal.underL, h1, Bool.and_true]
 exact VVal.underL_map fun _ => rfl
theorem wApp_c {l : List (BitVec 64)} : Zo (l.map iW) 0 (l.length * 1) = some (l.map iW) := by
 unfold Zo; rw [if_pos XH14, List.drop_zero, List.take_of_length_le XH14]
theorem spl_w {l : List (BitVec 64)} {k : Nat} {w : BitVec 64} (h : k < l.length) : Zx (l.map iW) (0 + k * 1) [iW w] = (l.set k w).map iW := by
 rw [show 0 + k * 1 = k by omega]
 unfold Zx
 rw [List.map_set, List.set_eq_take_append_cons_drop, if_pos XH31]; simp
section
variable {T : TypeId → Option VTy} {ρ : Operand → VVal} {H : Ze} {op : Op}
theorem v_eqNilC {t : TypeId} {x y : Operand} {ty : TypeId} {cs : List VVal} {len es : Nat} {ex : Bool} {i : VTy} {e : TypeId} (ho : op = .binOp .eql t x y ty) (hx : ρ x = .fsl cs len es ex) (hy : ρ y = .slice none 0 0 true 0) (hT : T t = some i) (hd : i.desc = .slice e) (hl : len ≠ 0) : vop T ρ H op = some (.bool false, H) := by
 rw [ho]; simp [vop, Zar, hx, hy, veq, hT, hd, hl]
end
theorem CloW_nil {x : SW} (H : Ze) : F (psys x) 111 [.slice none 0 0 true 0] H fun v G => v = .fsl [] 0 1 false ∧ G = H := by
 refine Zp Tryd.func111 rfl u8 rfl ?_
 refine Zc (Za (Lk u8 (.slice none 0 0 true 0) ?_))
 refine Zd (Zb (Zc (Zc (Za (Lm u8 ?_)))))
 refine Lo u8 rfl ?_
 refine Zd (Zb (ZN rfl rfl ?_))
 refine Zc (Za (Lk u8 (.slice none 0 0 true 0) ?_))
 refine Zd (Zb (Zj (Zl (Zbm (.inr rfl) (Zf rfl rfl) (Gh.ansLV (BaseOk.refl _) (LV.nil H.length 1 []) rfl) ?_))))
 exact ⟨rfl, rfl⟩
theorem CloW_emp {x : SW} (H : Ze) : F (psys x) 111 [.slice none 0 0 false 0] H fun v G => v = .fsl [] 0 1 false ∧ G = H := by
 refine Zp Tryd.func111 rfl u8 rfl ?_
 refine Zc (Za (Lk u8 (.slice none 0 0 true 0) ?_))
 refine Zd (Zb (Zc (Zc (Za (Lm u8 ?_)))))
 refine Lo u8 rfl ?_
 refine Zd (Zb (Yc rfl rfl ?_))
 refine Zh (Zb (Zc (Za (Lo u8 (Zv rfl rfl (by decide) rfl) ?_))))
 refine Lm u8 ?_
 refine Lo u8 (Zby rfl rfl rfl rfl rfl rfl rfl (ZI rfl rfl) rfl rfl rfl rfl (by decide) (by decide) (by decide)) ?_
 refine ZcB (H' := H ++ [.cells [] true]) (by rw [ZO rfl]; rfl) ?_
 refine La u8 ?_
 refine Zd (Zb (Zj (Zbm (.inr rfl) (Zf rfl rfl) (Gh.fsl (j := 0) (off := 0) (len := 0) (l := []) (BaseOk.refl _) rfl rfl (Nat.le_refl _) rfl) ?_)))
 exact ⟨rfl, rfl⟩
theorem CloW_c {x : SW} (H : Ze) (l : List (BitVec 64)) (hne : l ≠ []) (hl : l.length ≤ 1000000) : F (psys x) 111 [fzW l] H fun v G => v = .slice (some (H.length, 0)) l.length l.length (decide (l.length = 0)) 1 ∧ G = H ++ [.cells (l.map iW) true] := by
 refine Zp Tryd.func111 rfl u8 rfl ?_
 refine Zc (Za (Lk u8 (.slice none 0 0 true 0) ?_))
 refine Zd (Zb (Zc (Zc (Za (Lm u8 ?_)))))
 refine Lo u8 (v_eqNilC rfl rfl rfl rfl rfl (fun e => hne (List.eq_nil_of_length_eq_zero e))) ?_
 refine Zd (Zb (Yc rfl rfl ?_))
 refine Zh (Zb (Zc (Za (Lo u8 (Zv rfl rfl (by decide) rfl) ?_))))
 refine Lm u8 ?_
 refine X7 rfl rfl (v_appE rfl rfl rfl rfl rfl rfl rfl rfl XH23 (Qw _) (by decide) (by show l.length * 8 ≤ _ ∧ l.length ≤ _; omega)) ?_
 rintro _ _ ⟨Z, i, rfl, rfl, hi⟩
 refine Le u8 ?_
 refine La u8 ?_
 refine Zd (Zb (Zj (Zbm (.inr rfl) (Zf rfl rfl) (Gh.pack (BaseOk.refl _) hi (Yu _ _)) ?_)))
 exact ⟨rfl, rfl⟩
theorem CloW_0 {x : SW} (H : Ze) : F (psys x) 111 [fzW []] H fun v G => v = .fsl [] 0 1 false ∧ G = H := Zcs (CloW_nil H) (CloW_emp H)
theorem CloW_L {x : SW} (H L : Ze) (l : List (BitVec 64)) (hne : l ≠ []) (hl : l.length ≤ 1000000) : F (psys x) 111 [fzW l] (H ++ L) fun v G => v = .slice (some (H.length + L.length, 0)) l.length l.length (decide (l.length = 0)) 1 ∧ G = H ++ (L ++ [.cells (l.map iW) true]) := by
 have := CloW_c (x := x) (H ++ L) l hne hl
 rw [List.length_append, List.append_assoc] at this
 exact this
abbrev huC (u : Int) (ws rs : VVal) (y : Nat) : List VVal := [iI u, ws, rs, .ptr (some (y, 0))]
abbrev huP (u : Int) (ws rs : VVal) (y : Nat) : VVal := .fptr (huC u ws rs y) 0
theorem hfull_0 {x : SW} {u : Int} {ws rs : VVal} (H : Ze) (y : Nat) (g : Gz) (hs : H[y]? = some (gaB g)) (t : BitVec 64) : F (psys x) 100 [huP u ws rs y, fzW [], iW t] H fun v G => v = .bool (Yk [] t) ∧ G = H := by
 refine Zp Tryd.func100 rfl u51 rfl ?_
 refine Zc (Za (Lk u51 (.bool false) ?_))
 refine Zd (Zb (Zc (ZK [0, 2, 3, 4, 5, 1, 6, 7, 8] #[0, 1, 0, 4, 12, 28, 63, 127, 255] XH3 XH3 XH3 ?_)))
 refine Om u51 ?_
 refine Om u51 ?_
 refine Oc u51 rfl rfl ?_
 refine Oc u51 rfl rfl ?_
 refine Yb (env' := u51) (x := .look _ _) rfl rfl rfl (W12 rfl rfl rfl rfl) rfl rfl rfl ?_
 refine Yd (env' := u51) rfl rfl rfl rfl rfl (by exact CloW_0 _) XH8 rfl rfl ?_
 refine Oc u51 rfl rfl ?_
 refine Oo u51 .grow rfl (ZJ rfl rfl rfl) ?_
 refine Oc u51 rfl (Yo (.inr rfl) rfl) ?_
 refine ZW [_] (by rfl) (And.intro (And.intro (W12 rfl rfl rfl rfl) (W12 rfl rfl rfl rfl)) trivial) ?_
 refine Zb (Zc (Zc (Za (Lm u51 ?_))))
 refine Lo u51 rfl ?_
 refine Lo u51 rfl ?_
 refine Lo u51 (W12 rfl rfl rfl rfl) ?_
 refine Lo u51 rfl ?_
 refine Lo u51 (Z4 (VVal.int .i64 0) (.inl rfl) rfl) ?_
 refine Zd (Zb (Zg (Zr (mk 51 2251799788519291) (env' := u51) rfl ?_)))
 refine Zw (fun (k : Nat) => 0) (fun (k : Nat) => [(24, iI (k : Nat))]) (fun (k : Nat) G => (k = 0) ∧ G = H ++ [hmB y [] (szO [] 0).1]) 0 rfl ?_ ?_
 ·refine ⟨?_, rfl⟩
  trivial
 rintro k _ ⟨_, rfl⟩
 refine ZL (env' := u51) rfl ?_
 refine Zc (Za (Lo u51 rfl ?_))
 refine Zd (Zb (Zc (Zi _ rfl (fun hc1 => ?_) (fun hc1 => ?_))))
 ·try simp only [qB] at hc1
  exfalso; try simp only [List.length_nil] at *
  omega
 try simp only [qB] at hc1
 refine Zz (ZA (Zu (Zy (Zb (Zc (Zc (Za (Lm u51 ?_))))))))
 refine Lo u51 rfl ?_
 refine Lo u51 rfl ?_
 refine Lo u51 (W12 rfl rfl rfl rfl) ?_
 refine Lo u51 rfl ?_
 refine Lo u51 (Z4 (VVal.int .i64 0) (.inl rfl) rfl) ?_
 refine Zd (Zb (Zg (Zr (mk 51 2238605674151807) (env' := u51) rfl ?_)))
 refine Zw (fun (k : Nat) => 0) (fun (k : Nat) => [(43, iI (k : Nat))]) (fun (k : Nat) G => (k = 0) ∧ G = H ++ [hmB y [] (szO [] 0).1]) 0 rfl ?_ ?_
 ·refine ⟨?_, rfl⟩
  trivial
 rintro k _ ⟨_, rfl⟩
 refine ZL (env' := u51) rfl ?_
 refine Zc (Za (Lo u51 rfl ?_))
 refine Zd (Zb (Zc (Zi _ rfl (fun hc2 => ?_) (fun hc2 => ?_))))
 ·try simp only [qB] at hc2
  exfalso; try simp only [List.length_nil] at *
  omega
 try simp only [qB] at hc2
 refine Zz (ZA (Zu (Zy (Zb (Zc (Za (Lk u51 (.bool true) ?_)))))))
 refine Zd (Zb (Zj (W10 (.inr rfl) (Zf rfl rfl) ?_)))
 exact ⟨rfl, rfl⟩
theorem hfull_c {x : SW} {u : Int} {ws rs : VVal} (H : Ze) (y : Nat) (g : Gz) (hs : H[y]? = some (gaB g)) (l : List (BitVec 64)) (t : BitVec 64) (hne : l ≠ []) (hl : l.length ≤ 1000000) : F (psys x) 100 [huP u ws rs y, fzW l, iW t] H fun v G => v = .bool (Yk l t) ∧ G = H.set y (gaB (g + fuG l t)) := by
 have hy := ZG hs
 refine Zp Tryd.func100 rfl u51 rfl ?_
 refine Zc (Za (Lk u51 (.bool false) ?_))
 refine Zd (Zb (Zc (ZK [0, 2, 3, 4, 5, 1, 6, 7, 8] #[0, 1, 0, 4, 12, 28, 63, 127, 255] XH3 XH3 XH3 ?_)))
 refine Om u51 ?_
 refine Om u51 ?_
 refine Oc u51 rfl rfl ?_
 refine Oc u51 rfl rfl ?_
 refine Yb (env' := u51) (x := .look _ _) rfl rfl rfl (W3a rfl rfl rfl rfl) rfl rfl rfl ?_
 refine Yd (env' := u51) rfl rfl rfl rfl rfl (by exact CloW_L _ _ _ hne hl) XH8 rfl rfl ?_
 refine Oc u51 rfl rfl ?_
 refine Oo u51 .grow rfl (ZJ rfl rfl rfl) ?_
 refine Oc u51 rfl (Yo (.inr rfl) rfl) ?_
 refine ZW [_] (by rfl) (And.intro (And.intro (W3a rfl rfl rfl rfl) (W3a rfl rfl rfl rfl)) trivial) ?_
 refine Zb (Zc (Zc (Za (Lm u51 ?_))))
 refine Lo u51 rfl ?_
 refine Lo u51 rfl ?_
 refine Lo u51 (W3a rfl rfl rfl rfl) ?_
 refine Lo u51 rfl ?_
 refine Lo u51 (Z4 (VVal.int .i64 0) (.inl rfl) rfl) ?_
 refine Zd (Zb (Zg (Zr (mk 51 2251799788519291) (env' := u51) rfl ?_)))
 refine Zw (fun (k : Nat) => l.length - k) (fun (k : Nat) => [(24, iI (k : Nat))]) (fun (k : Nat) G => (k ≤ l.length) ∧ G = H ++ [.cells ((mkT l t k).map iW) true, .cells (.slice (some (H.length + 0, 0)) l.length l.length (decide (l.length = 0)) 1 :: ((List.replicate 64 0).map iI ++ [.ptr (some (y, 0))])) true]) 0 rfl ?_ ?_
 ·refine ⟨?_, (by rw [mkT_0]; rfl)⟩
  exact Nat.zero_le _
 rintro k _ ⟨hk, rfl⟩
 refine ZL (env' := u51) rfl ?_
 refine Zc (Za (Lo u51 rfl ?_))
 refine Zd (Zb (Zc (Zi _ rfl (fun hc1 => ?_) (fun hc1 => ?_))))
 ·try simp only [qB] at hc1
  refine Zh (Zb (Zc (Zg (Zc (Za (Lm u51 ?_))))))
  refine La u51 ?_
  refine Zd (Zb (Za (Lm u51 ?_)))
  refine Lo u51 rfl ?_
  refine Lo u51 rfl ?_
  refine Lo u51 (W3a rfl rfl rfl rfl) ?_
  refine Lm u51 ?_
  refine Lo u51 (W18 rfl rfl rfl rfl rfl rfl rfl) ?_
  refine Lo u51 (W3a rfl rfl rfl rfl) ?_
  refine Lm u51 ?_
  refine Lo u51 (Qj rfl rfl rfl) ?_
  refine Lo u51 (W18 rfl rfl rfl rfl rfl rfl rfl) ?_
  refine Lo u51 (W3c rfl rfl rfl rfl rfl rfl rfl) ?_
  refine Zd (Zq (Zb (Za (Lo u51 (W14 rfl rfl rfl) ?_))))
  refine Lm u51 ?_
  refine Zd ?_
  have hE : (mkT l t k).set (k : Int).toNat ((mkT l t k).getD (k : Int).toNat 0 &&& ~~~t) = mkT l t (k + 1) := by rw [Int.toNat_natCast, mkT_get (by omega), mkT_set (by omega)]
  refine Zt (mk 51 2251799788519291) (env' := u51) rfl ⟨k + 1, ?_, rfl, ?_⟩
  ·first | omega | (simp only []; omega)
  exact ⟨by omega, by rw [← hE]⟩
 try simp only [qB] at hc1
 refine Zz (ZA (Zu (Zy (Zb (Zc (Zc ?_))))))
 obtain rfl : k = l.length := by omega
 rw [mkT_all]
 refine Ym (Gh.cellL (l := (msk l t).map iW) 1 0 0 rfl rfl (by decide) rfl (by rw [show l.length * 1 = (msk l t).length * 1 by rw [Yg]]; exact wApp_c) (Nat.le_refl _)) ?_
 refine Za (Lm u51 ?_)
 refine Lo u51 rfl ?_
 refine Lo u51 rfl ?_
 refine Lo u51 (W3a rfl rfl rfl rfl) ?_
 refine Lo u51 rfl ?_
 refine Lo u51 (Z4 (VVal.int .i64 0) (.inl rfl) rfl) ?_
 refine Zd (Zb (Zg (Zr (mk 51 2238605674151807) (env' := u51) rfl ?_)))
 refine Zw (fun (k : Nat) => l.length - k) (fun (k : Nat) => [(43, iI (k : Nat))]) (fun (k : Nat) G => (k ≤ l.length ∧ (szO (msk l t) k).2 = k) ∧ G = H.set y (gaB (g + ⟨0, 0, edN (msk l t) k⟩)) ++ [.dead, hmB y (msk l t) (szO (msk l t) k).1]) 0 rfl ?_ ?_
 ·refine ⟨?_, (by rw [edN, show g + ⟨0, 0, 0⟩ = g from Gz.add_zero g, ← YG hs]; show H ++ [VBlk.dead, VBlk.cells (VVal.fsl ((msk l t).map iW) l.length 1 false :: _) true] = H ++ [VBlk.dead, VBlk.cells (VVal.fsl ((msk l t).map iW) (msk l t).length 1 false :: _) true]; rw [Yg]; rfl)⟩
  exact ⟨Nat.zero_le _, rfl⟩
 rintro k _ ⟨⟨hk, hz⟩, rfl⟩
 refine ZL (env' := u51) rfl ?_
 refine Zc (Za (Lo u51 rfl ?_))
 refine Zd (Zb (Zc (Zi _ rfl (fun hc2 => ?_) (fun hc2 => ?_))))
 ·try simp only [qB] at hc2
  refine Zh (Zb (Zc (Zg (Zc (Za (Lm u51 ?_))))))
  refine La u51 ?_
  refine Zd (Zb (Zc (Za (Lo u51 (ZP rfl rfl) ?_))))
  refine Lo u51 (Ya (VVal.int .u64 0) rfl rfl rfl rfl rfl rfl rfl XH0 XH5 XH1) ?_
  refine Zd (Zb (Zc (Za (Lm u51 ?_))))
  refine Lm u51 ?_
  refine Zs rfl rfl rfl (by exact hgrow_at (p := H.length + 1) (q := (H.set y (gaB (g + ⟨0, 0, edN (msk l t) k⟩))).length + 2) rfl (by rw [List.length_set]) (g + ⟨0, 0, edN (msk l t) k⟩) hy (msk l t) (szO (msk l t) k).1 k (by omega) (by rw [Yg]; omega) (Zad (by rw [Yg]; omega)) (by rw [Yg]; omega)) ?_
  rintro v _ ⟨rfl, rfl⟩; rw [gw_ed hz]
  refine Le u51 ?_
  refine Lo u51 rfl ?_
  refine Zd (Zb (Zi _ rfl (fun hc3 => ?_) (fun hc3 => ?_)))
  ·try simp only [qB] at hc3
   refine Zc (Za (Lk u51 (.bool false) ?_))
   refine Zd (Zb (Zj (ZE (Zl (Ye (ZE (Zl (W3e (.inr rfl) (Zf rfl rfl) ?_))))))))
   exact W3f
  try simp only [qB] at hc3
  refine Zh (Zq (Zb (Za (Lo u51 (W14 rfl rfl rfl) ?_))))
  refine Lm u51 ?_
  refine Zd (JG (mk 51 2238605674151807) (env' := u51) rfl (Gh.dropTo (L := [.dead, hmB y (msk l t) (szO (msk l t) (k + 1)).1]) (X := [hsB _]) 2 rfl (BaseOk.set (BaseOk.refl _) _ rfl) (by first | (simp [VVal.underL, VVal.under]; done) | (simp [VVal.underL, VVal.under]; omega)) (by show (true && ((hmB y _ _).under _ && true)) = true; rw [hmB_under (by first | omega | (rw [List.length_set]; omega))]; rfl)) ⟨k + 1, ?_, rfl, ?_⟩)
  ·first | omega | (simp only []; omega)
  exact ⟨⟨by omega, szO_yes hz (by assumption)⟩, rfl⟩
 try simp only [qB] at hc2
 refine Zz (ZA (Zu (Zy (Zb (Zc (Za (Lk u51 (.bool true) ?_)))))))
 refine Zd (Zb (Zj (W3e (.inr rfl) (Zf rfl rfl) ?_)))
 exact W3f
abbrev u44 {a0 a1 a2 a3 a4 a5 a6 a7 a8 a9 a10 a11 a12 a13 a14 a15 a16 a17 a18 a19 a20 a21 a22 a23 a24 a25 a26 a27 a28 a29 a30 a31 a32 a33 a34 a35 a36 a37 a38 a39 a40 a41 a42 a43 : VVal} : VEnv := a0 :: a1 :: a2 :: a3 :: a4 :: a5 :: a6 :: a7 :: a8 :: a9 :: a10 :: a11 :: a12 :: a13 :: a14 :: a15 :: a16 :: a17 :: a18 :: a19 :: a20 :: a21 :: a22 :: a23 :: a24 :: a25 :: a26 :: a27 :: a28 :: a29 :: a30 :: a31 :: a32 :: a33 :: a34 :: a35 :: a36 :: a37 :: a38 :: a39 :: a40 :: a41 :: a42 :: a43 :: []
theorem W3h {T : TypeId → Option VTy} {H : Ze} {op : Op} {ρ : Operand → VVal} {t : TypeId} {a : Operand} {y : VTy} {p v : VVal} (ho : op = .load t a) (ha : ρ a = p) (hy : T t = some y) (hd : Zk y.desc = false) (h : LdOk H p v := by first | exact .inl ⟨_, _, rfl, by first | rfl | assumption | exact YT (α := Nat) 0 (by omega) | exact YT (α := BitVec 64) 0 (by omega)⟩ | exact .inr ⟨_, _, _, _, rfl, XH35, by first | rfl | assumption | exact YT (α := Nat) 0 (by omega) | exact YT (α := BitVec 64) 0 (by omega)⟩) : vop T ρ H op = some (v, H) := Yv ho ha hy hd h
theorem W3j {T : TypeId → Option VTy} {H : Ze} {op : Op} {ρ : Operand → VVal} {t : TypeId} {a : Operand} {y : VTy} {p v : VVal} (ho : op = .load t a) (ha : ρ a = p) (hy : T t = some y) (hd : Zk y.desc = false) (h : LdOk H p v := by first | exact .inl ⟨_, _, rfl, by exact fget0N (f := iW) (l := Z6 ws a k) (k := a.getD k 0) 0 hlt⟩ | exact .inr ⟨_, _, _, _, rfl, by exact ZI rfl hbX, by exact fget0N (f := iW) (l := Z6 ws a k) (k := a.getD k 0) 0 hlt⟩) : vop T ρ H op = some (v, H) := Yv ho ha hy hd h
theorem W3k {T : TypeId → Option VTy} {H : Ze} {op : Op} {ρ : VEnv} {H' : Ze} {t : TypeId} {a : Operand} {i : Nat} {v : VVal} {y : VTy} {b off : Nat} {cs new : List VVal} (ho : op = .store t a (.tmp i)) (hv : ρ[i]? = some v) (ha : ρ.eval a = .ptr (some (b, off))) (hy : T t = some y) (hx : v.cells = some new) (hn : new.length = y.size) (h1 : new.all VVal.one = true) (hb : H[b]? = some (.cells cs true) := by exact XH35) (hl : off + new.length ≤ cs.length := by show 0 + ((a.getD k 0 : Nat) : Int).toNat * 1 + 1 ≤ (List.map iW (Z6 ws a k)).length; rw [List.length_map]; omega) (hH : H.set b (.cells (Zx cs off new) true) = H' := by exact (ZO rfl).trans (by show H ++ X.set b (VBlk.cells (Zx ((Z6 ws a k).map iW) (0 + ((a.getD k 0 : Nat) : Int).toNat * 1) [_]) true) = _; rw [Int.toNat_natCast, spl_w hlt])) : vop T ρ.eval H op = some (.skip, H') := Z3 ho hv ha hy hx hn h1 hb hl hH
theorem hfull_spec {x : SW} {u : Int} {ws rs : VVal} (H : Ze) (y : Nat) (g : Gz) (hs : H[y]? = some (gaB g)) (l : List (BitVec 64)) (t : BitVec 64) (hl : l.length ≤ 1000000) : F (psys x) 100 [huP u ws rs y, fzW l, iW t] H fun v G => v = .bool (Yk l t) ∧ G = H.set y (gaB (g + fuG l t)) := by
 by_cases h : l = []
 ·subst h
  refine (hfull_0 H y g hs t).mono ?_
  rintro v G ⟨rfl, rfl⟩
  exact ⟨rfl, by rw [show fuG [] t = 0 from rfl, Gz.add_zero, ← YG hs]⟩
 exact hfull_c H y g hs l t h hl
theorem Zan {x : SW} {u : Int} {rs : VVal} {y : Nat} (H : Ze) (ws : List (BitVec 64)) (a : List Nat) (ha : Pat a) (hw : a.length ≤ ws.length) (hn : ws.length ≤ 1000000) : F (psys x) 98 [huP u (fzW ws) rs y, fzN a] H fun v G => v = fzW (Z6 ws a a.length) ∧ G = H := by
 refine Zp Tryd.func98 rfl u44 rfl ?_
 refine Zc (Za (Lk u44 (.slice none 0 0 true 0) ?_))
 refine Zd (Zb (Zc (Za (Lk u44 (.slice none 0 0 true 0) ?_))))
 refine Zd (Zb (Zc (Zc (Za (Lm u44 ?_)))))
 refine Lo u44 rfl ?_
 refine Lo u44 (Z4 (VVal.int .i64 0) (.inl rfl) rfl) ?_
 refine Zd (Zb (Zg (Zr (mk 44 17592186042590) (env' := u44) rfl ?_)))
 refine Zw (fun (⟨k, lv⟩ : Nat × VVal) => a.length - k) (fun (⟨k, lv⟩ : Nat × VVal) => [(5, lv), (10, iI (k : Nat))]) (fun (⟨k, lv⟩ : Nat × VVal) G => (k ≤ a.length) ∧ ∃ X, G = H ++ X ∧ LV H.length 1 X lv ((Z6 ws a k).map iW) (Z6 ws a k).length) ⟨0, _⟩ rfl ?_ ?_
 ·refine ⟨?_, ⟨_, rfl, LV.nil _ _ _⟩⟩
  exact Nat.zero_le _
 rintro ⟨k, lv⟩ _ ⟨hk, ⟨X, rfl, hl⟩⟩
 refine ZL (env' := u44) rfl ?_
 refine Zc (Za (Lo u44 rfl ?_))
 refine Zd (Zb (Zc (Zi _ rfl (fun hc1 => ?_) (fun hc1 => ?_))))
 ·try simp only [qB, qN] at hc1
  refine Zh (Zb (Zc (Zg (Zc (Za (Lm u44 ?_))))))
  refine Lo u44 (W18 rfl rfl rfl rfl rfl rfl rfl) ?_
  refine Lo u44 (W3h rfl rfl rfl rfl) ?_
  refine La u44 ?_
  refine La u44 ?_
  refine Zd (Zb (Zc (Za (Lm u44 ?_))))
  refine Lm u44 ?_
  refine Lo u44 (v_len rfl rfl rfl rfl hl) ?_
  refine Lo u44 rfl ?_
  refine Zd (Zb (Zi _ rfl (fun hc2 => ?_) (fun hc2 => ?_)))
  ·try simp only [qB, qN] at hc2
   refine Za (Lm u44 ?_)
   refine Lm u44 ?_
   refine Lo u44 rfl ?_
   refine Lo u44 rfl ?_
   refine Lo u44 (W3h rfl rfl rfl rfl) ?_
   refine Lm u44 ?_
   refine Lo u44 (W18 rfl rfl rfl rfl rfl rfl rfl) ?_
   refine Lo u44 (W3h rfl rfl rfl rfl) ?_
   refine Lo u44 (Zv rfl rfl (by decide) rfl) ?_
   refine X7 rfl rfl (Jx rfl rfl rfl rfl rfl rfl rfl hl rfl rfl (by decide) (by have := @YB ws a k; have := @YH a k; show (_ + 1) * 8 ≤ _ ∧ _ + 1 ≤ _; omega) (by decide)) ?_
   rintro _ _ ⟨Y1, rfl, rfl, hY1, hY2, hY3⟩
   refine Le u44 ?_
   refine La u44 ?_
   refine Zd (Zq (Zb (Za (Lo u44 (W14 rfl rfl rfl) ?_))))
   refine Lm u44 ?_
   refine Zd (Zt (mk 44 17592186042590) (env' := u44) rfl ⟨⟨k + 1, _⟩, ?_, rfl, ?_⟩)
   ·first | omega | (simp only []; omega)
   first | exact ⟨by omega, _, rfl, by rw [blkN_new (by assumption)]; exact LV.pushW hY3⟩ | exact ⟨by omega, _, rfl, by rw [blkN_old (by assumption), List.length_set]; exact LV.upW hl h0 (ZG hbX) (by rw [List.length_set])⟩
  try simp only [qB, qN] at hc2
  have hak := ha k (by omega)
  have hbl := @YB ws a k
  have hlt : a.getD k 0 < (Z6 ws a k).length := by omega
  have h0 : 0 < (Z6 ws a k).length := by omega
  obtain ⟨b, rfl, hbX⟩ := LV.pos hl h0
  refine ZK [0, 1, 2, 3, 4, 5, 6, 7, 8, 9, 10, 11, 12, 13] #[0, 0, 3, 7, 0, 16, 48, 112, 0, 496, 1008, 2047, 4095, 8191] XH3 XH3 XH3 ?_
  refine Om u44 ?_
  refine Om u44 ?_
  refine Oc u44 rfl (W18 rfl rfl rfl rfl rfl rfl rfl) ?_
  refine Ok u44 rfl (W3j rfl rfl rfl rfl) ?_
  refine Om u44 ?_
  refine Oc u44 rfl rfl ?_
  refine Oc u44 rfl rfl ?_
  refine Ok u44 rfl (W3h rfl rfl rfl rfl) ?_
  refine Om u44 ?_
  refine Oc u44 rfl (W18 rfl rfl rfl rfl rfl rfl rfl) ?_
  refine Ok u44 rfl (W3h rfl rfl rfl rfl) ?_
  refine Oc u44 rfl (Xs rfl rfl rfl) ?_
  refine Oc u44 rfl (W18 rfl rfl rfl rfl rfl rfl rfl) ?_
  refine Oo u44 .turn rfl (W3k rfl rfl rfl rfl rfl rfl rfl) ?_
  refine ZW [] XH3 (trivial) ?_
  refine Zq (Zb (Za (Lo u44 (W14 rfl rfl rfl) ?_)))
  refine Lm u44 ?_
  refine Zd (Zt (mk 44 17592186042590) (env' := u44) rfl ⟨⟨k + 1, _⟩, ?_, rfl, ?_⟩)
  ·first | omega | (simp only []; omega)
  first | exact ⟨by omega, _, rfl, by rw [blkN_new (by assumption)]; exact LV.pushW hY3⟩ | exact ⟨by omega, _, rfl, by rw [blkN_old (by assumption), List.length_set]; exact LV.upW hl h0 (ZG hbX) (by rw [List.length_set])⟩
 try simp only [qB, qN] at hc1
 refine Zz (ZA (Zu (Zy (Zb (Zc (Za (Lm u44 ?_)))))))
 refine La u44 ?_
 refine Zd (Zb (Zj (Zbm (.inr rfl) (Zf rfl rfl) (Gh.ansLV (BaseOk.refl _) hl (Yu _ _)) ?_)))
 obtain rfl : k = a.length := by omega
 exact ⟨rfl, rfl⟩
abbrev u22 {a0 a1 a2 a3 a4 a5 a6 a7 a8 a9 a10 a11 a12 a13 a14 a15 a16 a17 a18 a19 a20 a21 : VVal} : VEnv := a0 :: a1 :: a2 :: a3 :: a4 :: a5 :: a6 :: a7 :: a8 :: a9 :: a10 :: a11 :: a12 :: a13 :: a14 :: a15 :: a16 :: a17 :: a18 :: a19 :: a20 :: a21 :: []
abbrev u73 {a0 a1 a2 a3 a4 a5 a6 a7 a8 a9 a10 a11 a12 a13 a14 a15 a16 a17 a18 a19 a20 a21 a22 a23 a24 a25 a26 a27 a28 a29 a30 a31 a32 a33 a34 a35 a36 a37 a38 a39 a40 a41 a42 a43 a44 a45 a46 a47 a48 a49 a50 a51 a52 a53 a54 a55 a56 a57 a58 a59 a60 a61 a62 a63 a64 a65 a66 a67 a68 a69 a70 a71 a72 : VVal} : VEnv := a0 :: a1 :: a2 :: a3 :: a4 :: a5 :: a6 :: a7 :: a8 :: a9 :: a10 :: a11 :: a12 :: a13 :: a14 :: a15 :: a16 :: a17 :: a18 :: a19 :: a20 :: a21 :: a22 :: a23 :: a24 :: a25 :: a26 :: a27 :: a28 :: a29 :: a30 :: a31 :: a32 :: a33 :: a34 :: a35 :: a36 :: a37 :: a38 :: a39 :: a40 :: a41 :: a42 :: a43 :: a44 :: a45 :: a46 :: a47 :: a48 :: a49 :: a50 :: a51 :: a52 :: a53 :: a54 :: a55 :: a56 :: a57 :: a58 :: a59 :: a60 :: a61 :: a62 :: a63 :: a64 :: a65 :: a66 :: a67 :: a68 :: a69 :: a70 :: a71 :: a72 :: []
theorem W3n {P : Prop} (h : P := by first | exact ⟨by unfold erl; rw [hck, decide_eq_true hg2]; rfl, rfl⟩ | exact ⟨by unfold erl; rw [hck, decide_eq_false (by omega)]; rfl, rfl⟩ | exact ⟨by unfold erl; rw [hck]; rfl, rfl⟩) : P := h
theorem W3o {T : TypeId → Option VTy} {H : Ze} {op : Op} {ρ : Operand → VVal} {t : TypeId} {a : Operand} {y : VTy} {p v : VVal} (ho : op = .load t a) (ha : ρ a = p) (hy : T t = some y) (hd : Zk y.desc = false) (h : LdOk H p v := by first | exact .inl ⟨_, _, rfl, XH42⟩ | exact .inr ⟨_, _, _, _, rfl, XH35, XH42⟩) : vop T ρ H op = some (v, H) := Yv ho ha hy hd h
theorem W3p {T : TypeId → Option VTy} {H : Ze} {op : Op} {ρ : VEnv} {H' : Ze} {t : TypeId} {a : Operand} {i : Nat} {v : VVal} {y : VTy} {b off : Nat} {cs new : List VVal} (ho : op = .store t a (.tmp i)) (hv : ρ[i]? = some v) (ha : ρ.eval a = .ptr (some (b, off))) (hy : T t = some y) (hx : v.cells = some new) (hn : new.length = y.size) (h1 : new.all VVal.one = true) (hb : H[b]? = some (.cells cs true) := by exact XH35) (hl : off + new.length ≤ cs.length := by exact XH38) (hH : H.set b (.cells (Zx cs off new) true) = H' := by exact ga_n0 hs) : vop T ρ.eval H op = some (.skip, H') := Z3 ho hv ha hy hx hn h1 hb hl hH
theorem W3q {T : TypeId → Option VTy} {H : Ze} {op : Op} {ρ : Operand → VVal} {t : TypeId} {a : Operand} {y : VTy} {p v : VVal} (ho : op = .load t a) (ha : ρ a = p) (hy : T t = some y) (hd : Zk y.desc = false) (h : LdOk H p v := by first | exact .inl ⟨_, _, rfl, XH42⟩ | exact .inr ⟨_, _, _, _, rfl, by exact JE (List.getElem?_set_self hy), XH42⟩) : vop T ρ H op = some (v, H) := Yv ho ha hy hd h
theorem W3r {T : TypeId → Option VTy} {H : Ze} {op : Op} {ρ : VEnv} {H' : Ze} {t : TypeId} {a : Operand} {i : Nat} {v : VVal} {y : VTy} {b off : Nat} {cs new : List VVal} (ho : op = .store t a (.tmp i)) (hv : ρ[i]? = some v) (ha : ρ.eval a = .ptr (some (b, off))) (hy : T t = some y) (hx : v.cells = some new) (hn : new.length = y.size) (h1 : new.all VVal.one = true) (hb : H[b]? = some (.cells cs true) := by exact JE (List.getElem?_set_self hy)) (hl : off + new.length ≤ cs.length := by exact XH38) (hH : H.set b (.cells (Zx cs off new) true) = H' := by exact ga_p hy) : vop T ρ.eval H op = some (.skip, H') := Z3 ho hv ha hy hx hn h1 hb hl hH
theorem W3v {P : Prop} (h : P := by first | exact ⟨by rw [(kpK_0 (u := u) (by assumption)).1], by rw [(kpK_0 (by assumption)).2]; rfl⟩ | exact ⟨by rw [(kpK_1 (u := u) (by assumption) (all_bad (k := k) (d := r0) (by omega) (by first | assumption | exact Bool.eq_false_iff.2 ‹_›))).1], by rw [(kpK_1 (by assumption) (all_bad (k := k) (d := r0) (by omega) (by first | assumption | exact Bool.eq_false_iff.2 ‹_›))).2]; rfl⟩ | exact ⟨by rw [(kpK_2 (u := u) (by assumption) (Zco (by omega) hall)).1], by rw [(kpK_2 (by assumption) (Zco (by omega) hall)).2, ← Gz.assoc]; rfl⟩) : P := h
theorem W3w {T : TypeId → Option VTy} {H : Ze} {op : Op} {ρ : Operand → VVal} {t : TypeId} {a : Operand} {y : VTy} {p v : VVal} (ho : op = .load t a) (ha : ρ a = p) (hy : T t = some y) (hd : Zk y.desc = false) (h : LdOk H p v := by first | exact .inl ⟨_, _, rfl, by exact YT (f := fzR) (l := rss) (k := a.length - 1) [] (by omega)⟩ | exact .inr ⟨_, _, _, _, rfl, XH35, by exact YT (f := fzR) (l := rss) (k := a.length - 1) [] (by omega)⟩) : vop T ρ H op = some (v, H) := Yv ho ha hy hd h
theorem W3x {T : TypeId → Option VTy} {H : Ze} {op : Op} {ρ : Operand → VVal} {t : TypeId} {a : Operand} {y : VTy} {p : VVal} {n : Nat} {vs : List VVal} (ho : op = .load t a) (ha : ρ a = p) (hy : T t = some y) (hd : Zk y.desc = true) (hn : y.size = n) (h : XF H p n vs := by first | exact .inl ⟨_, _, rfl, XH42⟩ | exact .inr ⟨_, _, _, _, rfl, XH35, XH42⟩) : vop T ρ H op = some (.agg vs, H) := XI ho ha hy hd hn h
abbrev QR (rss : List (List Rul)) : VVal := .fsl (rss.map fzR) rss.length 1 false
theorem fzR_und (n : Nat) (l : List Rul) : (fzR l).under n = true := VVal.underL_all (n := n) (vs := l.flatMap rlB) fun v hv => by
 obtain ⟨r, _, h⟩ := List.mem_flatMap.1 hv
 simp only [List.mem_cons, List.not_mem_nil, or_false] at h
 rcases h with rfl | rfl | rfl
 ·rfl
 ·rfl
 exact VVal.underL_map fun _ => rfl
theorem XU (n : Nat) (l : List Nat) : VVal.underL n (l.map fun (m : Nat) => iI (m : Nat)) = true := VVal.underL_map fun _ => rfl
theorem ZcZ (n : Nat) (rss : List (List Rul)) : VVal.underL n (rss.map fzR) = true := VVal.underL_map fun l => fzR_und n l
theorem huUnder {H : Ze} {y : Nat} (hy : y < H.length) (u : Int) (ws : List (BitVec 64)) (rss : List (List Rul)) : (huP u (fzW ws) (QR rss) y).under H.length = true := by
 show VVal.underL _ [iI u, fzW ws, QR rss, .ptr (some (y, 0))] = true
 simp only [VVal.underL, VVal.under, YZ, Yu, ZcZ, hy, decide_true, Bool.and_true]
theorem rEarly_spec {x : SW} (H : Ze) (r : Rul) (n : Int) (l : List Int) (hl : r.steps.length ≤ 1000000) : F (psys x) 99 [.agg (rlB r), iI n, fzI l] H fun v G => v = .bool (erl r n l) ∧ G = H := by
 refine Zp Tryd.func99 rfl u22 rfl ?_
 refine Zc (Za (Lo u22 (ZJ rfl rfl rfl) ?_))
 refine Lk u22 (.bool false) ?_
 refine Zd (Zb (Zc (Za (Lm u22 ?_))))
 refine Lo u22 (W11 rfl rfl rfl rfl rfl) ?_
 refine Zs rfl rfl rfl (by exact Zbc _ _ _ (by omega)) ?_
 rintro _ _ ⟨rfl, rfl⟩
 refine Le u22 ?_
 refine Lo u22 rfl ?_
 refine Lm u22 ?_
 refine ZB 11 (env1 := u22) (env2 := u22) rfl rfl rfl (fun hg1 => ?_) (fun hg1 => ?_)
 ·try simp only [qB] at hg1
  have hck : rck n r = true := rcE_eq.1 hg1
  refine Lm u22 ?_
  refine Lo u22 rfl ?_
  refine Lm u22 ?_
  refine Lo u22 rfl ?_
  refine Lo u22 (ZM rfl rfl rfl) ?_
  refine Lm u22 ?_
  refine ZB 17 (env1 := u22) (env2 := u22) rfl rfl rfl (fun hg2 => ?_) (fun hg2 => ?_)
  ·try simp only [qB] at hg2
   refine Lo u22 (W11 rfl rfl rfl rfl rfl) ?_
   refine Lm u22 ?_
   refine Zs rfl rfl rfl (by exact keeps_spec _ _ _ (rck_kind hck) (rck_pos hck) (Nat.le_trans (rck_len hck) (by decide))) ?_
   rintro _ _ ⟨rfl, rfl⟩
   refine Le u22 ?_
   refine Lo u22 (ZM rfl rfl rfl) ?_
   refine La u22 ?_
   refine Zd (Zb (Zj (W10 (.inr rfl) (Zf rfl rfl) ?_)))
   exact W3n
  try simp only [qB] at hg2
  refine Lf u22 ?_
  refine Lf u22 ?_
  refine Lf u22 ?_
  refine Lo u22 (ZC (VVal.bool false) rfl rfl rfl) ?_
  refine La u22 ?_
  refine Zd (Zb (Zj (W10 (.inr rfl) (Zf rfl rfl) ?_)))
  exact W3n
 try simp only [qB] at hg1
 have hck : rck n r = false := Zah fun e => hg1 (rcE_eq.2 e)
 refine Lf u22 ?_
 refine Lf u22 ?_
 refine Lf u22 ?_
 refine Lf u22 ?_
 refine Lo u22 (ZC (VVal.bool false) rfl rfl rfl) ?_
 refine Lm u22 ?_
 refine Lf u22 ?_
 refine Lf u22 ?_
 refine Lf u22 ?_
 refine Lo u22 (ZC (VVal.bool false) rfl rfl rfl) ?_
 refine La u22 ?_
 refine Zd (Zb (Zj (W10 (.inr rfl) (Zf rfl rfl) ?_)))
 exact W3n
theorem rEarlyN {x : SW} (H : Ze) (r : Rul) (n : Int) (a : List Nat) (hl : r.steps.length ≤ 1000000) : F (psys x) 99 [.agg (rlB r), iI n, fzN a] H fun v G => v = .bool (erl r n (zI a)) ∧ G = H := by
 rw [fzN_is]; exact rEarly_spec H r n (zI a) hl
theorem hKeep_spec {x : SW} {u : Nat} (H : Ze) (y : Nat) (g : Gz) (hs : H[y]? = some (gaB g)) (ws : List (BitVec 64)) (rss : List (List Rul)) (a : List Nat) (ha : Pat a) (h0 : 0 < a.length) (hw : a.length ≤ ws.length) (hn : ws.length ≤ 1000000) (hr : rss.length = ws.length) (hR : ∀ i, (rss.getD i []).length ≤ 1000000 ∧ ∀ r, r ∈ rss.getD i [] → r.steps.length ≤ 1000000) : F (psys x) 58 [huP (u : Nat) (fzW ws) (QR rss) y, fzN a] H fun v G => v = .bool (kpB ws rss a) ∧ G = H.set y (gaB (g + kpG u ws rss a)) := by
 have hy := ZG hs
 have hbl := @YB ws a a.length
 have hla := ha (a.length - 1) (by omega)
 have hsl : a.getD (a.length - 1) 0 < szP a a.length := by
  obtain ⟨m, hm⟩ : ∃ m, a.length = m + 1 := ⟨a.length - 1, by omega⟩
  rw [hm] at hla ⊢; rw [szP]; rw [Nat.add_sub_cancel] at hla ⊢; split <;> omega
 have hR1 := hR (a.length - 1)
 refine Zp Tryd.func58 rfl u73 rfl ?_
 refine Zc (Za (Lk u73 (.bool false) ?_))
 refine Zd (Zb (Zc (Za (Lm u73 ?_))))
 refine Lo u73 rfl ?_
 refine Lo u73 rfl ?_
 refine Lo u73 (W3o rfl rfl rfl rfl) ?_
 refine Lo u73 rfl ?_
 refine Lo u73 rfl ?_
 refine Lo u73 (W3o rfl rfl rfl rfl) ?_
 refine Lo u73 (XY (b := 1#64) rfl rfl rfl) ?_
 refine Lo u73 rfl ?_
 refine Lo u73 rfl ?_
 refine Lo u73 (W3p rfl rfl rfl rfl rfl rfl rfl) ?_
 refine Zd (Zb (Zc (ZK [0, 1, 2, 3, 4, 5, 6, 7, 8, 9, 10, 11, 12, 13, 14, 15] #[0, 1, 3, 7, 15, 31, 63, 0, 128, 384, 896, 1920, 4095, 8191, 16383, 32767] XH3 XH3 XH3 ?_)))
 refine Om u73 ?_
 refine Oc u73 rfl rfl ?_
 refine Oc u73 rfl rfl ?_
 refine Ok u73 rfl (W3o rfl rfl rfl rfl) ?_
 refine Oc u73 rfl rfl ?_
 refine Oc u73 rfl rfl ?_
 refine Ok u73 rfl (W3q rfl rfl rfl rfl) ?_
 refine Om u73 ?_
 refine Oc u73 rfl rfl ?_
 refine Oc u73 rfl rfl ?_
 refine Ok u73 rfl (W3o rfl rfl rfl rfl) ?_
 refine Oc u73 rfl (v_cvW rfl rfl rfl rfl rfl) ?_
 refine Oc u73 rfl (XY rfl rfl rfl) ?_
 refine Oc u73 rfl rfl ?_
 refine Oc u73 rfl rfl ?_
 refine Oo u73 .turn rfl (W3r rfl rfl rfl rfl rfl rfl rfl) ?_
 refine ZW [] XH3 (trivial) ?_
 refine Zb (Zc (Za (Lm u73 ?_)))
 refine Lm u73 ?_
 refine Zs rfl rfl rfl (by exact Zan _ _ _ ha hw hn) ?_
 rintro _ _ ⟨rfl, rfl⟩
 refine Le u73 ?_
 refine Lm u73 ?_
 refine Lo u73 rfl ?_
 refine Lo u73 (W1y rfl rfl rfl) ?_
 refine La u73 ?_
 refine La u73 ?_
 refine Zd (Zb (Zc (Zc ?_)))
 rw [show ((a.length : Nat) : Int) - 1 = ((a.length - 1 : Nat) : Int) by omega]
 refine Za (Lm u73 ?_)
 refine Lm u73 ?_
 refine Lm u73 ?_
 refine Lo u73 (W18 rfl rfl rfl rfl rfl rfl rfl) ?_
 refine Lo u73 (W3o rfl rfl rfl rfl) ?_
 refine Lo u73 (W18 rfl rfl rfl rfl rfl rfl rfl) ?_
 refine Lo u73 (W3o rfl rfl rfl rfl) ?_
 refine Lo u73 rfl ?_
 refine Zd (Zb (Zi _ rfl (fun hc1 => ?_) (fun hc1 => ?_)))
 ·try simp only [qB, qN] at hc1
  refine Zc (Za (Lk u73 (.bool false) ?_))
  refine Zd (Zb (Zj (Zl (W3e (.inr rfl) (Zf rfl rfl) ?_))))
  exact W3v
 try simp only [qB, qN] at hc1
 refine Zh (Zb (Zc (Zc (Za (Lm u73 ?_)))))
 refine Lo u73 rfl ?_
 refine Lo u73 rfl ?_
 refine Lo u73 (W3o rfl rfl rfl rfl) ?_
 refine Lm u73 ?_
 refine Lo u73 (W18 rfl rfl rfl rfl rfl rfl rfl) ?_
 refine Lo u73 (W3w rfl rfl rfl rfl) ?_
 refine Lo u73 rfl ?_
 refine Lo u73 (Z4 (VVal.int .i64 0) (.inl rfl) rfl) ?_
 refine Zd (Zb (Zg (Zr (mk 73 9444606864949724053468) (env' := u73) rfl ?_)))
 refine Zw (fun (k : Nat) => (rss.getD (a.length - 1) []).length - k) (fun (k : Nat) => [(56, iI (k : Nat))]) (fun (k : Nat) G => (k ≤ (rss.getD (a.length - 1) []).length ∧ ((rss.getD (a.length - 1) []).take k).all (fun r => erl r ws.length (zI a)) = true) ∧ G = H.set y (gaB (⟨g.n + 1, g.p + u, g.e⟩ : Gz)) ++ []) 0 rfl ?_ ?_
 ·refine ⟨?_, rfl⟩
  exact ⟨Nat.zero_le _, rfl⟩
 rintro k _ ⟨⟨hk, hall⟩, rfl⟩
 refine ZL (env' := u73) rfl ?_
 refine Zc (Za (Lo u73 rfl ?_))
 refine Zd (Zb (Zc (Zi _ rfl (fun hc2 => ?_) (fun hc2 => ?_))))
 ·try simp only [qB, qN] at hc2
  refine Zh (Zb (Zc (Zg (Zc (Za (Lo u73 (W18 rfl rfl rfl rfl rfl rfl rfl) ?_))))))
  refine Lo u73 (W3x rfl rfl rfl rfl rfl) ?_
  refine Lo u73 (ZP rfl rfl) ?_
  refine Lo u73 (W13 rfl rfl rfl rfl rfl rfl rfl) ?_
  refine Zd (Zb (Zc (ZK [0, 1, 2, 3, 4, 5, 6, 7, 8] #[0, 0, 2, 6, 14, 30, 0, 127, 255] XH3 XH3 XH3 ?_)))
  refine Ok u73 rfl (W3x rfl rfl rfl rfl rfl) ?_
  refine Om u73 ?_
  refine Oc u73 rfl rfl ?_
  refine Oc u73 rfl rfl ?_
  refine Ok u73 rfl (W3o rfl rfl rfl rfl) ?_
  refine Ok u73 rfl (rfl) ?_
  refine Om u73 ?_
  refine Yd (env' := u73) rfl rfl rfl rfl rfl (by exact rEarlyN _ _ _ _ (hR1.2 _ (Y3 (by omega)))) XH8 rfl rfl ?_
  refine Oc u73 rfl rfl ?_
  refine ZW [] XH3 (trivial) ?_
  refine Zb (Zi _ rfl (fun hc3 => ?_) (fun hc3 => ?_))
  ·try simp only [qB, qN] at hc3
   refine Zc (Za (Lk u73 (.bool false) ?_))
   refine Zd (Zb (Zj (ZE (Zl (Ye (ZE (Zl (W3e (.inr rfl) (Zf rfl rfl) ?_))))))))
   exact W3v
  try simp only [qB, qN] at hc3
  refine Zh (Zq (Zb (Za (Lo u73 (W14 rfl rfl rfl) ?_))))
  refine Lm u73 ?_
  refine Zd (JG (mk 73 9444606864949724053468) (env' := u73) rfl (Gh.dropTo (L := []) (X := [_]) 0 rfl (BaseOk.set (BaseOk.refl _) _ rfl) (by first | (simp [VVal.underL, VVal.under, YZ]; done) | (simp [VVal.underL, VVal.under, YZ, ZcZ, Yu, XU, fzR_und, List.length_set, hy]; done) | (simp [VVal.underL, VVal.under, YZ]; omega)) rfl) ⟨k + 1, ?_, rfl, ?_⟩)
  ·first | omega | (simp only []; omega)
  exact ⟨⟨by omega, all_step (by omega) hall (by assumption)⟩, rfl⟩
 try simp only [qB, qN] at hc2
 refine Zz (ZA (Zu (Zy (Zb (Zc (Za (Lm u73 ?_)))))))
 refine Lm u73 ?_
 refine Zs rfl rfl rfl (by exact hfull_spec (H.set y (gaB (⟨g.n + 1, g.p + u, g.e⟩ : Gz)) ++ []) y (⟨g.n + 1, g.p + u, g.e⟩ : Gz) (Zn (List.getElem?_set_self hy)) (Z6 ws a a.length) 0#64 (by have := @YH a a.length; omega)) ?_
 rintro v _ ⟨rfl, rfl⟩; rw [Yl (by rw [List.length_set]; exact hy), List.set_set]
 refine Le u73 ?_
 refine La u73 ?_
 refine Zd (Zb (Zj (W3e (.inr rfl) (Zf rfl rfl) ?_)))
 exact W3v
theorem CloI_nil {x : SW} (H : Ze) : F (psys x) 118 [.slice none 0 0 true 0] H fun v G => v = .fsl [] 0 1 false ∧ G = H := by
 refine Zp Tryd.func118 rfl u8 rfl ?_
 refine Zc (Za (Lk u8 (.slice none 0 0 true 0) ?_))
 refine Zd (Zb (Zc (Zc (Za (Lm u8 ?_)))))
 refine Lo u8 rfl ?_
 refine Zd (Zb (ZN rfl rfl ?_))
 refine Zc (Za (Lk u8 (.slice none 0 0 true 0) ?_))
 refine Zd (Zb (Zj (Zl (Zbm (.inr rfl) (Zf rfl rfl) (Gh.ansLV (BaseOk.refl _) (LV.nil H.length 1 []) rfl) ?_))))
 exact ⟨rfl, rfl⟩
theorem rc_under (n : Nat) (row : List Nat) : VVal.underL n (rcN row) = true := VVal.underL_map fun _ => rfl
abbrev niS : VVal := .slice none 0 0 true 0
section
variable {H X : Ze} {y : Nat} {kv rv fnd : VVal} {g : Gz}
end
def wsP (p : Pb) : List (BitVec 64) := (List.range p.who.length).map (wrd p)
theorem ZT {p : Pb} : (wsP p).length = p.who.length := by unfold wsP; simp
theorem wsP_take {p : Pb} {k : Nat} (h : k < p.who.length) : (wsP p).take (k + 1) = (wsP p).take k ++ [wrd p k] := by
 rw [Yf (d := 0) (by rw [ZT]; exact h)]
 congr 2
 unfold wsP
 rw [List.getD_eq_getElem?_getD, List.getElem?_map, List.getElem?_range h]; rfl
abbrev nwB (u : Int) (n y b : Nat) (wv : VVal) (vs : List VVal) : Ze := [.dead, .cells vs true, .cells [iI u, wv, .slice (some (b, 0)) n n true 1, .ptr (some (y, 0))] true]
theorem rep1 (v : VVal) : ∀ n : Nat, ZH [v] n = List.replicate n v
 | 0 => rfl
 | n + 1 => by rw [List.replicate_succ, ← rep1 v n]; rfl
theorem vget {l : List VVal} {k : Nat} (h : k < l.length) : l[0 + k * 1]? = some (l.getD k .skip) := by
 rw [show 0 + k * 1 = k by omega, List.getD_eq_getElem?_getD, List.getElem?_eq_getElem h]; rfl
theorem rck_in {n : Int} {r : Rul} (h : rck n r = true) {s : Nat} (hs : s < r.steps.length) : 0 ≤ r.steps.getD s 0 ∧ r.steps.getD s 0 < n := by
 unfold rck at h
 rw [Bool.and_eq_true, Bool.and_eq_true] at h
 have := Xn _ _ h.2.1 _ (Jd hs)
 omega
theorem spl_v {l : List VVal} {k : Nat} {w : VVal} (h : k < l.length) : Zx l (0 + k * 1) [w] = l.set k w := by
 rw [show 0 + k * 1 = k by omega]
 unfold Zx
 rw [List.set_eq_take_append_cons_drop, if_pos h]; simp
abbrev u72 {a0 a1 a2 a3 a4 a5 a6 a7 a8 a9 a10 a11 a12 a13 a14 a15 a16 a17 a18 a19 a20 a21 a22 a23 a24 a25 a26 a27 a28 a29 a30 a31 a32 a33 a34 a35 a36 a37 a38 a39 a40 a41 a42 a43 a44 a45 a46 a47 a48 a49 a50 a51 a52 a53 a54 a55 a56 a57 a58 a59 a60 a61 a62 a63 a64 a65 a66 a67 a68 a69 a70 a71 : VVal} : VEnv := a0 :: a1 :: a2 :: a3 :: a4 :: a5 :: a6 :: a7 :: a8 :: a9 :: a10 :: a11 :: a12 :: a13 :: a14 :: a15 :: a16 :: a17 :: a18 :: a19 :: a20 :: a21 :: a22 :: a23 :: a24 :: a25 :: a26 :: a27 :: a28 :: a29 :: a30 :: a31 :: a32 :: a33 :: a34 :: a35 :: a36 :: a37 :: a38 :: a39 :: a40 :: a41 :: a42 :: a43 :: a44 :: a45 :: a46 :: a47 :: a48 :: a49 :: a50 :: a51 :: a52 :: a53 :: a54 :: a55 :: a56 :: a57 :: a58 :: a59 :: a60 :: a61 :: a62 :: a63 :: a64 :: a65 :: a66 :: a67 :: a68 :: a69 :: a70 :: a71 :: []
theorem W46 {T : TypeId → Option VTy} {H : Ze} {op : Op} {ρ : Operand → VVal} {t : TypeId} {a : Operand} {y : VTy} {p v : VVal} (ho : op = .load t a) (ha : ρ a = p) (hy : T t = some y) (hd : Zk y.desc = false) (h : LdOk H p v := by first | exact .inl ⟨_, _, rfl, by exact vget (by rw [hlen]; exact hi)⟩ | exact .inr ⟨_, _, _, _, rfl, by exact ZcR rfl rfl, by exact vget (by rw [hlen]; exact hi)⟩) : vop T ρ H op = some (v, H) := Yv ho ha hy hd h
theorem W47 {T : TypeId → Option VTy} {H : Ze} {op : Op} {ρ : VEnv} {H' : Ze} {t : TypeId} {a : Operand} {i : Nat} {v : VVal} {y : VTy} {b off : Nat} {cs new : List VVal} (ho : op = .store t a (.tmp i)) (hv : ρ[i]? = some v) (ha : ρ.eval a = .ptr (some (b, off))) (hy : T t = some y) (hx : v.cells = some new) (hn : new.length = y.size) (h1 : new.all VVal.one = true) (hb : H[b]? = some (.cells cs true) := by exact ZcR rfl rfl) (hl : off + new.length ≤ cs.length := by show 0 + _ * 1 + 1 ≤ vs.length; omega) (hH : H.set b (.cells (Zx cs off new) true) = H' := by exact (setB rfl (show 1 < 3 from by decide)).trans (by show H ++ List.set _ 1 (VBlk.cells (Zx vs (0 + ((p.rules.getD m r0).steps.getD s 0).toNat * 1) [_]) true) ++ _ = _; rw [spl_v (by rw [hlen]; exact hi)])) : vop T ρ.eval H op = some (.skip, H') := Z3 ho hv ha hy hx hn h1 hb hl hH
theorem W48 {S : V.Sys} {H : Ze} {fn : Func} {ex : Exit} {env : VEnv} {B L : Ze} {v : VVal} {R : VVal → Ze → Prop} (hx : ex = .normal ∨ ex = .ret) (hv : ZX S.C.T env (B ++ L) fn.results = some v) (h : R v B) (hB : BaseOk H B := by exact BaseOk.refl _) (hu : v.under H.length = true := by exact huUnder hy _ _ _) : fnK S fn H R ex env (B ++ L) := Xk hx hv hB hu h
theorem New_spec {x : SW} (H : Ze) (p : Pb) (y : Nat) (hy : y < H.length) (g : Go.V.Good p) : F (psys x) 56 [.agg (pbB p), .ptr (some (y, 0))] H fun v G => v = huP p.users (fzW (wsP p)) (QR (Y8 p)) y ∧ G = H := by
 have g1 := g.n12; have g3 := g.r32; have g5 := g.fx
 have gs := fun r hr => rck_len (g.ru r hr)
 refine Zp Tryd.func56 rfl u72 rfl ?_
 refine Zc (Za (Lo u72 (ZJ rfl rfl rfl) ?_))
 refine Lk u72 (.ptr none) ?_
 refine Zd (Zb (Zc (Ym (Gh.freezePtrL (cs := pbB p) 2 0 rfl rfl rfl) ?_)))
 refine ZK [0, 1, 2, 3, 4, 5, 6, 7, 8, 9] #[0, 1, 0, 4, 12, 28, 0, 127, 255, 511] XH3 XH3 XH3 ?_
 refine Oc u72 rfl rfl ?_
 refine Ok u72 rfl (W1p rfl rfl rfl rfl) ?_
 refine Oc u72 rfl rfl ?_
 refine Ok u72 rfl (W1p rfl rfl rfl rfl) ?_
 refine Ok u72 rfl (rfl) ?_
 refine Oo u72 .grow rfl (Yz rfl rfl rfl rfl rfl (by decide) ⟨by omega, Int.le_refl _, by show (p.who.length : Int) * (24 : Nat) ≤ _; omega, by omega⟩) ?_
 refine Om u72 ?_
 refine Oc u72 rfl rfl ?_
 refine Oo u72 .grow rfl (ZJ rfl rfl rfl) ?_
 refine Oc u72 rfl (Yo (.inr rfl) rfl) ?_
 refine ZW [] XH3 (trivial) ?_
 refine Zb (Zc (Zc (Za (Lo u72 rfl ?_))))
 refine Lo u72 (W1p rfl rfl rfl rfl) ?_
 refine Lo u72 rfl ?_
 refine Lo u72 (Z4 (VVal.int .i64 0) (.inl rfl) rfl) ?_
 refine Zd (Zb (Zg (Zr (mk 72 4722366482869632630747) (env' := u72) rfl ?_)))
 refine Zw (fun (k : Nat) => p.who.length - k) (fun (k : Nat) => [(23, iI (k : Nat))]) (fun (k : Nat) G => (k ≤ p.who.length) ∧ ∃ wv X, G = (H ++ nwB p.users p.who.length y (H.length + 1) wv (List.replicate p.who.length niS)) ++ X ∧ LV (H.length + 3) 1 X wv (((wsP p).take k).map iW) ((wsP p).take k).length) 0 rfl ?_ ?_
 ·refine ⟨?_, ⟨_, [], by rw [List.append_nil, ← rep1]; rfl, LV.nil _ _ _⟩⟩
  exact Nat.zero_le _
 rintro k _ ⟨hk, ⟨wv, X, rfl, hl⟩⟩
 refine ZL (env' := u72) rfl ?_
 refine Zc (Za (Lo u72 rfl ?_))
 refine Zd (Zb (Zc (Zi _ rfl (fun hc1 => ?_) (fun hc1 => ?_))))
 ·try simp only [qB, qN] at hc1
  refine Zh (Zb (Zc (Zg (Zc (Za (Lm u72 ?_))))))
  refine La u72 ?_
  refine Zd (Zb (ZK [0, 1, 2, 3, 4, 5, 6, 7, 8, 9, 10, 11, 12] #[0, 0, 2, 6, 14, 0, 0, 96, 224, 510, 1023, 2047, 4095] XH3 XH3 XH3 ?_))
  refine Om u72 ?_
  refine Om u72 ?_
  refine Oc u72 rfl rfl ?_
  refine Oc u72 rfl rfl ?_
  refine Yb (env' := u72) (x := .look _ _) rfl rfl rfl (W1p rfl rfl rfl rfl) rfl rfl rfl ?_
  refine Ok u72 rfl (W1t rfl rfl rfl rfl rfl) ?_
  refine Om u72 ?_
  refine Yd (env' := u72) rfl rfl rfl rfl rfl (by exact Zdl _ _ _ (by omega) (by omega)) XH8 rfl rfl ?_
  refine Oo u72 .grow rfl (Zv rfl rfl (by decide) rfl) ?_
  refine O_opX .turn rfl rfl rfl (Xt rfl rfl rfl rfl rfl rfl rfl (by simp) hl rfl rfl (by decide) XH22 (by decide)) rfl rfl ?_
  rintro _ _ ⟨Y1, rfl, rfl, hY1, hY2, hY3⟩
  refine Zbr (env' := u72) rfl ?_
  refine Oc u72 rfl rfl ?_
  refine Oc u72 rfl rfl ?_
  refine Oo u72 .turn rfl (W13 rfl rfl rfl rfl rfl rfl rfl) ?_
  refine ZW [_] (by rfl) (And.intro (And.intro (W1p rfl rfl rfl rfl) (W1p rfl rfl rfl rfl)) trivial) ?_
  refine Zq (Zb (Za (Lo u72 (W14 rfl rfl rfl) ?_)))
  refine Lm u72 ?_
  refine Zd (Zt (mk 72 4722366482869632630747) (env' := u72) rfl ⟨k + 1, ?_, rfl, ?_⟩)
  ·first | omega | (simp only []; omega)
  exact ⟨by omega, _, _, rfl, by rw [wsP_take (by omega)]; exact LV.pushW hY3⟩
 try simp only [qB, qN] at hc1
 refine Zz (ZA (Zu (Zy (Zb (Zc (Zc ?_))))))
 obtain rfl : k = p.who.length := by omega
 rw [List.take_of_length_le (by rw [ZT]; omega)] at hl
 refine Ji 2 1 hl rfl rfl (by simp) fun X1 _ _ => ?_
 refine Za (Lo u72 rfl ?_)
 refine Lo u72 (W1p rfl rfl rfl rfl) ?_
 refine Lo u72 rfl ?_
 refine Lo u72 (Z4 (VVal.int .i64 0) (.inl rfl) rfl) ?_
 refine Zd (Zb (Zg (Zr (mk 72 4722366475173063819231) (env' := u72) rfl ?_)))
 refine Zw (fun (m : Nat) => p.rules.length - m) (fun (m : Nat) => [(42, iI (m : Nat))]) (fun (m : Nat) G => (m ≤ p.rules.length) ∧ ∃ Z vs, G = (H ++ nwB p.users p.who.length y (H.length + 1) (fzW (wsP p)) vs) ++ Z ∧ RW rlB 3 (H.length + 3) Z vs (addR p.who.length p.rules m)) 0 rfl ?_ ?_
 ·refine ⟨?_, ⟨_, _, rfl, RW.init⟩⟩
  exact Nat.zero_le _
 rintro m _ ⟨hm, ⟨Z, vs, rfl, hr⟩⟩
 refine ZL (env' := u72) rfl ?_
 refine Zc (Za (Lo u72 rfl ?_))
 refine Zd (Zb (Zc (Zi _ rfl (fun hc2 => ?_) (fun hc2 => ?_))))
 ·try simp only [qB, qN] at hc2
  refine Zh (Zb (Zc (Zg (Zc (Za (Lo u72 (W18 rfl rfl rfl rfl rfl rfl rfl) ?_))))))
  refine Lo u72 (W1t rfl rfl rfl rfl rfl) ?_
  refine Lo u72 (ZP rfl rfl) ?_
  refine Lo u72 (W13 rfl rfl rfl rfl rfl rfl rfl) ?_
  refine Zd (Zb (Zc (Ym (Gh.freezeEnd (cs := rlB (p.rules.getD m r0)) 8 rfl rfl) ?_)))
  refine Za (Lo u72 rfl ?_)
  refine Lo u72 (W1p rfl rfl rfl rfl) ?_
  refine Lo u72 rfl ?_
  refine Lo u72 (Z4 (VVal.int .i64 0) (.inl rfl) rfl) ?_
  refine Zd (Zb (Zg (Zr (mk 72 4722365490010645331679) (env' := u72) rfl ?_)))
  refine Zw (fun (s : Nat) => (p.rules.getD m r0).steps.length - s) (fun (s : Nat) => [(49, iI (s : Nat))]) (fun (s : Nat) G => (s ≤ (p.rules.getD m r0).steps.length) ∧ ∃ Z vs, G = (H ++ nwB p.users p.who.length y (H.length + 1) (fzW (wsP p)) vs) ++ Z ∧ RW rlB 3 (H.length + 3) Z vs (ZcF (p.rules.getD m r0) (addR p.who.length p.rules m) s)) 0 rfl ?_ ?_
  ·refine ⟨?_, ⟨_, vs, rfl, hr.app _⟩⟩
   exact Nat.zero_le _
  rintro s _ ⟨hs, ⟨Z, vs, rfl, hr⟩⟩
  refine ZL (env' := u72) rfl ?_
  refine Zc (Za (Lo u72 rfl ?_))
  refine Zd (Zb (Zc (Zi _ rfl (fun hc3 => ?_) (fun hc3 => ?_))))
  ·try simp only [qB, qN] at hc3
   refine Zh (Zb (Zc (Zg (Zc (Za (Lo u72 (W18 rfl rfl rfl rfl rfl rfl rfl) ?_))))))
   refine Lo u72 (W1p rfl rfl rfl rfl) ?_
   refine La u72 ?_
   refine Zd (Zb ?_)
   have hin := rck_in (g.ru _ (Y3 (l := p.rules) (k := m) (by omega))) (s := s) (by omega)
   have hlen := hr.len
   have hi : ((p.rules.getD m r0).steps.getD s 0).toNat < (ZcF (p.rules.getD m r0) (addR p.who.length p.rules m) s).length := by rw [ZaC, addR_len]; omega
   have hv9 := hr.lv _ hi
   have hb1 := @Zcp (p.rules.getD m r0) (addR p.who.length p.rules m) ((p.rules.getD m r0).steps.getD s 0).toNat s
   have hb2 := Zcq (n := p.who.length) (i := ((p.rules.getD m r0).steps.getD s 0).toNat) gs (m := m) (by omega)
   have hb3 := gs _ (Y3 (l := p.rules) (k := m) (by omega))
   refine ZK [0, 1, 2, 3, 4, 5, 6, 7, 8, 9, 10, 11, 12, 13, 14, 15, 16] #[0, 1, 3, 7, 0, 0, 32, 96, 224, 0, 992, 2016, 0, 4096, 16352, 32767, 65535] XH3 XH3 XH3 ?_
   refine Om u72 ?_
   refine Oc u72 rfl rfl ?_
   refine Oc u72 rfl rfl ?_
   refine Yb (env' := u72) (x := .look _ _) rfl rfl rfl (W1p rfl rfl rfl rfl) rfl rfl rfl ?_
   refine Om u72 ?_
   refine Om u72 ?_
   refine Oc u72 rfl rfl ?_
   refine Oc u72 rfl rfl ?_
   refine Ok u72 rfl (W1p rfl rfl rfl rfl) ?_
   refine Om u72 ?_
   refine Oc u72 rfl (W1g rfl rfl rfl rfl rfl rfl rfl) ?_
   refine Ok u72 rfl (W46 rfl rfl rfl rfl) ?_
   refine Ok u72 rfl (W1t rfl rfl rfl rfl rfl) ?_
   refine Oo u72 .grow rfl (Zv rfl rfl (by decide) rfl) ?_
   refine O_opXI (fun _ G => .turn _ G) rfl rfl rfl (Xt rfl rfl rfl rfl rfl rfl rfl (by simp) hv9 rfl rfl (by decide) (by show (_ + 1) * 40 ≤ _ ∧ _ + 1 ≤ _; omega) (by decide)) (fun _ _ => rfl) ?_
   rintro _ _ ⟨Y1, rfl, rfl, hY1, hY2, hY3⟩
   refine Zbr (env' := u72) rfl ?_
   refine Oc u72 rfl (W1g rfl rfl rfl rfl rfl rfl rfl) ?_
   refine Oo u72 .turn rfl (W47 rfl rfl rfl rfl rfl rfl rfl) ?_
   refine ZW [_] (by rfl) (And.intro (And.intro (W1p rfl rfl rfl rfl) (W1p rfl rfl rfl rfl)) trivial) ?_
   refine Zq (Zb (Za (Lo u72 (W14 rfl rfl rfl) ?_)))
   refine Lm u72 ?_
   refine Zd (Zt (mk 72 4722365490010645331679) (env' := u72) rfl ⟨s + 1, ?_, rfl, ?_⟩)
   ·first | omega | (simp only []; omega)
   exact ⟨by omega, _, _, rfl, RW.step hr hi hY2 hY3⟩
  try simp only [qB, qN] at hc3
  refine Zz (ZA (Zu (Zy (Zq (Zb (Za (Lo u72 (W14 rfl rfl rfl) ?_)))))))
  refine Lm u72 ?_
  refine Zd (Zt (mk 72 4722366475173063819231) (env' := u72) rfl ⟨m + 1, ?_, rfl, ?_⟩)
  ·first | omega | (simp only []; omega)
  (obtain rfl : s = (p.rules.getD m r0).steps.length := by omega); exact ⟨by omega, Z, vs, rfl, hr⟩
 try simp only [qB, qN] at hc2
 refine Zz (ZA (Zu (Zy (Zb (Zc ?_)))))
 obtain rfl : m = p.rules.length := by omega
 refine B_ghRW 1 hr rfl (by simp) fun Z9 => ?_
 refine Ym (Gh.cellL (l := (Y8 p).map fzR) 2 2 1 rfl rfl (by decide) rfl (Yn (by rw [List.length_map]; exact addR_len.symm)) (Nat.le_refl _)) ?_
 refine Ym (Gh.freezePtrL (cs := huC p.users (fzW (wsP p)) (.fsl ((Y8 p).map fzR) p.who.length 1 false) y) 5 2 rfl rfl rfl) ?_
 rw [show huC p.users (fzW (wsP p)) (.fsl ((Y8 p).map fzR) p.who.length 1 false) y = huC p.users (fzW (wsP p)) (QR (Y8 p)) y by unfold QR; rw [show (Y8 p).length = p.who.length from addR_len]]
 refine Za (Lm u72 ?_)
 refine La u72 ?_
 refine Zd (Zb (Zj (W48 (.inr rfl) (Zf rfl rfl) ?_)))
 exact ⟨rfl, rfl⟩
theorem W49 {S : V.Sys} {H : Ze} {fn : Func} {ex : Exit} {env : VEnv} {B L : Ze} {v : VVal} {R : VVal → Ze → Prop} (hx : ex = .normal ∨ ex = .ret) (hv : ZX S.C.T env (B ++ L) fn.results = some v) (h : R v B) (hB : BaseOk H B := by exact XH41) (hu : v.under H.length = true := by first | rfl | exact rc_under _ _) : fnK S fn H R ex env (B ++ L) := Xk hx hv hB hu h
theorem Clip_spec {x : SW} (H : Ze) (us : List Nat) : F (psys x) 152 [fzN us] H fun v G => v = .fsl (rcN us) us.length 1 true ∧ G = H := by
 refine Zp Tryd.func152 rfl u9 rfl ?_
 refine Zc (Za (Lk u9 (.slice none 0 0 true 0) ?_))
 refine Zd (Zb (Zc (Za (Lm u9 ?_))))
 refine Lm u9 ?_
 refine Lo u9 rfl ?_
 refine Lm u9 ?_
 refine Lo u9 rfl ?_
 refine Lo u9 (v_clipN rfl rfl rfl rfl rfl rfl rfl rfl) ?_
 refine La u9 ?_
 refine Zd (Zb (Zj (W49 (.inr rfl) (Zf rfl rfl) ?_)))
 exact ⟨rfl, rfl⟩
def EaP (y : Nat) (K : Bool → Ze → Prop) (A L : Ze) (v : VVal) (G : Ze) : Prop := ∃ b A1 J, v = .bool b ∧ G = A1 ++ (L ++ J) ∧ A1.length = A.length ∧ K b A1 ∧ (b = true → ∃ g1, A1[y]? = some (gaB g1))
theorem Zca {A : Ze} {y : Nat} {g : Gz} (h : A[y]? = some (gaB g)) : A.set y (gaB (g + 0)) = A := by
 rw [Gz.add_zero, ← YG h]
theorem ea_end {S : V.Sys} {l y : Nat} {b : Bool} {A1 : Ze} {K : Bool → Ze → Prop} (hk : if b = true then (∃ g1, A1[y]? = some (gaB g1)) ∧ IterP S l y [] 0 A1 K else K false A1) : K b A1 ∧ (b = true → ∃ g1, A1[y]? = some (gaB g1)) := by
 cases b with
 | false => exact ⟨hk, fun e => by cases e⟩
 | true =>
  obtain ⟨⟨g2, hg2⟩, hk⟩ := hk
  have h := hk g2 hg2
  rw [Zca hg2] at h
  exact ⟨h, fun _ => ⟨g2, hg2⟩⟩
theorem tv_cons {z : List (Gz × List Nat)} {e d : Gz} {c : VVal} {post : List (Gz × VVal)} (h : tv (z, e) = (d, c) :: post) : ∃ us z1, z = (d, us) :: z1 ∧ c = fzN us := by
 cases z with
 | nil => cases h
 | cons q z =>
  obtain ⟨d1, us⟩ := q
  have h : (d1, fzN us) :: tv (z, e) = (d, c) :: post := h
  injection h with h1 h2
  injection h1 with h3 h4
  exact ⟨us, z, by rw [h3], h4.symm⟩
theorem tv_nil {xs : List (Gz × VVal)} {z : List (Gz × List Nat)} {e : Gz} (h : xs = xs ++ tv (z, e)) : z = [] := by
 have : tv (z, e) = [] := by simpa using h
 cases z with
 | nil => rfl
 | cons q z => cases this
theorem fzN_pl {a us : List Nat} : fzN (plN a us) = .fsl (rcN (plN a us)) a.length 1 false := by
 show VVal.fsl _ (plN a us).length 1 false = _
 rw [Qc]
def leA (p : Pb) : Option (List Nat) := if pck p = 0 then fdA p.users.toNat (wsP p) (Y8 p) else none
def leT : Option (List Nat) → VVal
 | some l => .tuple [fzN l, .bool true]
 | none => .tuple [fzN [], .bool false]
theorem rssP_len {p : Pb} : (Y8 p).length = (wsP p).length := by unfold Y8; rw [addR_len, ZT]
theorem rssP_ok {p : Pb} (g : Go.V.Good p) : ∀ i, ((Y8 p).getD i []).length ≤ 1000000 ∧ ∀ r, r ∈ (Y8 p).getD i [] → r.steps.length ≤ 1000000 := fun i => by
 have g3 := g.r32; have g1 := g.n12
 have gs := fun r hr => rck_len (g.ru r hr)
 refine ⟨?_, fun r hr => ?_⟩
 ·have := Zcq (n := p.who.length) (i := i) gs (m := p.rules.length) (Nat.le_refl _)
  unfold Y8; omega
 have hin := fun r hr x hx => by
  have h := g.ru r hr
  unfold rck at h
  rw [Bool.and_eq_true, Bool.and_eq_true] at h
  have := Xn _ _ h.2.1 x hx
  exact (show 0 ≤ x ∧ x < (p.who.length : Int) by omega)
 have := (ZaD (n := p.who.length) (rs := p.rules) (r' := r) (i := i) hin (m := p.rules.length) (Nat.le_refl _)).1 hr
 rw [List.take_length] at this
 have := gs r this.1; omega
theorem New_N {x : SW} (H : Ze) (p : Pb) (y : Nat) (hy : y < H.length) (g : Go.V.Good p) : F (psys x) 56 [.agg (pbB p), .ptr (some (y, 0))] H fun v G => v = huP (p.users.toNat : Nat) (fzW (wsP p)) (QR (Y8 p)) y ∧ G = H := by
 rw [Int.toNat_of_nonneg g.u0]; exact New_spec H p y hy g
theorem brk_none {rs : List Rul} {l : List Int} : brk rs l = [] ↔ ∀ r, r ∈ rs → hld r l = true := by
 refine Xh (P := fun rs => brk rs l = [] ↔ ∀ r, r ∈ rs → hld r l = true) ⟨fun _ r h => (by cases h), fun _ => rfl⟩ (fun rs r ih => ?_) rs
 rw [brk_app, List.append_eq_nil_iff, ih]
 constructor
 ·rintro ⟨h1, h2⟩ x hx
  rcases List.mem_append.1 hx with hx | hx
  ·exact h1 x hx
  rw [List.mem_singleton] at hx; subst hx
  by_cases e : hld x l = true
  ·exact e
  rw [if_neg e] at h2; cases h2
 intro h
 exact ⟨fun x hx => h x (List.mem_append_left _ hx), by rw [if_pos (h r (by simp))]⟩
theorem flU_none {p : Pb} {l : List Int} : ∀ {n : Nat}, flU p l n = [] ↔ ∀ i, i < n → flk p.users (p.fixed.getD i 0) (p.who.getD i 0) (l.getD i 0) = 0
 | 0 => ⟨fun _ i h => absurd h (by omega), fun _ => rfl⟩
 | n + 1 => by
  rw [flU_succ, List.append_eq_nil_iff, flU_none]
  constructor
  ·rintro ⟨h1, h2⟩ i hi
   by_cases e : i = n
   ·subst e
    by_cases e2 : flk p.users (p.fixed.getD i 0) (p.who.getD i 0) (l.getD i 0) = 0
    ·exact e2
    rw [if_neg e2] at h2; cases h2
   exact h1 i (by omega)
  intro h; exact ⟨fun i hi => h i (by omega), by rw [if_pos (h n (by omega))]⟩
theorem hld_erl {r : Rul} {l : List Int} {n : Int} (h : (l.length : Int) = n) : hld r l = erl r n l := by
 subst h; unfold hld erl; rw [decide_eq_true (Int.le_refl _), Bool.true_and]
theorem hds_iff {p : Pb} {us : List Int} : hds p us = true ↔ Go.V.Good p ∧ us.length = p.who.length ∧ (∀ i, i < p.who.length → myB p i (us.getD i 0) = true) ∧ ∀ r, r ∈ p.rules → erl r p.who.length us = true := by
 unfold hds
 rw [Bool.and_eq_true, decide_eq_true_eq, decide_eq_true_eq, pck_good]
 constructor
 ·rintro ⟨g, h⟩
  by_cases hl : us.length = p.who.length
  ·rw [flw_in hl] at h
   have h1 := List.append_eq_nil_iff.1 h
   have h2 : brk p.rules us = [] := by
    have := h1.2; unfold flR at this; exact List.map_eq_nil_iff.1 this
   refine ⟨g, hl, fun i hi => ?_, fun r hr => by rw [← hld_erl (by rw [hl])]; exact brk_none.1 h2 r hr⟩
   have := flU_none.1 h1.1 i (by omega)
   show (decide _ && _) = true
   rw [has_flk g hi, decide_eq_true this]
  rw [flw_len hl] at h; cases h
 rintro ⟨g, hl, h1, h2⟩
 refine ⟨g, ?_⟩
 rw [flw_in hl, brk_none.2 fun r hr => by rw [hld_erl (n := p.who.length) (by rw [hl])]; exact h2 r hr]
 rw [show flR [] = [] from rfl, List.append_nil]
 refine flU_none.2 fun i hi => ?_
 have h3 : (decide _ && _) = true := h1 i (by omega)
 rw [has_flk g (by omega)] at h3
 exact of_decide_eq_true h3
theorem ZaE {p : Pb} {i : Nat} (h : i < p.who.length) : (wsP p).getD i 0 = wrd p i := by
 unfold wsP; simp [List.getD_eq_getElem?_getD, h]
theorem Zcv {ns : List Nat} {i : Nat} (h : i < ns.length) : (zI ns).getD i 0 = (ns.getD i 0 : Nat) := by
 unfold zI; simp [List.getD_eq_getElem?_getD, h]
theorem myB_nat {p : Pb} {i n : Nat} : myB p i (n : Nat) = true ↔ (wrd p i).getLsbD n = true := by
 unfold myB
 rw [Bool.and_eq_true, decide_eq_true_eq, Int.toNat_natCast]
 exact ⟨fun h => h.2, fun h => ⟨by have := BitVec.lt_of_getLsbD h; omega, h⟩⟩
theorem hds_plan {p : Pb} {ns : List Nat} : hds p (zI ns) = true ↔ Go.V.Good p ∧ PlanN (wsP p) p.rules ns := by
 rw [hds_iff, Zbh]
 constructor
 ·rintro ⟨g, hl, h1, h2⟩
  refine ⟨g, by rw [ZT]; exact hl, fun i hi => ?_, fun r hr => by rw [ZT]; exact h2 r hr⟩
  rw [ZT] at hi
  have := h1 i hi
  rw [Zcv (by omega), myB_nat] at this
  rw [ZaE hi]; exact this
 rintro ⟨g, h⟩
 have hl := h.len
 rw [ZT] at hl
 refine ⟨g, hl, fun i hi => ?_, fun r hr => by have := h.rul r hr; rw [ZT] at this; exact this⟩
 have := h.may i (by rw [ZT]; exact hi)
 rw [ZaE hi] at this
 rw [Zcv (by omega), myB_nat]; exact this
theorem hds_nat {p : Pb} {us : List Int} (h : hds p us = true) : us = zI (us.map Int.toNat) := by
 obtain ⟨g, hl, h1, _⟩ := hds_iff.1 h
 unfold zI
 rw [List.map_map]
 apply List.ext_getElem (by simp)
 intro i h2 h3
 have := h1 i (by omega)
 unfold myB at this
 rw [Bool.and_eq_true, decide_eq_true_eq, List.getD_eq_getElem?_getD, List.getElem?_eq_getElem h2] at this
 have h4 : 0 ≤ us[i] := this.1.1
 simp only [List.getElem_map, Function.comp]; omega
theorem leA_some {p : Pb} {l : List Nat} (h : leA p = some l) : hds p (zI l) = true := by
 unfold leA at h
 split at h
 ·rename_i hp
  have g := pck_good.1 hp
  refine hds_plan.2 ⟨g, ?_⟩
  unfold Y8 at h
  rw [← ZT] at h
  exact fd_some (fun r hr => by rw [ZT]; exact g.ru r hr) h
 cases h
theorem leA_none {p : Pb} (h : leA p = none) (us : List Int) : hds p us = false := by
 rw [Bool.eq_false_iff]
 intro hd
 have hn := hds_nat hd
 rw [hn] at hd
 obtain ⟨g, hp⟩ := hds_plan.1 hd
 unfold leA at h
 rw [if_pos (pck_good.2 g)] at h
 unfold Y8 at h
 rw [← ZT] at h
 exact fd_none (fun r hr => by rw [ZT]; exact g.ru r hr) h _ hp
theorem leA_can {p : Pb} {us : List Int} (h : hds p us = true) : (leA p).isSome = true := by
 cases e : leA p with
 | some l => rfl
 | none => rw [leA_none e us] at h; cases h
theorem leT_eq (o : Option (List Nat)) : ∃ l ok, leT o = .tuple [fzN l, .bool ok] ∧ (ok = true → o = some l) ∧ (ok = false → l = [] ∧ o = none) := by
 cases o with
 | some l => exact ⟨l, true, rfl, fun _ => rfl, fun e => (by cases e)⟩
 | none => exact ⟨[], false, rfl, fun e => (by cases e), fun _ => ⟨rfl, rfl⟩⟩
abbrev u24 {a0 a1 a2 a3 a4 a5 a6 a7 a8 a9 a10 a11 a12 a13 a14 a15 a16 a17 a18 a19 a20 a21 a22 a23 : VVal} : VEnv := a0 :: a1 :: a2 :: a3 :: a4 :: a5 :: a6 :: a7 :: a8 :: a9 :: a10 :: a11 :: a12 :: a13 :: a14 :: a15 :: a16 :: a17 :: a18 :: a19 :: a20 :: a21 :: a22 :: a23 :: []
abbrev u26 {a0 a1 a2 a3 a4 a5 a6 a7 a8 a9 a10 a11 a12 a13 a14 a15 a16 a17 a18 a19 a20 a21 a22 a23 a24 a25 : VVal} : VEnv := a0 :: a1 :: a2 :: a3 :: a4 :: a5 :: a6 :: a7 :: a8 :: a9 :: a10 :: a11 :: a12 :: a13 :: a14 :: a15 :: a16 :: a17 :: a18 :: a19 :: a20 :: a21 :: a22 :: a23 :: a24 :: a25 :: []
abbrev u27 {a0 a1 a2 a3 a4 a5 a6 a7 a8 a9 a10 a11 a12 a13 a14 a15 a16 a17 a18 a19 a20 a21 a22 a23 a24 a25 a26 : VVal} : VEnv := a0 :: a1 :: a2 :: a3 :: a4 :: a5 :: a6 :: a7 :: a8 :: a9 :: a10 :: a11 :: a12 :: a13 :: a14 :: a15 :: a16 :: a17 :: a18 :: a19 :: a20 :: a21 :: a22 :: a23 :: a24 :: a25 :: a26 :: []
theorem W4e {T : TypeId → Option VTy} {H : Ze} {op : Op} {ρ : Operand → VVal} {t : TypeId} {a : Operand} {y : VTy} {p v : VVal} (ho : op = .load t a) (ha : ρ a = p) (hy : T t = some y) (hd : Zk y.desc = false) (h : LdOk H p v := by first | exact .inl ⟨_, _, rfl, by first | rfl | exact YT (α := BitVec 64) 0 (by omega)⟩ | exact .inr ⟨_, _, _, _, rfl, XH35, by first | rfl | exact YT (α := BitVec 64) 0 (by omega)⟩) : vop T ρ H op = some (v, H) := Yv ho ha hy hd h
theorem W4g {P : Prop} (h : P := by first | exact (decide_eq_false (fun e => by subst e; first | exact absurd rfl (by assumption) | simp at *)).symm | exact decide_eq_decide.2 (by obtain ⟨a1, a2, a3, ⟨⟩⟩ := a; obtain ⟨b1, b2, b3, ⟨⟩⟩ := b; simp_all [Rul.kind, Rul.k, Rul.steps])) : P := h
theorem kInts_spec {x : SW} (H : Ze) (l r : List (Int)) (h1 : l.length ≤ 1000000) : F (psys x) 23 [fzI l, fzI r] H fun v G => v = .bool (decide (l = r)) ∧ G = H := by
 refine Zp Tryd.func23 rfl u26 rfl ?_
 refine Zc (Za (Lk u26 (.bool false) ?_))
 refine Zd (Zb (Zc (Zc (Za (Lm u26 ?_)))))
 refine Lo u26 rfl ?_
 refine Lm u26 ?_
 refine Lo u26 rfl ?_
 refine Lo u26 rfl ?_
 refine Zd (Zb (Zi _ rfl (fun hc1 => ?_) (fun hc1 => ?_)))
 ·try simp only [qB, qN] at hc1
  refine Zc (Za (Lk u26 (.bool false) ?_))
  refine Zd (Zb (Zj (Zl (W10 (.inr rfl) (Zf rfl rfl) ?_))))
  exact ⟨by rw [decide_eq_false (fun e => by rw [e] at hc1; omega)], rfl⟩
 try simp only [qB, qN] at hc1
 refine Zh (Zb (Zc (Zc (Za (Lk u26 (.int .i64 0) ?_)))))
 refine Zd (Zb (Zg (Zr (mk 26 67108828) (env' := u26) rfl ?_)))
 refine Zw (fun (k : Nat) => l.length - k) (fun (k : Nat) => [(5, iI (k : Nat))]) (fun (k : Nat) G => (k ≤ l.length ∧ ∀ j, j < k → l.getD j 0 = r.getD j 0) ∧ G = H ++ []) 0 rfl ?_ ?_
 ·refine ⟨?_, rfl⟩
  exact ⟨Nat.zero_le _, fun j h => by omega⟩
 rintro k _ ⟨⟨hk, hall⟩, rfl⟩
 refine ZL (env' := u26) rfl ?_
 refine Zc (Zc (Za (Lm u26 ?_)))
 refine Lm u26 ?_
 refine Lo u26 rfl ?_
 refine Lo u26 rfl ?_
 refine Zd (Zb (Zi _ rfl (fun hc2 => ?_) (fun hc2 => ?_)))
 ·try simp only [qB, qN] at hc2
  refine Zh (Zb (Zc (Zg (Zc (ZK [0, 1, 2, 3, 4, 5, 6, 7, 8] #[0, 0, 3, 7, 0, 0, 48, 112, 255] XH3 XH3 XH3 ?_)))))
  refine Om u26 ?_
  refine Om u26 ?_
  refine Oc u26 rfl (W18 rfl rfl rfl rfl rfl rfl rfl) ?_
  refine Ok u26 rfl (W21 rfl rfl rfl rfl) ?_
  refine Om u26 ?_
  refine Om u26 ?_
  refine Oc u26 rfl (W18 rfl rfl rfl rfl rfl rfl rfl) ?_
  refine Ok u26 rfl (W21 rfl rfl rfl rfl) ?_
  refine Oc u26 rfl rfl ?_
  refine ZW [] XH3 (trivial) ?_
  refine Zb (Zi _ rfl (fun hc3 => ?_) (fun hc3 => ?_))
  ·try simp only [qB, qN] at hc3
   refine Zc (Za (Lk u26 (.bool false) ?_))
   refine Zd (Zb (Zj (ZE (Zl (Ye (ZE (Zl (W10 (.inr rfl) (Zf rfl rfl) ?_))))))))
   exact ⟨by rw [decide_eq_false (fun e => by subst e; exact hc3 rfl)], rfl⟩
  try simp only [qB, qN] at hc3
  refine Zh (Zq (Zb (Za (Lm u26 ?_))))
  refine Lo u26 (W14 rfl rfl rfl) ?_
  refine La u26 ?_
  refine Zd (Zt (mk 26 67108828) (env' := u26) rfl ⟨k + 1, ?_, rfl, ?_⟩)
  ·first | omega | (simp only []; omega)
  exact ⟨⟨by omega, fun j hj => by by_cases e : j = k; (subst e; assumption); exact hall j (by omega)⟩, rfl⟩
 try simp only [qB, qN] at hc2
 refine Zz (ZA (Zu (Zy (Zb (Zc (Za (Lk u26 (.bool true) ?_)))))))
 refine Zd (Zb (Zj (W10 (.inr rfl) (Zf rfl rfl) ?_)))
 have e := ZbF (d := 0) (by omega) (fun j hj => hall j (by omega))
 exact ⟨by rw [decide_eq_true e], rfl⟩
theorem kRows_spec {x : SW} (H : Ze) (l r : List (BitVec 64)) (h1 : l.length ≤ 1000000) : F (psys x) 27 [fzW l, fzW r] H fun v G => v = .bool (decide (l = r)) ∧ G = H := by
 refine Zp Tryd.func27 rfl u26 rfl ?_
 refine Zc (Za (Lk u26 (.bool false) ?_))
 refine Zd (Zb (Zc (Zc (Za (Lm u26 ?_)))))
 refine Lo u26 rfl ?_
 refine Lm u26 ?_
 refine Lo u26 rfl ?_
 refine Lo u26 rfl ?_
 refine Zd (Zb (Zi _ rfl (fun hc1 => ?_) (fun hc1 => ?_)))
 ·try simp only [qB, qN] at hc1
  refine Zc (Za (Lk u26 (.bool false) ?_))
  refine Zd (Zb (Zj (Zl (W10 (.inr rfl) (Zf rfl rfl) ?_))))
  exact ⟨by rw [decide_eq_false (fun e => by rw [e] at hc1; omega)], rfl⟩
 try simp only [qB, qN] at hc1
 refine Zh (Zb (Zc (Zc (Za (Lk u26 (.int .i64 0) ?_)))))
 refine Zd (Zb (Zg (Zr (mk 26 67108828) (env' := u26) rfl ?_)))
 refine Zw (fun (k : Nat) => l.length - k) (fun (k : Nat) => [(5, iI (k : Nat))]) (fun (k : Nat) G => (k ≤ l.length ∧ ∀ j, j < k → l.getD j 0 = r.getD j 0) ∧ G = H ++ []) 0 rfl ?_ ?_
 ·refine ⟨?_, rfl⟩
  exact ⟨Nat.zero_le _, fun j h => by omega⟩
 rintro k _ ⟨⟨hk, hall⟩, rfl⟩
 refine ZL (env' := u26) rfl ?_
 refine Zc (Zc (Za (Lm u26 ?_)))
 refine Lm u26 ?_
 refine Lo u26 rfl ?_
 refine Lo u26 rfl ?_
 refine Zd (Zb (Zi _ rfl (fun hc2 => ?_) (fun hc2 => ?_)))
 ·try simp only [qB, qN] at hc2
  refine Zh (Zb (Zc (Zg (Zc (ZK [0, 1, 2, 3, 4, 5, 6, 7, 8] #[0, 0, 3, 7, 0, 0, 48, 112, 255] XH3 XH3 XH3 ?_)))))
  refine Om u26 ?_
  refine Om u26 ?_
  refine Oc u26 rfl (W18 rfl rfl rfl rfl rfl rfl rfl) ?_
  refine Ok u26 rfl (W4e rfl rfl rfl rfl) ?_
  refine Om u26 ?_
  refine Om u26 ?_
  refine Oc u26 rfl (W18 rfl rfl rfl rfl rfl rfl rfl) ?_
  refine Ok u26 rfl (W4e rfl rfl rfl rfl) ?_
  refine Oc u26 rfl rfl ?_
  refine ZW [] XH3 (trivial) ?_
  refine Zb (Zi _ rfl (fun hc3 => ?_) (fun hc3 => ?_))
  ·try simp only [qB, qN] at hc3
   refine Zc (Za (Lk u26 (.bool false) ?_))
   refine Zd (Zb (Zj (ZE (Zl (Ye (ZE (Zl (W10 (.inr rfl) (Zf rfl rfl) ?_))))))))
   exact ⟨by rw [decide_eq_false (fun e => by subst e; exact hc3 rfl)], rfl⟩
  try simp only [qB, qN] at hc3
  refine Zh (Zq (Zb (Za (Lm u26 ?_))))
  refine Lo u26 (W14 rfl rfl rfl) ?_
  refine La u26 ?_
  refine Zd (Zt (mk 26 67108828) (env' := u26) rfl ⟨k + 1, ?_, rfl, ?_⟩)
  ·first | omega | (simp only []; omega)
  exact ⟨⟨by omega, fun j hj => by by_cases e : j = k; (subst e; assumption); exact hall j (by omega)⟩, rfl⟩
 try simp only [qB, qN] at hc2
 refine Zz (ZA (Zu (Zy (Zb (Zc (Za (Lk u26 (.bool true) ?_)))))))
 refine Zd (Zb (Zj (W10 (.inr rfl) (Zf rfl rfl) ?_)))
 have e := ZbF (d := 0) (by omega) (fun j hj => hall j (by omega))
 exact ⟨by rw [decide_eq_true e], rfl⟩
theorem kRule_spec {x : SW} (H : Ze) (a b : Rul) (h1 : a.steps.length ≤ 1000000) : F (psys x) 78 [.agg (rlB a), .agg (rlB b)] H fun v G => v = .bool (decide (a = b)) ∧ G = H := by
 refine Zp Tryd.func78 rfl u24 rfl ?_
 refine Zc (Za (Lo u24 (ZJ rfl rfl rfl) ?_))
 refine Lo u24 (ZJ rfl rfl rfl) ?_
 refine Lk u24 (.bool false) ?_
 refine Zd (Zb (Zc (Za (Lo u24 rfl ?_))))
 refine Lo u24 (W12 rfl rfl rfl rfl) ?_
 refine Lo u24 rfl ?_
 refine Lo u24 (W12 rfl rfl rfl rfl) ?_
 refine Lo u24 rfl ?_
 refine Lm u24 ?_
 refine ZB 10 (env1 := u24) (env2 := u24) rfl rfl rfl (fun hg1 => ?_) (fun hg1 => ?_)
 ·try simp only [qB] at hg1
  refine Lo u24 rfl ?_
  refine Lo u24 (W12 rfl rfl rfl rfl) ?_
  refine Lo u24 rfl ?_
  refine Lo u24 (W12 rfl rfl rfl rfl) ?_
  refine Lo u24 rfl ?_
  refine Lo u24 (ZM rfl rfl rfl) ?_
  refine Lm u24 ?_
  refine ZB 17 (env1 := u24) (env2 := u24) rfl rfl rfl (fun hg2 => ?_) (fun hg2 => ?_)
  ·try simp only [qB] at hg2
   refine Lo u24 rfl ?_
   refine Lo u24 (W12 rfl rfl rfl rfl) ?_
   refine Lo u24 rfl ?_
   refine Lo u24 (W12 rfl rfl rfl rfl) ?_
   refine Zs rfl rfl rfl (by exact kInts_spec _ _ _ h1) ?_
   rintro _ _ ⟨rfl, rfl⟩
   refine Le u24 ?_
   refine Lo u24 (ZM rfl rfl rfl) ?_
   refine La u24 ?_
   refine Zd (Zb (Zj (W10 (.inr rfl) (Zf rfl rfl) ?_)))
   refine ⟨congrArg VVal.bool ?_, rfl⟩
   exact W4g
  try simp only [qB] at hg2
  refine Lf u24 ?_
  refine Lf u24 ?_
  refine Lf u24 ?_
  refine Lf u24 ?_
  refine Lf u24 ?_
  refine Lo u24 (ZC (VVal.bool false) rfl rfl rfl) ?_
  refine La u24 ?_
  refine Zd (Zb (Zj (W10 (.inr rfl) (Zf rfl rfl) ?_)))
  refine ⟨congrArg VVal.bool ?_, rfl⟩
  exact W4g
 try simp only [qB] at hg1
 refine Lf u24 ?_
 refine Lf u24 ?_
 refine Lf u24 ?_
 refine Lf u24 ?_
 refine Lf u24 ?_
 refine Lo u24 (ZC (VVal.bool false) rfl rfl rfl) ?_
 refine Lm u24 ?_
 refine Lf u24 ?_
 refine Lf u24 ?_
 refine Lf u24 ?_
 refine Lf u24 ?_
 refine Lf u24 ?_
 refine Lo u24 (ZC (VVal.bool false) rfl rfl rfl) ?_
 refine La u24 ?_
 refine Zd (Zb (Zj (W10 (.inr rfl) (Zf rfl rfl) ?_)))
 refine ⟨congrArg VVal.bool ?_, rfl⟩
 exact W4g
theorem kRules_spec {x : SW} (H : Ze) (l r : List Rul) (h1 : l.length ≤ 1000000) (h2 : ∀ r, r ∈ l → r.steps.length ≤ 1000000) : F (psys x) 40 [fzR l, fzR r] H fun v G => v = .bool (decide (l = r)) ∧ G = H := by
 refine Zp Tryd.func40 rfl u27 rfl ?_
 refine Zc (Za (Lk u27 (.bool false) ?_))
 refine Zd (Zb (Zc (Zc (Za (Lm u27 ?_)))))
 refine Lo u27 rfl ?_
 refine Lm u27 ?_
 refine Lo u27 rfl ?_
 refine Lo u27 rfl ?_
 refine Zd (Zb (Zi _ rfl (fun hc1 => ?_) (fun hc1 => ?_)))
 ·try simp only [qB, qN] at hc1
  refine Zc (Za (Lk u27 (.bool false) ?_))
  refine Zd (Zb (Zj (Zl (W10 (.inr rfl) (Zf rfl rfl) ?_))))
  exact ⟨by rw [decide_eq_false (fun e => by rw [e] at hc1; omega)], rfl⟩
 try simp only [qB, qN] at hc1
 refine Zh (Zb (Zc (Zc (Za (Lk u27 (.int .i64 0) ?_)))))
 refine Zd (Zb (Zg (Zr (mk 27 134217692) (env' := u27) rfl ?_)))
 refine Zw (fun (k : Nat) => l.length - k) (fun (k : Nat) => [(5, iI (k : Nat))]) (fun (k : Nat) G => (k ≤ l.length ∧ ∀ j, j < k → l.getD j r0 = r.getD j r0) ∧ G = H ++ []) 0 rfl ?_ ?_
 ·refine ⟨?_, rfl⟩
  exact ⟨Nat.zero_le _, fun j h => by omega⟩
 rintro k _ ⟨⟨hk, hall⟩, rfl⟩
 refine ZL (env' := u27) rfl ?_
 refine Zc (Zc (Za (Lm u27 ?_)))
 refine Lm u27 ?_
 refine Lo u27 rfl ?_
 refine Lo u27 rfl ?_
 refine Zd (Zb (Zi _ rfl (fun hc2 => ?_) (fun hc2 => ?_)))
 ·try simp only [qB, qN] at hc2
  refine Zh (Zb (Zc (Zg (Zc (ZK [0, 1, 2, 3, 4, 5, 6, 7, 8, 9] #[0, 0, 3, 7, 0, 0, 48, 112, 255, 511] XH3 XH3 XH3 ?_)))))
  refine Om u27 ?_
  refine Om u27 ?_
  refine Oc u27 rfl (W18 rfl rfl rfl rfl rfl rfl rfl) ?_
  refine Ok u27 rfl (W2b rfl rfl rfl rfl rfl) ?_
  refine Om u27 ?_
  refine Om u27 ?_
  refine Oc u27 rfl (W18 rfl rfl rfl rfl rfl rfl rfl) ?_
  refine Ok u27 rfl (W2b rfl rfl rfl rfl rfl) ?_
  refine Yd (env' := u27) rfl rfl rfl rfl rfl (by exact kRule_spec _ _ _ (h2 _ (Y3 (by omega)))) XH8 rfl rfl ?_
  refine Oc u27 rfl rfl ?_
  refine ZW [] XH3 (trivial) ?_
  refine Zb (Zi _ rfl (fun hc3 => ?_) (fun hc3 => ?_))
  ·try simp only [qB, qN] at hc3
   refine Zc (Za (Lk u27 (.bool false) ?_))
   refine Zd (Zb (Zj (ZE (Zl (Ye (ZE (Zl (W10 (.inr rfl) (Zf rfl rfl) ?_))))))))
   exact ⟨by rw [decide_eq_false (fun e => by subst e; exact hc3 rfl)], rfl⟩
  try simp only [qB, qN] at hc3
  refine Zh (Zq (Zb (Za (Lm u27 ?_))))
  refine Lo u27 (W14 rfl rfl rfl) ?_
  refine La u27 ?_
  refine Zd (Zt (mk 27 134217692) (env' := u27) rfl ⟨k + 1, ?_, rfl, ?_⟩)
  ·first | omega | (simp only []; omega)
  exact ⟨⟨by omega, fun j hj => by by_cases e : j = k; (subst e; assumption); exact hall j (by omega)⟩, rfl⟩
 try simp only [qB, qN] at hc2
 refine Zz (ZA (Zu (Zy (Zb (Zc (Za (Lk u27 (.bool true) ?_)))))))
 refine Zd (Zb (Zj (W10 (.inr rfl) (Zf rfl rfl) ?_)))
 have e := ZbF (d := r0) (by omega) (fun j hj => hall j (by omega))
 exact ⟨by rw [decide_eq_true e], rfl⟩
def pw : Pb := (3, [3#64, 3#64, 4#64], [-1, -1, -1], [(1, 0, [0, 1], ())], ())
theorem leT_ok {o : Option (List Nat)} {l : List Nat} {ok : Bool} (h : leT o = .tuple [fzN l, .bool ok]) : ok = o.isSome := by
 cases o with
 | none =>
  have h : VVal.tuple [fzN [], .bool false] = .tuple [fzN l, .bool ok] := h
  simp at h; simp [h]
 | some m =>
  have h : VVal.tuple [fzN m, .bool true] = .tuple [fzN l, .bool ok] := h
  simp at h; simp [h]
theorem CloI_emp {x : SW} (H : Ze) : F (psys x) 118 [.slice none 0 0 false 0] H fun v G => v = .fsl [] 0 1 false ∧ G = H := by
 refine Zp Tryd.func118 rfl u8 rfl ?_
 refine Zc (Za (Lk u8 (.slice none 0 0 true 0) ?_))
 refine Zd (Zb (Zc (Zc (Za (Lm u8 ?_)))))
 refine Lo u8 rfl ?_
 refine Zd (Zb (Yc rfl rfl ?_))
 refine Zh (Zb (Zc (Za (Lo u8 (Zv rfl rfl (by decide) rfl) ?_))))
 refine Lm u8 ?_
 refine Lo u8 (Zby rfl rfl rfl rfl rfl rfl rfl (ZI rfl rfl) rfl rfl rfl rfl (by decide) (by decide) (by decide)) ?_
 refine ZcB (H' := H ++ [.cells [] true]) (by rw [ZO rfl]; rfl) ?_
 refine La u8 ?_
 refine Zd (Zb (Zj (Zbm (.inr rfl) (Zf rfl rfl) (Gh.fsl (j := 0) (off := 0) (len := 0) (l := []) (BaseOk.refl _) rfl rfl (Nat.le_refl _) rfl) ?_)))
 exact ⟨rfl, rfl⟩
theorem CloI_c {x : SW} (H : Ze) (l : List Int) (hne : l ≠ []) (hl : l.length ≤ 1000000) : F (psys x) 118 [fzI l] H fun v G => v = .slice (some (H.length, 0)) l.length l.length (decide (l.length = 0)) 1 ∧ G = H ++ [.cells (l.map iI) true] := by
 refine Zp Tryd.func118 rfl u8 rfl ?_
 refine Zc (Za (Lk u8 (.slice none 0 0 true 0) ?_))
 refine Zd (Zb (Zc (Zc (Za (Lm u8 ?_)))))
 refine Lo u8 (v_eqNilC rfl rfl rfl rfl rfl (fun e => hne (List.eq_nil_of_length_eq_zero e))) ?_
 refine Zd (Zb (Yc rfl rfl ?_))
 refine Zh (Zb (Zc (Za (Lo u8 (Zv rfl rfl (by decide) rfl) ?_))))
 refine Lm u8 ?_
 refine X7 rfl rfl (v_appE rfl rfl rfl rfl rfl rfl rfl rfl XH23 (Zax _) (by decide) (by show l.length * 8 ≤ _ ∧ l.length ≤ _; omega)) ?_
 rintro _ _ ⟨Z, i, rfl, rfl, hi⟩
 refine Le u8 ?_
 refine La u8 ?_
 refine Zd (Zb (Zj (Zbm (.inr rfl) (Zf rfl rfl) (Gh.pack (BaseOk.refl _) hi (Xb _ _)) ?_)))
 exact ⟨rfl, rfl⟩
theorem CloIf {x : SW} (H : Ze) (l : List Int) (hl : l.length ≤ 1000000) : F (psys x) 118 [fzI l] H fun v G => v = fzI l ∧ G = H := by
 by_cases h : l = []
 ·subst h; exact Zcs (CloI_nil H) (CloI_emp H)
 exact F.gh (CloI_c H l h hl) fun v G h => by
  obtain ⟨rfl, rfl⟩ := h
  exact ⟨_, _, Gh.fsl (j := 0) (BaseOk.refl H) rfl map_all (Nat.le_refl _) (Xb _ _), rfl, rfl⟩
abbrev u47 {a0 a1 a2 a3 a4 a5 a6 a7 a8 a9 a10 a11 a12 a13 a14 a15 a16 a17 a18 a19 a20 a21 a22 a23 a24 a25 a26 a27 a28 a29 a30 a31 a32 a33 a34 a35 a36 a37 a38 a39 a40 a41 a42 a43 a44 a45 a46 : VVal} : VEnv := a0 :: a1 :: a2 :: a3 :: a4 :: a5 :: a6 :: a7 :: a8 :: a9 :: a10 :: a11 :: a12 :: a13 :: a14 :: a15 :: a16 :: a17 :: a18 :: a19 :: a20 :: a21 :: a22 :: a23 :: a24 :: a25 :: a26 :: a27 :: a28 :: a29 :: a30 :: a31 :: a32 :: a33 :: a34 :: a35 :: a36 :: a37 :: a38 :: a39 :: a40 :: a41 :: a42 :: a43 :: a44 :: a45 :: a46 :: []
theorem W4i {T : TypeId → Option VTy} {H : Ze} {op : Op} {ρ : Operand → VVal} {t : TypeId} {a : Operand} {y : VTy} {p v : VVal} (ho : op = .load t a) (ha : ρ a = p) (hy : T t = some y) (hd : Zk y.desc = false) (h : LdOk H p v := by first | exact .inl ⟨_, _, rfl, by first | rfl | assumption⟩ | exact .inr ⟨_, _, _, _, rfl, XH35, by first | rfl | assumption⟩) : vop T ρ H op = some (v, H) := Yv ho ha hy hd h
theorem W4k {P : Prop} (h : P := by first | exact ⟨false, A2, _, rfl, rfl, hA3, hk3, fun e => by cases e⟩ | exact ⟨true, A0, _, rfl, rfl, hA0, by (have h9 := hI0; rw [ptR_end (by omega)] at h9; have h9 := h9 g1 hg1; rw [Zca hg1] at h9; exact h9), fun _ => ⟨g1, hg1⟩⟩) : P := h
theorem W4m {S : V.Sys} {H : Ze} {fn : Func} {ex : Exit} {env : VEnv} {B L : Ze} {v : VVal} {R : VVal → Ze → Prop} (hx : ex = .normal ∨ ex = .ret) (hv : ZX S.C.T env (B ++ L) fn.results = some v) (h : R v B) (hB : BaseOk H B := by exact XH41) (hu : v.under H.length = true := by show (true && (((huP (u : Nat) (fzW ws) (QR rss) y).under _ && true) && true)) = true; rw [huUnder hy]; rfl) : fnK S fn H R ex env (B ++ L) := Xk hx hv hB hu h
theorem hKeep_at {x : SW} {A Z : Ze} {u y : Nat} {ws : List (BitVec 64)} {rss : List (List Rul)} {g : Gz} (hs : A[y]? = some (gaB g)) (a : List Nat) (ha : Pat a) (h0 : 0 < a.length) (hw : a.length ≤ ws.length) (hn : ws.length ≤ 1000000) (hr : rss.length = ws.length) (hR : ∀ i, (rss.getD i []).length ≤ 1000000 ∧ ∀ r, r ∈ rss.getD i [] → r.steps.length ≤ 1000000) :
  F (psys x) 58 [huP (u : Nat) (fzW ws) (QR rss) y, fzN a] (A ++ Z) fun v G => v = .bool (kpB ws rss a) ∧ G = A.set y (gaB (g + kpG u ws rss a)) ++ Z := by
 refine (hKeep_spec _ y g (Zn hs) ws rss a ha h0 hw hn hr hR).mono ?_
 rintro v G ⟨rfl, rfl⟩
 exact ⟨rfl, Yl (ZG hs)⟩
theorem CloN {x : SW} (H : Ze) (l : List Nat) (hl : l.length ≤ 1000000) : F (psys x) 118 [fzN l] H fun v G => v = fzN l ∧ G = H := by
 rw [fzN_is]; exact CloIf H (zI l) (by rw [Zbh]; exact hl)
theorem patterns_0 {x : SW} {u y : Nat} {ws : List (BitVec 64)} {rss : List (List Rul)} (l : Nat) (hn : ws.length ≤ 1000000) (hr : rss.length = ws.length) (hR : ∀ i, (rss.getD i []).length ≤ 1000000 ∧ ∀ r, r ∈ rss.getD i [] → r.steps.length ≤ 1000000) (A L : Ze) (row : List Nat) (b : Nat) (g : Gz) (K : Bool → Ze → Prop) (hp : Pat row) (hb : b = szP row row.length) (hs : A[y]? = some (gaB g)) (hI : IterP (psys x) l y (tv (ptT (kpB ws rss) (kpG u ws rss) 0 row b)) (ptT (kpB ws rss) (kpG u ws rss) 0 row b).2 A K) (hl : row.length = ws.length) : F (psys x) 132 [huP (u : Nat) (fzW ws) (QR rss) y, fzN row, iI (b : Nat), .yield l] (A ++ L) (EaP y K A L) := by
 refine Zp Tryd.func132 rfl u47 rfl ?_
 refine Zc (Za (Lk u47 (.bool false) ?_))
 refine Zd (Zb (Zc (Zc ?_)))
 rw [List.append_nil]
 refine Za (Lm u47 ?_)
 refine Lo u47 rfl ?_
 refine Lm u47 ?_
 refine Lo u47 rfl ?_
 refine Lo u47 rfl ?_
 refine Lo u47 (W4i rfl rfl rfl rfl) ?_
 refine Lo u47 rfl ?_
 refine Lo u47 (QA true rfl (by rw [hl]; simp)) ?_
 refine Zd (Zb (ZN rfl rfl ?_))
 refine Zc (Za (Lm u47 ?_))
 refine Lm u47 ?_
 refine Zs rfl rfl rfl (by exact CloN _ row (by omega)) ?_
 rintro _ _ ⟨rfl, rfl⟩
 refine Le u47 ?_
 refine L_callV rfl rfl rfl (by have h9 : Fv (psys x) (.yield l) [fzN row] (A.set y (gaB (g + 0)) ++ L) _ := hI g hs L; rw [Zca hs] at h9; exact h9) ?_
 rintro _ G ⟨b1, A1, J1, rfl, hG, hA1, hk⟩; obtain rfl : G = A1 ++ (L ++ J1) := hG
 refine Le u47 ?_
 refine La u47 ?_
 refine Zd (Zb (Zj (Zl (YQ (.inr rfl) (Zf rfl rfl) ?_))))
 exact ⟨b1, A1, _, rfl, rfl, hA1, ea_end hk⟩
theorem patterns_s {x : SW} {u y : Nat} {ws : List (BitVec 64)} {rss : List (List Rul)} (l : Nat) (hn : ws.length ≤ 1000000) (hr : rss.length = ws.length) (hR : ∀ i, (rss.getD i []).length ≤ 1000000 ∧ ∀ r, r ∈ rss.getD i [] → r.steps.length ≤ 1000000) (n : Nat) (ih : ∀ (A L : Ze) (row : List Nat) (b : Nat) (g : Gz) (K : Bool → Ze → Prop) (hp : Pat row) (hb : b = szP row row.length) (hs : A[y]? = some (gaB g)) (hI : IterP (psys x) l y (tv (ptT (kpB ws rss) (kpG u ws rss) n row b)) (ptT (kpB ws rss) (kpG u ws rss) n row b).2 A K), row.length + n = ws.length → F (psys x) 132 [huP (u : Nat) (fzW ws) (QR rss) y, fzN row, iI (b : Nat), .yield l] (A ++ L) (EaP y K A L)) (A L : Ze) (row : List Nat) (b : Nat) (g : Gz) (K : Bool → Ze → Prop) (hp : Pat row) (hb : b = szP row row.length) (hs : A[y]? = some (gaB g)) (hI : IterP (psys x) l y (tv (ptT (kpB ws rss) (kpG u ws rss) (n + 1) row b)) (ptT (kpB ws rss) (kpG u ws rss) (n + 1) row b).2 A K) (hl : row.length + (n + 1) = ws.length) : F (psys x) 132 [huP (u : Nat) (fzW ws) (QR rss) y, fzN row, iI (b : Nat), .yield l] (A ++ L) (EaP y K A L) := by
 have hz := @YH row row.length
 refine Zp Tryd.func132 rfl u47 rfl ?_
 refine Zc (Za (Lk u47 (.bool false) ?_))
 refine Zd (Zb (Zc (Zc ?_)))
 rw [List.append_nil]
 refine Za (Lm u47 ?_)
 refine Lo u47 rfl ?_
 refine Lm u47 ?_
 refine Lo u47 rfl ?_
 refine Lo u47 rfl ?_
 refine Lo u47 (W4i rfl rfl rfl rfl) ?_
 refine Lo u47 rfl ?_
 refine Lo u47 (QA false rfl (by simp; omega)) ?_
 refine Zd (Zb (Yc rfl rfl ?_))
 refine Zh (Zb (Zc (Zc ?_)))
 rw [ptT_R] at hI
 refine Za (Lk u47 (.int .i64 0) ?_)
 refine Zd (Zb (Zg (Zr (mk 47 140737488354800) (env' := u47) rfl ?_)))
 refine Zw (fun (k : Nat) => b + 1 - k) (fun (k : Nat) => [(9, iI (k : Nat))]) (fun (k : Nat) G => (k ≤ b + 1) ∧ ∃ A0 J0 g1, G = A0 ++ (L ++ J0) ∧ A0.length = A.length ∧ A0[y]? = some (gaB g1) ∧ IterP (psys x) l y (tv (ptR (kpB ws rss) (kpG u ws rss) (ptT (kpB ws rss) (kpG u ws rss) n) row b k)) (ptR (kpB ws rss) (kpG u ws rss) (ptT (kpB ws rss) (kpG u ws rss) n) row b k).2 A0 K) 0 rfl ?_ ?_
 ·refine ⟨?_, ⟨A, [], g, by rw [List.append_nil], rfl, hs, hI⟩⟩
  exact Nat.zero_le _
 rintro k _ ⟨hk, ⟨A0, J0, g1, rfl, hA0, hg1, hI0⟩⟩
 refine ZL (env' := u47) rfl ?_
 refine Zc (Zc (Za (Lm u47 ?_)))
 refine Lm u47 ?_
 refine Lo u47 rfl ?_
 refine Zd (Zb (Zi _ rfl (fun hc1 => ?_) (fun hc1 => ?_)))
 ·try simp only [qB, qN] at hc1
  refine Zh (Zb (Zc (Zg (Zc (Za (Lm u47 ?_))))))
  refine Zs rfl rfl rfl (by exact Clip_spec _ row) ?_
  rintro _ _ ⟨rfl, rfl⟩
  refine Le u47 ?_
  refine Lm u47 ?_
  refine Lo u47 (Zv rfl rfl (by decide) rfl) ?_
  refine Lo u47 (v_appFX (c := iI ((k : Nat) : Int)) rfl rfl rfl rfl rfl rfl rfl rfl Xw rfl (by simp) (by show (row.length + 1) * 8 ≤ _ ∧ _; omega)) ?_
  refine La u47 ?_
  refine Zd (Zb (Zc (B_frzEnd 10 rfl rfl rfl rfl ?_)))
  have hkb : k ≤ b := by omega
  have hpk : Pat (row ++ [k]) := Qz hp (by omega)
  refine Za (Lm u47 ?_)
  refine Lm u47 ?_
  refine Zs rfl rfl rfl (by exact hKeep_at hg1 (row ++ [k]) hpk (by simp) (by simp; omega) hn hr hR) ?_
  rintro _ _ ⟨rfl, rfl⟩
  refine Le u47 ?_
  refine Lm u47 ?_
  refine ZB 36 (env1 := u47) (env2 := u47) rfl rfl rfl (fun hg2 => ?_) (fun hg2 => ?_)
  ·try simp only [qB, qN] at hg2
   have hkp : kpB ws rss (row ++ [k]) = true := by simpa using hg2
   refine Lm u47 ?_
   refine Lm u47 ?_
   refine Lm u47 ?_
   refine Lm u47 ?_
   refine Lo u47 (W14 rfl rfl rfl) ?_
   refine Lo u47 (Xg rfl (show iI _ = iI ((max b (k + 1) : Nat) : Int) by congr 1; omega)) ?_
   refine Lm u47 ?_
   refine Zs rfl rfl rfl (by have hIf := hI0; rw [ptR_yes hkb hkp] at hIf; exact ih (A0.set y (gaB (g1 + kpG u ws rss (row ++ [k])))) _ (row ++ [k]) _ _ _ hpk (by rw [hb]; exact (Q9 (by omega)).symm) (List.getElem?_set_self (ZG hg1)) (IterP.catT (xs := (ptT (kpB ws rss) (kpG u ws rss) n (row ++ [k]) (max b (k + 1))).1) (da := (ptT (kpB ws rss) (kpG u ws rss) n (row ++ [k]) (max b (k + 1))).2) (IterP.addF hg1 hIf)) (by simp; omega)) ?_
   rintro _ G ⟨b1, A2, J2, rfl, hG, hA2, hk2, hg2x⟩; have hA3 : A2.length = A.length := hA2.trans (by rw [List.length_set]; exact hA0); obtain rfl : G = _ := hG.trans ea_fold
   refine Le u47 ?_
   refine Lo u47 rfl ?_
   refine Lo u47 (ZM rfl rfl rfl) ?_
   refine Zd (Zb (Zi _ rfl (fun hc3 => ?_) (fun hc3 => ?_)))
   ·try simp only [qB, qN] at hc3
    have hb1 : b1 = false := by simpa using hc3
    subst hb1
    have hk3 : K false A2 := hk2
    refine Zc (Za (Lk u47 (.bool false) ?_))
    refine Zd (Zb (Zj (ZE (Zl (Ye (ZE (Zl (YQ (.inr rfl) (Zf rfl rfl) ?_))))))))
    exact W4k
   try simp only [qB, qN] at hc3
   have hb1 : b1 = true := by simpa using hc3
   subst hb1
   obtain ⟨g2, hg3⟩ := hg2x rfl
   have hk3 : IterP (psys x) l y (tv (ptR (kpB ws rss) (kpG u ws rss) (ptT (kpB ws rss) (kpG u ws rss) n) row b (k + 1))) (ptR (kpB ws rss) (kpG u ws rss) (ptT (kpB ws rss) (kpG u ws rss) n) row b (k + 1)).2 A2 K := hk2
   refine Zh (Zq (Zb (Za (Lm u47 ?_))))
   refine Lo u47 (W14 rfl rfl rfl) ?_
   refine La u47 ?_
   refine Zd (Zt (mk 47 140737488354800) (env' := u47) rfl ⟨k + 1, ?_, rfl, ?_⟩)
   ·first | omega | (simp only []; omega)
   first | exact ⟨by omega, A2, _, g2, rfl, hA3, hg3, hk3⟩ | exact ⟨by omega, A0.set y (gaB (g1 + kpG u ws rss (row ++ [k]))), _, _, ea_fold0, by rw [List.length_set]; exact hA0, List.getElem?_set_self (ZG hg1), IterP.addF hg1 (by have h9 := hI0; rw [ptR_no hkb hkp] at h9; exact h9)⟩
  try simp only [qB, qN] at hg2
  have hkp : kpB ws rss (row ++ [k]) = false := by simpa using hg2
  refine Lf u47 ?_
  refine Lf u47 ?_
  refine Lf u47 ?_
  refine Lf u47 ?_
  refine Lf u47 ?_
  refine Lf u47 ?_
  refine Lf u47 ?_
  refine Lf u47 ?_
  refine Lf u47 ?_
  refine Lo u47 (ZC (VVal.bool false) rfl rfl rfl) ?_
  refine Zd (Zb (Yc rfl rfl ?_))
  refine Zh (Zq (Zb (Za (Lm u47 ?_))))
  refine Lo u47 (W14 rfl rfl rfl) ?_
  refine La u47 ?_
  refine Zd (Zt (mk 47 140737488354800) (env' := u47) rfl ⟨k + 1, ?_, rfl, ?_⟩)
  ·first | omega | (simp only []; omega)
  first | exact ⟨by omega, A2, _, g2, rfl, hA3, hg3, hk3⟩ | exact ⟨by omega, A0.set y (gaB (g1 + kpG u ws rss (row ++ [k]))), _, _, ea_fold0, by rw [List.length_set]; exact hA0, List.getElem?_set_self (ZG hg1), IterP.addF hg1 (by have h9 := hI0; rw [ptR_no hkb hkp] at h9; exact h9)⟩
 try simp only [qB, qN] at hc1
 refine Zz (ZA (Zu (Zy (Zb (Zc (Za (Lk u47 (.bool true) ?_)))))))
 refine Zd (Zb (Zj (YQ (.inr rfl) (Zf rfl rfl) ?_)))
 exact W4k
theorem JL {x : SW} {u y : Nat} {ws : List (BitVec 64)} {rss : List (List Rul)} (l : Nat) (hn : ws.length ≤ 1000000) (hr : rss.length = ws.length) (hR : ∀ i, (rss.getD i []).length ≤ 1000000 ∧ ∀ r, r ∈ rss.getD i [] → r.steps.length ≤ 1000000) : ∀ (n : Nat) (A L : Ze) (row : List Nat) (b : Nat) (g : Gz) (K : Bool → Ze → Prop) (hp : Pat row) (hb : b = szP row row.length) (hs : A[y]? = some (gaB g)) (hI : IterP (psys x) l y (tv (ptT (kpB ws rss) (kpG u ws rss) n row b)) (ptT (kpB ws rss) (kpG u ws rss) n row b).2 A K), row.length + n = ws.length → F (psys x) 132 [huP (u : Nat) (fzW ws) (QR rss) y, fzN row, iI (b : Nat), .yield l] (A ++ L) (EaP y K A L)
 | 0, A, L, row, b, g, K, hp, hb, hs, hI, hl => patterns_0 l hn hr hR A L row b g K hp hb hs hI hl
 | n + 1, A, L, row, b, g, K, hp, hb, hs, hI, hl => patterns_s l hn hr hR n (fun A L row b g K h1 h2 h3 h4 h5 => JL l hn hr hR n A L row b g K h1 h2 h3 h4 h5) A L row b g K hp hb hs hI hl
theorem patterns_top {x : SW} {u y : Nat} {ws : List (BitVec 64)} {rss : List (List Rul)} (l : Nat) (hn : ws.length ≤ 1000000) (hr : rss.length = ws.length) (hR : ∀ i, (rss.getD i []).length ≤ 1000000 ∧ ∀ r, r ∈ rss.getD i [] → r.steps.length ≤ 1000000) (A : Ze) (g : Gz) (K : Bool → Ze → Prop) (hs : A[y]? = some (gaB g)) (hI : IterP (psys x) l y (tv (ptT (kpB ws rss) (kpG u ws rss) ws.length [] 0)) (ptT (kpB ws rss) (kpG u ws rss) ws.length [] 0).2 A K) :
  F (psys x) 132 [huP (u : Nat) (fzW ws) (QR rss) y, niS, iI 0, .yield l] A fun v G => ∃ b A1 J, v = .bool b ∧ G = A1 ++ J ∧ K b A1 := by
 refine F.pre (Gh.freezeNil (vs' := [huP (u : Nat) (fzW ws) (QR rss) y, fzN [], iI 0, .yield l]) 1 rfl rfl) ?_
 have := JL (x := x) (u := u) l hn hr hR ws.length A [] [] 0 g K Qg rfl hs hI (Nat.zero_add _)
 rw [List.append_nil] at this
 refine this.mono ?_
 rintro v G ⟨b, A1, J, rfl, rfl, _, hk, _⟩
 exact ⟨b, A1, J, rfl, rfl, hk⟩
theorem ZbP {x : SW} {u y : Nat} {ws : List (BitVec 64)} {rss : List (List Rul)} (l : Nat) (hn : ws.length ≤ 1000000) (hr : rss.length = ws.length) (hR : ∀ i, (rss.getD i []).length ≤ 1000000 ∧ ∀ r, r ∈ rss.getD i [] → r.steps.length ≤ 1000000) (A : Ze) (g : Gz) (K : Bool → Ze → Prop) (hs : A[y]? = some (gaB g)) (hI : IterP (psys x) l y (tv (ptT (kpB ws rss) (kpG u ws rss) ws.length [] 0)) (ptT (kpB ws rss) (kpG u ws rss) ws.length [] 0).2 A K) : F (psys x) 131 [.yield l, .fptr [huP (u : Nat) (fzW ws) (QR rss) y] 0] A fun v G => ∃ b A1 J, G = A1 ++ J ∧ K b A1 := by
 refine Zp Tryd.func131 rfl u6 rfl ?_
 rw [List.append_nil]
 refine Za (Lo u6 (W12 rfl rfl rfl rfl) ?_)
 refine Lm u6 ?_
 refine Zs rfl rfl rfl (by exact patterns_top l hn hr hR A g K hs hI) ?_
 rintro _ _ ⟨b, A1, J, rfl, rfl, hk⟩
 refine Le u6 ?_
 refine Zd (YQ (.inl rfl) (XO rfl) ?_)
 exact ⟨b, A1, J, rfl, hk⟩
theorem ZcQ {x : SW} (H : Ze) {u y : Nat} {ws : List (BitVec 64)} {rss : List (List Rul)} (hy : y < H.length) : F (psys x) 92 [huP (u : Nat) (fzW ws) (QR rss) y] H fun v G => v = .func 131 [] [.fptr [huP (u : Nat) (fzW ws) (QR rss) y] 0] ∧ G = H := by
 refine Zp Tryd.func92 rfl u4 rfl ?_
 refine Zc (Za (Lo u4 (ZJ rfl rfl rfl) ?_))
 refine Lk u4 (.nilFunc) ?_
 refine Zd (Zb (Zc (Za (L_gh (Gh.freezePtrL (cs := [huP (u : Nat) (fzW ws) (QR rss) y]) 1 0 rfl rfl rfl) ?_))))
 refine Lo u4 (v_func [_] rfl rfl) ?_
 refine La u4 ?_
 refine Zd (Zb (Zj (W4m (.inr rfl) (Zf rfl rfl) ?_)))
 exact ⟨rfl, rfl⟩
theorem W4n {T : TypeId → Option VTy} {H : Ze} {op : Op} {ρ : Operand → VVal} {t : TypeId} {a : Operand} {y : VTy} {p : VVal} {n : Nat} {vs : List VVal} (ho : op = .load t a) (ha : ρ a = p) (hy : T t = some y) (hd : Zk y.desc = true) (hn : y.size = n) (h : XF H p n vs := by first | exact .inl ⟨_, _, rfl, by first | rfl | assumption⟩ | exact .inr ⟨_, _, _, _, rfl, XH35, by first | rfl | assumption⟩) : vop T ρ H op = some (.agg vs, H) := XI ho ha hy hd hn h
theorem W4q {P : Prop} (h : P := by first | exact ⟨true, A0, _, List.append_assoc _ _ _, hI⟩ | exact ⟨false, A0, _, List.append_assoc _ _ _, hX⟩) : P := h
theorem W4r {S : V.Sys} {H : Ze} {fn : Func} {ex : Exit} {env : VEnv} {B L : Ze} {v : VVal} {R : VVal → Ze → Prop} (hx : ex = .normal ∨ ex = .ret) (hv : ZX S.C.T env (B ++ L) fn.results = some v) (h : R v B) (hB : BaseOk H B := by exact XH41) (hu : v.under H.length = true := by show (true && (VVal.underL _ (pbB p) && true)) = true; rw [show VVal.underL _ (pbB p) = true from Jb (p := p)]; rfl) : fnK S fn H R ex env (B ++ L) := Xk hx hv hB hu h
def ptP (p : Pb) : List (List Nat) := if pck p = 0 then (ptT (kpB (wsP p) (Y8 p)) (kpG p.users.toNat (wsP p) (Y8 p)) (wsP p).length [] 0).1.map Prod.snd else []
abbrev fvP (p : Pb) (a : List Nat) : List VVal := [fzN a, fzW (Z6 (wsP p) a a.length)]
theorem Qb {p : Pb} {a : List Nat} (h : a ∈ ptP p) : pck p = 0 ∧ Pat a ∧ a.length = p.who.length ∧ a ∈ QB p.who.length [] 0 ∧ XD (kpB (wsP p) (Y8 p)) 0 a = true := by
 unfold ptP at h
 split at h
 ·rename_i h0
  rw [ptT_snd, List.mem_filter, ZT] at h
  obtain ⟨z, hz, hl⟩ := XW h.1
  rw [List.nil_append] at hz; subst hz
  exact ⟨h0, Zau Qg h.1, hl, h.1, h.2⟩
 cases h
theorem tpat1_bad {x : SW} (l : Nat) (p : Pb) (hpl : PbL p) (A : Ze) (K : Bool → Ze → Prop) (hI : Zbs (psys x) l ((ptP p).map (fvP p)) A K) (hb : ¬ pck p = 0) : F (psys x) 103 [.yield l, .fptr (pbB p) 0] A fun v G => ∃ b A1 J, G = A1 ++ J ∧ K b A1 := by
 refine Zp Tryd.func103 rfl u22 rfl ?_
 refine Zc (Za (Lo u22 (ZJ rfl rfl rfl) ?_))
 refine Zd (Zb (Zc (Zc (Ym (Gh.freezePtrL (cs := [.yield l]) 2 0 rfl rfl rfl) ?_))))
 refine Za (Lo u22 (W4n rfl rfl rfl rfl rfl) ?_)
 refine Zs rfl rfl rfl (by exact Q3 _ p hpl) ?_
 rintro _ _ ⟨rfl, rfl⟩
 refine Le u22 ?_
 refine Lo u22 (QA true rfl (by simp [hb])) ?_
 refine Zd (Zb (ZN rfl rfl ?_))
 refine Zj (Zl (YQ (.inr rfl) (XO rfl) ?_))
 exact ⟨true, A, _, rfl, by rw [show ptP p = [] from if_neg hb] at hI; exact hI⟩
theorem tpat1_ok {x : SW} (l : Nat) (p : Pb) (hpl : PbL p) (A : Ze) (K : Bool → Ze → Prop) (hI : Zbs (psys x) l ((ptP p).map (fvP p)) A K) (h0 : pck p = 0) : F (psys x) 103 [.yield l, .fptr (pbB p) 0] A fun v G => ∃ b A1 J, G = A1 ++ J ∧ K b A1 := by
 have hg : Go.V.Good p := pck_good.1 h0
 have hn : (wsP p).length ≤ 1000000 := by rw [ZT]; exact hpl.w
 rw [show ptP p = (ptT (kpB (wsP p) (Y8 p)) (kpG p.users.toNat (wsP p) (Y8 p)) (wsP p).length [] 0).1.map Prod.snd from if_pos h0] at hI
 have hT : ∀ q, q ∈ (ptT (kpB (wsP p) (Y8 p)) (kpG p.users.toNat (wsP p) (Y8 p)) (wsP p).length [] 0).1 → Pat q.2 ∧ q.2.length = (wsP p).length := fun q hq => by
  have h9 : q.2 ∈ ptP p := by rw [show ptP p = (ptT (kpB (wsP p) (Y8 p)) (kpG p.users.toNat (wsP p) (Y8 p)) (wsP p).length [] 0).1.map Prod.snd from if_pos h0]; exact List.mem_map_of_mem hq
  have h8 := Qb h9
  exact ⟨h8.2.1, by rw [ZT]; exact h8.2.2.1⟩
 refine Zp Tryd.func103 rfl u22 rfl ?_
 refine Zc (Za (Lo u22 (ZJ rfl rfl rfl) ?_))
 refine Zd (Zb (Zc (Zc (Ym (Gh.freezePtrL (cs := [.yield l]) 2 0 rfl rfl rfl) ?_))))
 refine Za (Lo u22 (W4n rfl rfl rfl rfl rfl) ?_)
 refine Zs rfl rfl rfl (by exact Q3 _ p hpl) ?_
 rintro _ _ ⟨rfl, rfl⟩
 refine Le u22 ?_
 refine Lo u22 (QA false rfl (by rw [h0]; rfl)) ?_
 refine Zd (Zb (Yc rfl rfl ?_))
 refine Zh (Zb (Zc (Za (Lo u22 (W4n rfl rfl rfl rfl rfl) ?_))))
 refine Lo u22 rfl ?_
 refine Lo u22 (ZJ rfl rfl rfl) ?_
 refine Zs rfl rfl rfl (by exact New_N _ p (A.length + 1) (by simp) hg) ?_
 rintro _ _ ⟨rfl, rfl⟩
 refine Le u22 ?_
 refine Lo u22 (ZP rfl rfl) ?_
 refine Lo u22 (W13 rfl rfl rfl rfl rfl rfl rfl) ?_
 refine Zd (Zb (Zc (Ym (Gh.freezePtrL (cs := [huP (p.users.toNat : Nat) (fzW (wsP p)) (QR (Y8 p)) (A.length + 1)]) 3 2 rfl rfl rfl) ?_)))
 refine Za (Lo u22 (W4i rfl rfl rfl rfl) ?_)
 refine Zs rfl rfl rfl (by exact ZcQ _ (by simp)) ?_
 rintro _ _ ⟨rfl, rfl⟩
 refine Le u22 ?_
 refine Zd (Zb (Zg (Zr (mk 22 4186099) (env' := u22) rfl ?_)))
 refine B_rangePJ ((A.length + 1)) (tv (ptT (kpB (wsP p) (Y8 p)) (kpG p.users.toNat (wsP p) (Y8 p)) (wsP p).length [] 0)) ((ptT (kpB (wsP p) (Y8 p)) (kpG p.users.toNat (wsP p) (Y8 p)) (wsP p).length [] 0).2) (fun l0 h => by cases h) rfl (fun l9 G9 K9 hg9 hI9 => ZbP l9 hn rssP_len (rssP_ok hg) G9 _ K9 hg9.choose_spec hI9) (σ := {q : Ze × Gz // q.1.length = A.length}) (fun k s => s.1.1 ++ [.dead, gaB s.1.2, .dead, k]) ⟨(A, 0), rfl⟩ (fun k => by simp; rfl) (fun k s => by simp [s.2]) (fun k s => by rw [show (A ++ _ : Ze).length = A.length + 3 by simp]; exact ZI s.2 rfl) (fun k k1 s => by rw [show (A ++ _ : Ze).length = A.length + 3 by simp]; exact ZO s.2) (fun s => s.1.2) (fun d s => ⟨(s.1.1, s.1.2 + d), s.2⟩) (fun pre s => ∃ z, tv (ptT (kpB (wsP p) (Y8 p)) (kpG p.users.toNat (wsP p) (Y8 p)) (wsP p).length [] 0) = pre ++ tv (z, (ptT (kpB (wsP p) (Y8 p)) (kpG p.users.toNat (wsP p) (Y8 p)) (wsP p).length [] 0).2) ∧ (∀ q, q ∈ z → Pat q.2 ∧ q.2.length = (wsP p).length) ∧ Zbs (psys x) l ((z.map Prod.snd).map (fvP p)) s.1.1 K) (fun k s pre hI => by exact ZI s.2 rfl) (fun k s d pre hI => by exact ZO s.2) ?_ (fun j pre c s => (j = Code.ret ∧ (K false s.1.1))) rfl ?_ ?_ ?_
 ·exact ⟨(ptT (kpB (wsP p) (Y8 p)) (kpG p.users.toNat (wsP p) (Y8 p)) (wsP p).length [] 0).1, rfl, hT, hI⟩
 ·intro pre d c post s hx hI Lp kr kb hkr hkb
  obtain ⟨⟨A0, g0⟩, hA0⟩ := s
  try dsimp only at hI ⊢
  have hA0 : A0.length = A.length := hA0
  obtain ⟨z, hz, hzl, hI⟩ := hI
  obtain ⟨a, z, rfl, rfl⟩ : ∃ us z1, z = (d, us) :: z1 ∧ c = fzN us := tv_cons (List.append_cancel_left (hz.symm.trans hx))
  obtain ⟨hpa, hal⟩ := hzl _ (List.mem_cons_self ..)
  have hal : a.length = (wsP p).length := hal; have hpa : Pat a := hpa
  refine ZL (env' := u22) rfl ?_
  refine Za (La u22 ?_)
  refine Zd (⟨rfl, ⟨(A0, g0 + d), hA0⟩, rfl, ?_⟩)
  try dsimp only
  refine YS (H' := A0 ++ ([.dead, gaB (g0 + d), .dead, kb] ++ Lp)) (by simp) ?_
  refine Zg (Zc (B_drawP #[0, 0, 0, 0, 12, 31, 63] XH3 ?_))
  refine P_seg [0, 1, 2, 3, 4] (bef := #[0, 0, 0, 0, 12, 31, 63]) XH3 XH3 XH3 ?_
  refine Yb (env' := u22) (x := .look _ _) rfl rfl rfl (W4i rfl rfl rfl rfl) rfl rfl rfl ?_
  refine Om u22 ?_
  refine Ok u22 rfl (W4i rfl rfl rfl rfl) ?_
  refine Om u22 ?_
  refine Yd (env' := u22) rfl rfl rfl rfl rfl (by exact Zan _ _ _ hpa (by omega) hn) XH8 rfl rfl ?_
  refine ZW [_] (by rfl) (And.intro (And.intro (W4i rfl rfl rfl rfl) (W4i rfl rfl rfl rfl)) trivial) ?_
  refine P_piv 5 (bef := #[0, 0, 0, 0, 12, 31, 63]) XH3 XH3 rfl rfl rfl rfl (by exact hI _) ?_
  rintro _ _ ⟨b1, A2, J2, rfl, rfl, hA2, hk⟩; have hA3 : A2.length = A.length := hA2.trans hA0
  refine P_env (env' := u22) rfl ?_
  refine P_seg [6] (bef := #[0, 0, 0, 0, 12, 31, 63]) XH3 XH3 XH3 ?_
  refine Oc u22 rfl rfl ?_
  refine ZW [] XH3 (trivial) ?_
  refine P_end XH3 ?_
  refine Zb (Zi _ rfl (fun hc1 => ?_) (fun hc1 => ?_))
  ·try simp only [qB, qN] at hc1
   have hb : b1 = false := by simpa using hc1
   subst hb
   have hk3 : K false A2 := hk
   refine Zj (ZE (⟨⟨(A2, g0 + d), hA3⟩, J2, (by simp), .inr ⟨Code.ret, rfl, ⟨rfl, ?_⟩⟩⟩))
   exact hk3
  try simp only [qB, qN] at hc1
  have hb : b1 = true := by simpa using hc1
  subst hb
  have hk3 : Zbs (psys x) l ((z.map Prod.snd).map (fvP p)) A2 K := hk
  refine Zh (Zq (⟨⟨(A2, g0 + d), hA3⟩, J2, (by simp), .inl ⟨rfl, ?_⟩⟩))
  exact ⟨z, by rw [hz, List.append_assoc]; rfl, fun q hq => hzl q (List.mem_cons_of_mem _ hq), hk3⟩
 ·intro s k hk hI J9
  obtain ⟨⟨A0, g0⟩, hA0⟩ := s
  try dsimp only at hI ⊢
  obtain ⟨z, hz, hzl, hI⟩ := hI
  obtain rfl := tv_nil hz
  have hI : K true A0 := hI
  refine Zq (YQ (.inl rfl) (XO rfl) ?_)
  exact W4q
 rintro j pre c post s k hk hx (⟨rfl, hX⟩) J9
 obtain ⟨⟨A0, g0⟩, hA0⟩ := s
 try dsimp only
 refine J_ret (ZE (YQ (.inr rfl) (XO rfl) ?_))
 exact W4q
theorem XT {x : SW} (l : Nat) (p : Pb) (hpl : PbL p) (A : Ze) (K : Bool → Ze → Prop) (hI : Zbs (psys x) l ((ptP p).map (fvP p)) A K) : F (psys x) 103 [.yield l, .fptr (pbB p) 0] A fun v G => ∃ b A1 J, G = A1 ++ J ∧ K b A1 := by
 by_cases h : pck p = 0
 ·exact tpat1_ok l p hpl A K hI h
 exact tpat1_bad l p hpl A K hI h
theorem Qk {x : SW} (H : Ze) (p : Pb) : F (psys x) 60 [.agg (pbB p)] H fun v G => v = .func 103 [] [.fptr (pbB p) 0] ∧ G = H := by
 refine Zp Tryd.func60 rfl u4 rfl ?_
 refine Zc (Za (Lo u4 (ZJ rfl rfl rfl) ?_))
 refine Lk u4 (.nilFunc) ?_
 refine Zd (Zb (Zc (Za (L_gh (Gh.freezePtrL (cs := pbB p) 1 0 rfl rfl rfl) ?_))))
 refine Lo u4 (v_func [_] rfl rfl) ?_
 refine La u4 ?_
 refine Zd (Zb (Zj (W4r (.inr rfl) (Zf rfl rfl) ?_)))
 exact ⟨rfl, rfl⟩
abbrev u62 {a0 a1 a2 a3 a4 a5 a6 a7 a8 a9 a10 a11 a12 a13 a14 a15 a16 a17 a18 a19 a20 a21 a22 a23 a24 a25 a26 a27 a28 a29 a30 a31 a32 a33 a34 a35 a36 a37 a38 a39 a40 a41 a42 a43 a44 a45 a46 a47 a48 a49 a50 a51 a52 a53 a54 a55 a56 a57 a58 a59 a60 a61 : VVal} : VEnv := a0 :: a1 :: a2 :: a3 :: a4 :: a5 :: a6 :: a7 :: a8 :: a9 :: a10 :: a11 :: a12 :: a13 :: a14 :: a15 :: a16 :: a17 :: a18 :: a19 :: a20 :: a21 :: a22 :: a23 :: a24 :: a25 :: a26 :: a27 :: a28 :: a29 :: a30 :: a31 :: a32 :: a33 :: a34 :: a35 :: a36 :: a37 :: a38 :: a39 :: a40 :: a41 :: a42 :: a43 :: a44 :: a45 :: a46 :: a47 :: a48 :: a49 :: a50 :: a51 :: a52 :: a53 :: a54 :: a55 :: a56 :: a57 :: a58 :: a59 :: a60 :: a61 :: []
theorem W4u {T : TypeId → Option VTy} {H : Ze} {op : Op} {ρ : Operand → VVal} {t : TypeId} {a : Operand} {y : VTy} {p v : VVal} (ho : op = .load t a) (ha : ρ a = p) (hy : T t = some y) (hd : Zk y.desc = false) (h : LdOk H p v := by first | exact .inl ⟨_, _, rfl, by first | rfl | assumption | exact Qv (by omega) | exact Jj (α := BitVec 64) 0 (by omega)⟩ | exact .inr ⟨_, _, _, _, rfl, XH44, by first | rfl | assumption | exact Qv (by omega) | exact Jj (α := BitVec 64) 0 (by omega)⟩) : vop T ρ H op = some (v, H) := Yv ho ha hy hd h
theorem W4w {T : TypeId → Option VTy} {H : Ze} {op : Op} {ρ : VEnv} {H' : Ze} {t : TypeId} {a : Operand} {i : Nat} {v : VVal} {y : VTy} {b off : Nat} {cs new : List VVal} (ho : op = .store t a (.tmp i)) (hv : ρ[i]? = some v) (ha : ρ.eval a = .ptr (some (b, off))) (hy : T t = some y) (hx : v.cells = some new) (hn : new.length = y.size) (h1 : new.all VVal.one = true) (hb : H[b]? = some (.cells cs true) := by exact XH44) (hl : off + new.length ≤ cs.length := by exact XH38) (hH : H.set b (.cells (Zx cs off new) true) = H' := by exact mt_setq hqH) : vop T ρ.eval H op = some (.skip, H') := Z3 ho hv ha hy hx hn h1 hb hl hH
theorem W4x {T : TypeId → Option VTy} {H : Ze} {op : Op} {ρ : Operand → VVal} {t : TypeId} {a : Operand} {y : VTy} {p v : VVal} (ho : op = .load t a) (ha : ρ a = p) (hy : T t = some y) (hd : Zk y.desc = false) (h : LdOk H p v := by first | exact .inl ⟨_, _, rfl, by rfl⟩ | exact .inr ⟨_, _, _, _, rfl, by exact ZI (Xu rfl) rfl, by rfl⟩) : vop T ρ H op = some (v, H) := Yv ho ha hy hd h
theorem W4y {T : TypeId → Option VTy} {H : Ze} {op : Op} {ρ : Operand → VVal} {t : TypeId} {a : Operand} {y : VTy} {p v : VVal} (ho : op = .load t a) (ha : ρ a = p) (hy : T t = some y) (hd : Zk y.desc = false) (h : LdOk H p v := by first | exact .inl ⟨_, _, rfl, by exact Qv (s := (s1.1, s1.2 ||| 1#64 <<< c)) XH28⟩ | exact .inr ⟨_, _, _, _, rfl, XH44, by exact Qv (s := (s1.1, s1.2 ||| 1#64 <<< c)) XH28⟩) : vop T ρ H op = some (v, H) := Yv ho ha hy hd h
theorem W50 {T : TypeId → Option VTy} {H : Ze} {op : Op} {ρ : VEnv} {H' : Ze} {t : TypeId} {a : Operand} {i : Nat} {v : VVal} {y : VTy} {b off : Nat} {cs new : List VVal} (ho : op = .store t a (.tmp i)) (hv : ρ[i]? = some v) (ha : ρ.eval a = .ptr (some (b, off))) (hy : T t = some y) (hx : v.cells = some new) (hn : new.length = y.size) (h1 : new.all VVal.one = true) (hb : H[b]? = some (.cells cs true) := by exact XH44) (hl : off + new.length ≤ cs.length := by first | exact mt_len6 (s := (s1.1, 0#64)) (show c < s1.1.length by omega) | exact mt_len6 (Nat.lt_of_lt_of_eq hc64 (hgr.yes (by assumption)).1.len.symm)) (hH : H.set b (.cells (Zx cs off new) true) = H' := by first | exact mt_setp hpH hpq (show c < s1.1.length by omega) | exact mt_setp hpH hpq (Nat.lt_of_lt_of_eq hc64 (hgr.yes (by assumption)).1.len.symm)) : vop T ρ.eval H op = some (.skip, H') := Z3 ho hv ha hy hx hn h1 hb hl hH
theorem W52 {S : V.Sys} {H : Ze} {fn : Func} {ex : Exit} {env : VEnv} {B L : Ze} {v : VVal} {R : VVal → Ze → Prop} (hx : ex = .normal ∨ ex = .ret) (hv : ZX S.C.T env (B ++ L) fn.results = some v) (h : R v B) (hB : BaseOk H B := by exact mt_base trivial) (hu : v.under H.length = true := by exact XH49) : fnK S fn H R ex env (B ++ L) := Xk hx hv hB hu h
namespace MM
theorem YZ (n : Nat) (l : List (BitVec 64)) : (fzW l).under n = true := VVal.underL_map fun _ => rfl
theorem Yu (n : Nat) (l : List (BitVec 64)) : VVal.underL n (l.map iW) = true := VVal.underL_map fun _ => rfl
theorem Xb (n : Nat) (l : List Int) : VVal.underL n (l.map iI) = true := VVal.underL_map fun _ => rfl
theorem Qw (l : List (BitVec 64)) : (l.map iW).all VVal.one = true := by rw [List.all_map]; exact List.all_eq_true.2 fun _ _ => rfl
theorem mapW_all {l : List (BitVec 64)} : Zo (l.map iW) 0 (l.length * 1) = some (l.map iW) := by
 unfold Zo; rw [if_pos XH14, List.drop_zero, List.take_of_length_le XH14]
theorem YG {L : Ze} {p : Nat} {k : VBlk} (h : L[p]? = some k) : L = L.set p k := by
 apply List.ext_getElem?
 intro i
 rw [List.getElem?_set]
 by_cases e : p = i
 ·subst e; rw [h]; rw [if_pos rfl, if_pos (List.getElem?_eq_some_iff.1 h).1]
 rw [if_neg e]
section
variable {T : TypeId → Option VTy} {ρ : Operand → VVal} {H : Ze} {op : Op}
theorem v_eqNilF {t : TypeId} {x y : Operand} {ty : TypeId} {cs : List VVal} {len es : Nat} {ex : Bool} {i : VTy} {e : TypeId} (ho : op = .binOp .eql t x y ty) (hx : ρ x = .fsl cs len es ex) (hy : ρ y = .slice none 0 0 true 0) (hT : T t = some i) (hd : i.desc = .slice e) (hl : len ≠ 0) : vop T ρ H op = some (.bool false, H) := by
 rw [ho]; simp [vop, Zar, hx, hy, veq, hT, hd, hl]
theorem v_wHi {t e : TypeId} {x hi : Operand} {y z : VTy} {l : List (BitVec 64)} {k : Nat} {kd : IntKind} (ho : op = .slice t x none (some hi) none) (hy : T t = some y) (hd : y.desc = .slice e) (hz : T e = some z) (hs : z.size = 1) (hx : ρ x = fzW l) (hh : ρ hi = .int kd (k : Nat)) (hk : k ≤ l.length) : vop T ρ H op = some (fzW (l.take k), H) := by
 rw [ZaT ho hy hd hz hs hx hh hk XH14]
 simp [fzW, Nat.min_eq_left hk, List.map_take]
end
abbrev mtB (rows : List (BitVec 64)) (O : List Int) : VBlk := .cells (fzW rows :: O.map iI) true
abbrev seB (w : BitVec 64) : VBlk := .cells [iW w] true
def mtH (H : Ze) (p q : Nat) (rows : List (BitVec 64)) (s : GSt) : Ze := (H.set p (mtB rows s.1)).set q (seB s.2)
section
variable {H L : Ze} {p q : Nat} {rows : List (BitVec 64)} {s : GSt}
theorem Xu {n : Nat} (h : H.length = n) : (mtH H p q rows s).length = n := by unfold mtH; rw [List.length_set, List.length_set]; exact h
theorem mtH_id {O : List Int} {w : BitVec 64} (hp : H[p]? = some (mtB rows O)) (hq : H[q]? = some (seB w)) : mtH H p q rows (O, w) = H := by
 unfold mtH; rw [← YG hp, ← YG hq]
theorem mt_q (hq : q < H.length) : (mtH H p q rows s ++ L)[q]? = some (seB s.2) := by
 unfold mtH; exact Zn (List.getElem?_set_self (by rw [List.length_set]; exact hq))
theorem mt_p (hp : p < H.length) (hpq : p ≠ q) : (mtH H p q rows s ++ L)[p]? = some (mtB rows s.1) := by
 unfold mtH; exact Zn (by rw [List.getElem?_set_ne (Ne.symm hpq)]; exact List.getElem?_set_self hp)
theorem mt_setq {w : BitVec 64} (hq : q < H.length) : (mtH H p q rows s ++ L).set q (seB w) = mtH H p q rows (s.1, w) ++ L := by
 rw [Yl (by rw [Xu rfl]; exact hq)]; unfold mtH; rw [List.set_set]
theorem mt_setp0 {k : VBlk} (hp : p < H.length) (hpq : p ≠ q) : (mtH H p q rows s ++ L).set p k = (H.set p k).set q (seB s.2) ++ L := by
 rw [Yl (by rw [Xu rfl]; exact hp)]; unfold mtH
 rw [List.set_comm _ _ (Ne.symm hpq), List.set_set]
theorem mt_setp {u : Int} {r : Int} (hp : p < H.length) (hpq : p ≠ q) (hu : u.toNat < s.1.length) : (mtH H p q rows s ++ L).set p (.cells (Zx (fzW rows :: s.1.map iI) (0 + 1 + u.toNat * 1) [iI r]) true) = mtH H p q rows (s.1.set u.toNat r, s.2) ++ L := by
 have : Zx (fzW rows :: s.1.map iI) (0 + 1 + u.toNat * 1) [iI r] = fzW rows :: (s.1.set u.toNat r).map iI := by
  rw [show 0 + 1 + u.toNat * 1 = u.toNat + 1 by omega]
  unfold Zx
  rw [List.map_set, List.set_eq_take_append_cons_drop, if_pos (by rw [List.length_map]; exact hu)]; simp
 rw [this, mt_setp0 hp hpq]; rfl
theorem mt_mt {t : GSt} (hp : p < H.length) (hq : q < H.length) (hpq : p ≠ q) : mtH (mtH H p q rows s ++ L) p q rows t = mtH H p q rows t ++ L := by
 have : mtH (mtH H p q rows s ++ L) p q rows t = ((mtH H p q rows s ++ L).set p (mtB rows t.1)).set q (seB t.2) := rfl
 rw [this, mt_setp0 hp hpq, Yl (by simp; exact hq), List.set_set]; rfl
theorem mt_len6 {u : Int} {v : VVal} (h : u.toNat < s.1.length) : 0 + 1 + u.toNat * 1 + [v].length ≤ (fzW rows :: s.1.map iI).length := by
 show 0 + 1 + u.toNat * 1 + 1 ≤ (s.1.map iI).length + 1
 rw [List.length_map]; omega
theorem Yr {b : Bool} (h : b = false) : ¬ b = true := by rw [h]; decide
theorem mt_base (hl : True) : BaseOk H (mtH H p q rows s) := BaseOk.set (BaseOk.set (BaseOk.refl _) _ (by show VVal.underL _ (fzW rows :: s.1.map iI) = true; simp [VVal.underL, YZ, Xb])) _ rfl
theorem Qv {u : Int} (h : 0 ≤ u ∧ u < s.1.length) : (fzW rows :: s.1.map iI)[0 + 1 + u.toNat * 1]? = some (iI (s.1.getD u.toNat 0)) := by
 rw [show 0 + 1 + u.toNat * 1 = u.toNat + 1 by omega, List.getElem?_cons_succ]
 have : u.toNat < s.1.length := by omega
 simp [List.getElem?_eq_getElem this]
end
theorem Zc8 {x : SW} (H : Ze) (w : BitVec 64) : F (psys x) 112 [iW w] H fun v G => v = .agg [iW w] ∧ G = H := by
 refine Zp Tryd.func112 rfl u6 rfl ?_
 refine Zc (Za (Lo u6 (ZP rfl rfl) ?_))
 refine Zd (Zb (Zc (Za (Lo u6 rfl ?_))))
 refine Lm u6 ?_
 refine Zs rfl rfl rfl (by exact Of_spec _ 0#64 _) ?_
 rintro _ _ ⟨rfl, rfl⟩
 refine Le u6 ?_
 refine Lo u6 (W13 rfl rfl rfl rfl rfl rfl rfl) ?_
 refine Zd (Zb (Zj ?_))
 refine W10 (.inr rfl) (YV rfl rfl rfl rfl XH0 XH6) ?_
 exact ⟨rfl, rfl⟩
theorem Zdg {x : SW} (H : Ze) (l : List (BitVec 64)) : F (psys x) 104 [fzW l] H fun v G => v = .bool (decide ((l.length : Int) ≤ 12)) ∧ G = H := by
 refine Zp Tryd.func104 rfl u6 rfl ?_
 refine Zc (Za (Lk u6 (.bool false) ?_))
 refine Zd (Zb (Zc (Za (Lm u6 ?_))))
 refine Lo u6 rfl ?_
 refine Lo u6 rfl ?_
 refine La u6 ?_
 refine Zd (Zb (Zj (W10 (.inr rfl) (Zf rfl rfl) ?_)))
 exact ⟨rfl, rfl⟩
theorem grow_in {x : SW} {p q n : Nat} {rows : List (BitVec 64)} (hpq : p ≠ q) (ih : ∀ (H : Ze) (row : Int) (O : List Int) (S : BitVec 64), H[p]? = some (mtB rows O) → H[q]? = some (seB S) → 0 ≤ row → row < rows.length → Gok rows O → 64 - YA 64 S < n → F (psys x) 164 [.ptr (some (p, 0)), iI row, .ptr (some (q, 0))] H fun v G => v = .bool (grw rows n row (O, S)).1 ∧ G = mtH H p q rows (grw rows n row (O, S)).2) (H L : Ze) (s : GSt) (hp : p < H.length) (hq : q < H.length) (row : Int) (h0 : 0 ≤ row) (h1 : row < rows.length) (hk : Gok rows s.1) (hm : 64 - YA 64 s.2 < n) :
  F (psys x) 164 [.ptr (some (p, 0)), iI row, .ptr (some (q, 0))] (mtH H p q rows s ++ L) fun v G => v = .bool (grw rows n row s).1 ∧ G = mtH H p q rows (grw rows n row s).2 ++ L := by
 have := ih (mtH H p q rows s ++ L) row s.1 s.2 (mt_p hp hpq) (mt_q hq) h0 h1 hk hm
 rw [mt_mt hp hq hpq] at this
 exact this
theorem grow_s {x : SW} (p q n : Nat) (rows : List (BitVec 64)) (hpq : p ≠ q) (ih : ∀ (H : Ze) (row : Int) (O : List Int) (S : BitVec 64), H[p]? = some (mtB rows O) → H[q]? = some (seB S) → 0 ≤ row → row < rows.length → Gok rows O → 64 - YA 64 S < n → F (psys x) 164 [.ptr (some (p, 0)), iI row, .ptr (some (q, 0))] H fun v G => v = .bool (grw rows n row (O, S)).1 ∧ G = mtH H p q rows (grw rows n row (O, S)).2) (H : Ze) (row : Int) (O : List Int) (S : BitVec 64) (hp : H[p]? = some (mtB rows O)) (hq : H[q]? = some (seB S)) (h0 : 0 ≤ row) (h1 : row < rows.length) (hO : Gok rows O) (hm : 64 - YA 64 S < n + 1) (h62 : rows.length < 4611686018427387904) : F (psys x) 164 [.ptr (some (p, 0)), iI row, .ptr (some (q, 0))] H fun v G => v = .bool (grw rows (n + 1) row (O, S)).1 ∧ G = mtH H p q rows (grw rows (n + 1) row (O, S)).2 := by
 have hpH := ZG hp
 have hqH := ZG hq
 refine Zp Tryd.func164 rfl u62 rfl ?_
 refine Zc (Za (Lo u62 (ZJ rfl rfl rfl) ?_))
 refine Lo u62 (ZJ rfl rfl rfl) ?_
 refine Lo u62 (ZJ rfl rfl rfl) ?_
 refine Lo u62 (ZP rfl rfl) ?_
 refine Zd (Zb (Zc (Zc (ZK [0, 1, 2, 3, 4, 5, 6, 7, 8, 9, 10, 11, 12] #[0, 1, 3, 7, 0, 31, 63, 0, 128, 384, 1023, 2047, 4095] XH3 XH3 XH3 ?_))))
 refine Ok u62 rfl (W4u rfl rfl rfl rfl) ?_
 refine Oc u62 rfl rfl ?_
 refine Oc u62 rfl rfl ?_
 refine Ok u62 rfl (W4u rfl rfl rfl rfl) ?_
 refine Ok u62 rfl (W4u rfl rfl rfl rfl) ?_
 refine Oc u62 rfl (W18 rfl rfl rfl rfl rfl rfl rfl) ?_
 refine Ok u62 rfl (W4u rfl rfl rfl rfl) ?_
 refine Ok u62 rfl (W4u rfl rfl rfl rfl) ?_
 refine Oc u62 rfl rfl ?_
 refine Ok u62 rfl (W4u rfl rfl rfl rfl) ?_
 refine Oc u62 rfl (Qj rfl rfl rfl) ?_
 refine Yd (env' := u62) rfl rfl rfl rfl rfl (by exact Zc8 _ _) XH19 rfl rfl ?_
 refine Yd (env' := u62) rfl rfl rfl rfl rfl (by exact Zcu _ _) XH19 rfl rfl ?_
 refine ZW [] XH3 (trivial) ?_
 refine Zb (Zg (Zr (mk 62 4611686018426339207) (env' := u62) rfl ?_))
 refine Zct cI (pl (rows.getD row.toNat 0 &&& ~~~S) 0) (fun l0 h => by cases h) rfl (fun l G R h => Za3 _ _ _ _ h) (σ := GSt × Bool) (fun k s => mtH H p q rows s.1 ++ [.cells [.ptr (some (p, 0))] true, .cells [iI row] true, .cells [.ptr (some (q, 0))] true, .cells [.bool s.2] true, k]) ((O, S), false) (fun k => by show _ = mtH H p q rows (O, S) ++ _; rw [mtH_id hp hq, List.append_assoc]; rfl) (fun k s => by rw [List.length_append]; exact ZI (Xu rfl) rfl) (fun k k1 s => by rw [List.length_append]; exact ZO (Xu rfl)) (fun pre s => ∃ z, (pl (rows.getD row.toNat 0 &&& ~~~S) 0) = pre ++ z ∧ grL (grw rows n) row (pl (rows.getD row.toNat 0 &&& ~~~S) 0) (O, S) = grL (grw rows n) row z s.1 ∧ s.1.1 = O ∧ 64 - YA 64 s.1.2 ≤ n ∧ s.2 = false) ?_ (fun j pre c s => (j = Code.ret ∧ (grL (grw rows n) row (pl (rows.getD row.toNat 0 &&& ~~~S) 0) (O, S) = (true, s.1) ∧ s.2 = true))) rfl ?_ ?_ ?_
 ·exact ⟨_, rfl, rfl, rfl, by show 64 - YA 64 S ≤ n; omega, rfl⟩
 ·intro pre c post s hx hI kr kb hkr hkb
  obtain ⟨s1, res⟩ := s
  try dsimp only at hI ⊢
  obtain ⟨z, hz, hg, hO1, hcm, hres⟩ := hI
  have hres : res = false := hres
  subst hres
  obtain rfl : z = c :: post := List.append_cancel_left (hz.symm.trans hx)
  have hO1 : s1.1 = O := hO1
  have hcm : 64 - YA 64 s1.2 ≤ n := hcm
  have hg : grL (grw rows n) row (pl (rows.getD row.toNat 0 &&& ~~~S) 0) (O, S) = grL (grw rows n) row (c :: post) s1 := hg
  have hcx : c ∈ (pl (rows.getD row.toNat 0 &&& ~~~S) 0) := by rw [hx]; simp
  obtain ⟨_, hc64, _⟩ := mem_pl.1 hcx
  have hk1 : Gok rows s1.1 := by rw [hO1]; exact hO
  have hl1 : s1.1.length = 64 := hk1.len
  have hnn1 := hk1.nn c hc64
  refine ZL (env' := u62) rfl ?_
  refine Za (La u62 ?_)
  refine Zd (⟨rfl, (s1, false), rfl, ?_⟩)
  try dsimp only
  refine Zg (Zc (Zc (Za (Lo u62 (W4u rfl rfl rfl rfl) ?_))))
  refine Lo u62 rfl ?_
  refine Lo u62 (W4u rfl rfl rfl rfl) ?_
  refine Lm u62 ?_
  refine Lo u62 (Xd rfl rfl rfl XH4) ?_
  refine Lo u62 (Xs (b := 1#64) rfl rfl rfl) ?_
  refine Lo u62 rfl ?_
  refine Zd (Zb (Zi _ rfl (fun hc1 => ?_) (fun hc1 => ?_)))
  ·try simp only [qB] at hc1
   refine Zz (ZA (Zy ?_))
   have hseen : s1.2.getLsbD c = true := sh1.1 (by assumption)
   refine ⟨(s1, false), rfl, .inl ⟨rfl, ?_⟩⟩
   exact ⟨post, by rw [hx, List.append_assoc]; rfl, by rw [hg, grL, if_pos hseen], hO1, hcm, rfl⟩
  try simp only [qB] at hc1
  refine Zh (Zb (Zc (ZK [0, 1, 2, 3, 4, 5, 6, 7] #[0, 1, 3, 0, 8, 31, 63, 127] XH3 XH3 XH3 ?_)))
  have hnseen : ¬ s1.2.getLsbD c = true := fun e => absurd (sh1.2 e) (by assumption)
  have hcg := Jt (s := s1.2) (t := s1.2 ||| 1#64 <<< c) (fun a ha => (or1 hc64).2 (.inl ha)) ⟨c, (or1 hc64).2 (.inr rfl), Zah hnseen⟩
  have hcl := ZbG (s1.2 ||| 1#64 <<< c)
  refine Ok u62 rfl (W4u rfl rfl rfl rfl) ?_
  refine Oc u62 rfl rfl ?_
  refine Ok u62 rfl (W4u rfl rfl rfl rfl) ?_
  refine Om u62 ?_
  refine Oc u62 rfl (Qh rfl rfl rfl XH4) ?_
  refine Oc u62 rfl (ZcG rfl rfl rfl) ?_
  refine Oc u62 rfl rfl ?_
  refine Oo u62 .turn rfl (W4w rfl rfl rfl rfl rfl rfl rfl) ?_
  refine ZW [] XH3 (trivial) ?_
  refine Zb (Zc (ZK [0, 1, 2, 3, 4, 5, 6, 7, 8, 9, 10, 11, 12, 13, 14, 15, 16, 17, 18] #[0, 0, 1, 5, 15, 31, 63, 127, 255, 255, 255, 767, 2815, 7935, 16127, 32511, 255, 131071, 262143] XH3 XH3 XH3 ?_))
  refine Ok u62 rfl (W4x rfl rfl rfl rfl) ?_
  refine Om u62 ?_
  refine Oc u62 rfl rfl ?_
  refine Oc u62 rfl rfl ?_
  refine Oc u62 rfl XH34 ?_
  refine Ok u62 rfl (W4y rfl rfl rfl rfl) ?_
  refine Oc u62 rfl rfl ?_
  refine Om u62 ?_
  refine Xi 43 (env1 := u62) (env2 := u62) rfl rfl rfl (fun hg2 => ?_) (fun hg2 => ?_)
  ·try simp only [qB] at hg2
   refine Of u62 rfl ?_
   refine Of u62 rfl ?_
   refine Of u62 rfl ?_
   refine Of u62 rfl ?_
   refine Of u62 rfl ?_
   refine Of u62 rfl ?_
   refine Of u62 rfl ?_
   refine Of u62 rfl ?_
   refine Of u62 rfl ?_
   refine Of u62 rfl ?_
   refine Oc u62 rfl (ZF (VVal.bool true) rfl rfl rfl) ?_
   refine ZW [] XH3 (trivial) ?_
   refine Zb (ZN rfl rfl ?_)
   refine Zc (ZK [0, 1, 2, 3, 4, 5, 6, 7] #[0, 0, 0, 4, 1, 17, 63, 127] XH3 XH3 XH3 ?_)
   refine Ok u62 rfl (W4x rfl rfl rfl rfl) ?_
   refine Om u62 ?_
   refine Ok u62 rfl (W4x rfl rfl rfl rfl) ?_
   refine Oc u62 rfl (W14 rfl rfl rfl) ?_
   refine Oc u62 rfl rfl ?_
   refine Oc u62 rfl rfl ?_
   refine Oc u62 rfl XH34 ?_
   refine Oo u62 .turn rfl (W50 rfl rfl rfl rfl rfl rfl rfl) ?_
   refine ZW [] XH3 (trivial) ?_
   refine Zb (Zc (Za (Lo u62 (Ya (VVal.bool true) rfl rfl rfl rfl rfl rfl rfl XH18 XH5 (by exact ZO (Xu rfl))) ?_)))
   refine Zd (Zb (Zj (ZE (⟨(_, true), rfl, .inr ⟨Code.ret, rfl, ⟨rfl, ?_⟩⟩⟩))))
   first
    | exact ⟨by rw [hg, grL, if_neg hnseen, if_pos (by assumption)]; rfl, rfl⟩
    | exact ⟨by rw [hg, grL, if_neg hnseen, if_neg hno, if_pos (by assumption)]; rfl, rfl⟩
  try simp only [qB] at hg2
  have hno : ¬ s1.1.getD c 0 = 0 := by assumption
  have hgr := grw_ok (rows := rows) (n := n) (row := s1.1.getD c 0 - 1) (s := (s1.1, s1.2 ||| 1#64 <<< c)) (by omega) (by omega) hk1 XH30
  refine Ok u62 rfl (W4x rfl rfl rfl rfl) ?_
  refine Ok u62 rfl (W4x rfl rfl rfl rfl) ?_
  refine Om u62 ?_
  refine Oc u62 rfl rfl ?_
  refine Oc u62 rfl rfl ?_
  refine Oc u62 rfl XH34 ?_
  refine Ok u62 rfl (W4y rfl rfl rfl rfl) ?_
  refine Oc u62 rfl (W1y rfl rfl rfl) ?_
  refine Ok u62 rfl (W4x rfl rfl rfl rfl) ?_
  refine Yd (env' := u62) rfl rfl rfl rfl rfl (by exact grow_in hpq ih H _ (s1.1, s1.2 ||| 1#64 <<< c) hpH hqH _ (show (0 : Int) ≤ s1.1.getD c 0 - 1 by omega) (show s1.1.getD c 0 - 1 < (rows.length : Int) by omega) hk1 XH30) XH19 rfl rfl ?_
  refine Oc u62 rfl (ZY rfl rfl rfl) ?_
  refine ZW [] XH3 (trivial) ?_
  refine Zb (Zi _ rfl (fun hc3 => ?_) (fun hc3 => ?_))
  ·try simp only [qB] at hc3
   refine Zc (ZK [0, 1, 2, 3, 4, 5, 6, 7] #[0, 0, 0, 4, 1, 17, 63, 127] XH3 XH3 XH3 ?_)
   refine Ok u62 rfl (W4x rfl rfl rfl rfl) ?_
   refine Om u62 ?_
   refine Ok u62 rfl (W4x rfl rfl rfl rfl) ?_
   refine Oc u62 rfl (W14 rfl rfl rfl) ?_
   refine Oc u62 rfl rfl ?_
   refine Oc u62 rfl rfl ?_
   refine Oc u62 rfl XH34 ?_
   refine Oo u62 .turn rfl (W50 rfl rfl rfl rfl rfl rfl rfl) ?_
   refine ZW [] XH3 (trivial) ?_
   refine Zb (Zc (Za (Lo u62 (Ya (VVal.bool true) rfl rfl rfl rfl rfl rfl rfl XH18 XH5 (by exact ZO (Xu rfl))) ?_)))
   refine Zd (Zb (Zj (ZE (⟨(_, true), rfl, .inr ⟨Code.ret, rfl, ⟨rfl, ?_⟩⟩⟩))))
   first
    | exact ⟨by rw [hg, grL, if_neg hnseen, if_pos (by assumption)]; rfl, rfl⟩
    | exact ⟨by rw [hg, grL, if_neg hnseen, if_neg hno, if_pos (by assumption)]; rfl, rfl⟩
  try simp only [qB] at hc3
  refine Zh (Zq ?_)
  have hcg2 : YA 64 (s1.2 ||| 1#64 <<< c) ≤ YA 64 (grw rows n (s1.1.getD c 0 - 1) (s1.1, s1.2 ||| 1#64 <<< c)).2.2 := come_le2 hgr.sub
  refine ⟨(_, false), rfl, .inl ⟨rfl, ?_⟩⟩
  exact ⟨post, by rw [hx, List.append_assoc]; rfl, by rw [hg, grL, if_neg hnseen, if_neg hno, if_neg (Yr (by assumption))]; rfl, ((hgr.no (by assumption)).1).trans hO1, (by show 64 - YA 64 (grw rows n (s1.1.getD c 0 - 1) (s1.1, s1.2 ||| 1#64 <<< c)).2.2 ≤ n; omega), rfl⟩
 ·intro s k hk hI
  obtain ⟨s1, res⟩ := s
  try dsimp only at hI ⊢
  obtain ⟨z, hz, hg, hO1, hcm, hres⟩ := hI
  have hres : res = false := hres
  subst hres
  obtain rfl : z = [] := by simpa using hz
  refine Zq (Zb (Zc (Za (Lo u62 (Ya (VVal.bool false) rfl rfl rfl rfl rfl rfl rfl XH18 XH5 (by exact ZO (Xu rfl))) ?_))))
  refine Zd (Zb (Zj (W52 (.inr rfl) (Jk rfl rfl rfl rfl (by exact ZI (Xu rfl) rfl) (by first | rfl | assumption | exact Qv (by omega) | exact Jj (α := BitVec 64) 0 (by omega))) ?_)))
  exact ⟨by rw [show grw rows (n + 1) row (O, S) = (false, s1) from hg], by rw [show grw rows (n + 1) row (O, S) = (false, s1) from hg]⟩
 rintro j pre c post s k hk hx (⟨rfl, hX⟩)
 obtain ⟨s1, res⟩ := s
 try dsimp only
 obtain ⟨hX1, hX2⟩ := hX
 have hX2 : res = true := hX2
 subst hX2
 refine J_ret (ZE (Zl (W52 (.inr rfl) (Jk rfl rfl rfl rfl (by exact ZI (Xu rfl) rfl) (by first | rfl | assumption | exact Qv (by omega) | exact Jj (α := BitVec 64) 0 (by omega))) ?_)))
 exact ⟨by rw [show grw rows (n + 1) row (O, S) = (true, s1) from hX1], by rw [show grw rows (n + 1) row (O, S) = (true, s1) from hX1]⟩
end MM
end Go.Proofs.YtccgigdjkghieaaDoor.VT
