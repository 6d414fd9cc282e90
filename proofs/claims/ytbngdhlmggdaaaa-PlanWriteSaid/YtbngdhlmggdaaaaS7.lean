/- the document's problems: Check; walk -/
import Derived.Test.YtbngdhlmggdaaaaS6
set_option autoImplicit false
set_option linter.unusedVariables false
set_option linter.unusedSimpArgs false
set_option maxHeartbeats 4000000
set_option maxRecDepth 100000
namespace Go.Proofs.Ytbngdhlmggdaaaa.VT
open Go Go.V Go.RowKit

abbrev uS7n25 {a0 a1 a2 a3 a4 a5 a6 a7 a8 a9 a10 a11 a12 a13 a14 a15 a16 a17 a18 a19 a20 a21 a22 a23 a24 : VVal} : VEnv := a0 :: a1 :: a2 :: a3 :: a4 :: a5 :: a6 :: a7 :: a8 :: a9 :: a10 :: a11 :: a12 :: a13 :: a14 :: a15 :: a16 :: a17 :: a18 :: a19 :: a20 :: a21 :: a22 :: a23 :: a24 :: []
abbrev uS7n75 {a0 a1 a2 a3 a4 a5 a6 a7 a8 a9 a10 a11 a12 a13 a14 a15 a16 a17 a18 a19 a20 a21 a22 a23 a24 a25 a26 a27 a28 a29 a30 a31 a32 a33 a34 a35 a36 a37 a38 a39 a40 a41 a42 a43 a44 a45 a46 a47 a48 a49 a50 a51 a52 a53 a54 a55 a56 a57 a58 a59 a60 a61 a62 a63 a64 a65 a66 a67 a68 a69 a70 a71 a72 a73 a74 : VVal} : VEnv := a0 :: a1 :: a2 :: a3 :: a4 :: a5 :: a6 :: a7 :: a8 :: a9 :: a10 :: a11 :: a12 :: a13 :: a14 :: a15 :: a16 :: a17 :: a18 :: a19 :: a20 :: a21 :: a22 :: a23 :: a24 :: a25 :: a26 :: a27 :: a28 :: a29 :: a30 :: a31 :: a32 :: a33 :: a34 :: a35 :: a36 :: a37 :: a38 :: a39 :: a40 :: a41 :: a42 :: a43 :: a44 :: a45 :: a46 :: a47 :: a48 :: a49 :: a50 :: a51 :: a52 :: a53 :: a54 :: a55 :: a56 :: a57 :: a58 :: a59 :: a60 :: a61 :: a62 :: a63 :: a64 :: a65 :: a66 :: a67 :: a68 :: a69 :: a70 :: a71 :: a72 :: a73 :: a74 :: []

theorem wS7n0 {T : TypeId → Option VTy} {H : VHeap} {op : Op} {ρ : Operand → VVal} {t e : TypeId} {x i : Operand} {y z : VTy} {k : IntKind} {n : Int} {p v : VVal} {es : Nat} (ho : op = .indexAddr t x i) (hx : ρ x = p) (hi : ρ i = .int k n) (hy : T t = some y) (hd : y.desc = .slice e) (hz : T e = some z) (hs : z.size = es) (h : IxOk p es n v := by first | exact .inl ⟨_, _, _, rfl, by first | assumption | omega | (simp [*]; done) | (simp at *; omega), rfl⟩ | exact .inr ⟨_, _, _, _, _, rfl, by first | assumption | omega | (simp [*]; done) | (simp at *; omega), rfl⟩) : vop T ρ H op = some (v, H) := v_ix ho hx hi hy hd hz hs h
theorem wS7n1 {T : TypeId → Option VTy} {H : VHeap} {op : Op} {ρ : Operand → VVal} {t : TypeId} {a : Operand} {y : VTy} {p : VVal} {n : Nat} {vs : List VVal} (ho : op = .load t a) (ha : ρ a = p) (hy : T t = some y) (hd : isAggDesc y.desc = true) (hn : y.size = n) (h : LdOkA H p n vs := by first | exact .inl ⟨_, _, rfl, by first | rfl | exact rul_at (by omega)⟩ | exact .inr ⟨_, _, _, _, rfl, by first | exact get_app rfl rfl | exact get_out (by assumption) | exact getE0 rfl rfl | exact get_out (get_app rfl rfl) | exact get_app rfl (by assumption) | assumption | (simp only [List.append_assoc, List.singleton_append, List.cons_append, List.nil_append]; refine getE (i := 0) rfl ?_ rfl; simp; done) | (simp only [List.append_assoc, List.singleton_append, List.cons_append, List.nil_append]; refine getE (i := 1) rfl ?_ rfl; simp; done) | (simp only [List.append_assoc, List.singleton_append, List.cons_append, List.nil_append]; refine getE (i := 2) rfl ?_ rfl; simp; done) | (simp only [List.append_assoc, List.singleton_append, List.cons_append, List.nil_append]; refine getE (i := 3) rfl ?_ rfl; simp; done) | (simp [*]; done), by first | rfl | exact rul_at (by omega)⟩) : vop T ρ H op = some (.agg vs, H) := v_ldA ho ha hy hd hn h
theorem wS7n2 {T : TypeId → Option VTy} {H : VHeap} {op : Op} {ρ : Operand → VVal} {t ty : TypeId} {x y : Operand} {n m : Int} (ho : op = .binOp .add t x y ty) (hx : ρ x = .int .i64 n) (hy : ρ y = .int .i64 m) (h : -9223372036854775808 ≤ n + m ∧ n + m < 9223372036854775808 := by first | assumption | omega | (simp [*]; done) | (simp at *; omega)) : vop T ρ H op = some (.int .i64 (n + m), H) := v_addI ho hx hy h
theorem wS7n3 {T : TypeId → Option VTy} {H : VHeap} {op : Op} {ρ : Operand → VVal} {t : TypeId} {a : Operand} {y : VTy} {p v : VVal} (ho : op = .load t a) (ha : ρ a = p) (hy : T t = some y) (hd : isAggDesc y.desc = false) (h : LdOk H p v := by first | exact .inl ⟨_, _, rfl, by first | rfl | assumption | exact fgetN (α := BitVec 64) 0 (by omega) | exact fgetN (α := Int) 0 (by omega)⟩ | exact .inr ⟨_, _, _, _, rfl, by first | exact get_app rfl rfl | exact get_out (by assumption) | exact getE0 rfl rfl | exact get_out (get_app rfl rfl) | exact get_app rfl (by assumption) | assumption | (simp only [List.append_assoc, List.singleton_append, List.cons_append, List.nil_append]; refine getE (i := 0) rfl ?_ rfl; simp; done) | (simp only [List.append_assoc, List.singleton_append, List.cons_append, List.nil_append]; refine getE (i := 1) rfl ?_ rfl; simp; done) | (simp only [List.append_assoc, List.singleton_append, List.cons_append, List.nil_append]; refine getE (i := 2) rfl ?_ rfl; simp; done) | (simp only [List.append_assoc, List.singleton_append, List.cons_append, List.nil_append]; refine getE (i := 3) rfl ?_ rfl; simp; done) | (simp [*]; done), by first | rfl | assumption | exact fgetN (α := BitVec 64) 0 (by omega) | exact fgetN (α := Int) 0 (by omega)⟩) : vop T ρ H op = some (v, H) := v_ld ho ha hy hd h

def rgt (n : Int) (rs : List Rul) : Bool := decide (0 ≤ n ∧ n ≤ 12) && rs.all (rck n)
theorem rgt_fit {n : Int} {rs : List Rul} (h : ¬ (0 ≤ n ∧ n ≤ 12)) : rgt n rs = false := by unfold rgt; rw [decide_eq_false h, Bool.false_and]
theorem rgt_bad {n : Int} {rs : List Rul} {i : Nat} (hi : i < rs.length) (h : rck n (rs.getD i r0) = false) : rgt n rs = false := by
  unfold rgt
  rw [Bool.and_eq_false_iff]; right
  rw [List.all_eq_false]
  exact ⟨_, rul_mem hi, by rw [h]; decide⟩
theorem rgt_ok {n : Int} {rs : List Rul} (h : 0 ≤ n ∧ n ≤ 12) (h2 : ∀ r, r ∈ rs → rck n r = true) : rgt n rs = true := by
  unfold rgt; rw [decide_eq_true h, Bool.true_and, List.all_eq_true]; exact h2
theorem rgt_iff {n : Int} {rs : List Rul} : rgt n rs = true ↔ (0 ≤ n ∧ n ≤ 12) ∧ ∀ r, r ∈ rs → rck n r = true := by
  unfold rgt; rw [Bool.and_eq_true, decide_eq_true_eq, List.all_eq_true]

theorem fRight_spec {x : SW} (H : VHeap) (n : Int) (rs : List Rul) (hR : ∀ r, r ∈ rs → r.steps.length ≤ 1000000) (hn : rs.length ≤ 1000000) : F (psys x) 35 [iI n, fzR rs] H fun v G => v = .bool (rgt n rs) ∧ G = H := by
 refine F_body Try.func35 rfl uS7n25 rfl ?_
 refine B_seq (B_region ?_)
 refine L_op (env' := uS7n25) rfl rfl (v_const (VVal.bool false) (.inr rfl) rfl) rfl ?_
 refine L_nil (K_seq (B_seq (B_seq (B_region ?_))))
 refine L_op (env' := uS7n25) rfl rfl (v_move (.inl rfl) rfl) rfl ?_
 refine L_op (env' := uS7n25) rfl rfl (rfl) rfl ?_
 refine L_op (env' := uS7n25) rfl rfl (v_move (.inl rfl) rfl) rfl ?_
 refine L_split 8 (env1 := uS7n25) (env2 := uS7n25) rfl rfl rfl (fun hg1 => ?_) (fun hg1 => ?_)
 ·try simp only [qB, qN] at hg1
  refine L_off (env' := uS7n25) rfl rfl ?_
  refine L_off (env' := uS7n25) rfl rfl ?_
  refine L_op (env' := uS7n25) rfl rfl (v_pickTC (VVal.bool true) rfl rfl rfl) rfl ?_
  refine L_nil (K_seq ?_)
  refine B_true rfl rfl ?_
  refine B_seq (B_region ?_)
  refine L_op (env' := uS7n25) rfl rfl (v_const (VVal.bool false) (.inr rfl) rfl) rfl ?_
  refine L_nil (K_seq (B_ret (K_seqR ?_)))
  refine E_app (.inr rfl) (vres_tmp rfl rfl) (by first | exact BaseOk.refl _ | exact BaseOk.set (BaseOk.refl _) _ rfl) (by first | rfl | simp [VVal.under, VVal.underL, *]) ?_
  first
    | exact ⟨by rw [rgt_fit (by omega)], rfl⟩
    | exact ⟨by rw [rgt_bad (i := m) (by omega) (bool_f (by assumption))], rfl⟩
    | exact ⟨by rw [rgt_bad (i := m) (by omega) (by assumption)], rfl⟩
    | exact ⟨by rw [rgt_ok (by omega) (all_at fun i hi => hr i (by omega))], rfl⟩
 ·try simp only [qB, qN] at hg1
  refine L_op (env' := uS7n25) rfl rfl (v_move (.inl rfl) rfl) rfl ?_
  refine L_op (env' := uS7n25) rfl rfl (rfl) rfl ?_
  refine L_op (env' := uS7n25) rfl rfl (v_pickF rfl rfl rfl) rfl ?_
  refine L_nil (K_seq ?_)
  refine B_cond _ rfl (fun hc2 => ?_) (fun hc2 => ?_)
  ·try simp only [qB, qN] at hc2
   refine B_seq (B_region ?_)
   refine L_op (env' := uS7n25) rfl rfl (v_const (VVal.bool false) (.inr rfl) rfl) rfl ?_
   refine L_nil (K_seq (B_ret (K_seqR ?_)))
   refine E_app (.inr rfl) (vres_tmp rfl rfl) (by first | exact BaseOk.refl _ | exact BaseOk.set (BaseOk.refl _) _ rfl) (by first | rfl | simp [VVal.under, VVal.underL, *]) ?_
   first
     | exact ⟨by rw [rgt_fit (by omega)], rfl⟩
     | exact ⟨by rw [rgt_bad (i := m) (by omega) (bool_f (by assumption))], rfl⟩
     | exact ⟨by rw [rgt_bad (i := m) (by omega) (by assumption)], rfl⟩
     | exact ⟨by rw [rgt_ok (by omega) (all_at fun i hi => hr i (by omega))], rfl⟩
  ·try simp only [qB, qN] at hc2
   refine B_skip (K_seq (B_seq (B_seq (B_region ?_))))
   refine L_op (env' := uS7n25) rfl rfl (v_const (VVal.int .i64 0) (.inr rfl) rfl) rfl ?_
   refine L_nil (K_seq (B_block ?_))
   refine B_clear (mk 25 33554396) (env' := uS7n25) rfl ?_
   refine B_loopE (fun (m : Nat) => rs.length - m) (fun (m : Nat) => [(5, iI (m : Nat))]) (fun (m : Nat) G => (m ≤ rs.length ∧ ∀ i, i < m → rck n (rs.getD i r0) = true) ∧ G = H ++ []) 0 rfl ?_ ?_
   ·refine ⟨?_, rfl⟩
    exact ⟨Nat.zero_le _, fun i h => by omega⟩
   rintro m _ ⟨⟨hm, hr⟩, rfl⟩
   refine B_env (env' := uS7n25) rfl ?_
   refine B_seq (B_seq (B_region ?_))
   refine L_op (env' := uS7n25) rfl rfl (v_move (.inl rfl) rfl) rfl ?_
   refine L_op (env' := uS7n25) rfl rfl (v_move (.inl rfl) rfl) rfl ?_
   refine L_op (env' := uS7n25) rfl rfl (rfl) rfl ?_
   refine L_op (env' := uS7n25) rfl rfl (rfl) rfl ?_
   refine L_nil (K_seq ?_)
   refine B_cond _ rfl (fun hc3 => ?_) (fun hc3 => ?_)
   ·try simp only [qB, qN] at hc3
    refine B_skip (K_seq (B_seq (B_block (B_seq (B_region ?_)))))
    refine L_op (env' := uS7n25) rfl rfl (v_move (.inl rfl) rfl) rfl ?_
    refine L_op (env' := uS7n25) rfl rfl (v_move (.inl rfl) rfl) rfl ?_
    refine L_op (env' := uS7n25) rfl rfl (v_move (.inl rfl) rfl) rfl ?_
    refine L_op (env' := uS7n25) rfl rfl (wS7n0 rfl rfl rfl rfl rfl rfl rfl) rfl ?_
    refine L_op (env' := uS7n25) rfl rfl (wS7n1 rfl rfl rfl rfl rfl) rfl ?_
    refine L_call rfl rfl rfl (by exact fCheck_spec _ _ _ (hR _ (rul_mem (by omega)))) ?_
    rintro _ _ ⟨rfl, rfl⟩
    refine L_env (env' := uS7n25) rfl ?_
    refine L_op (env' := uS7n25) rfl rfl (rfl) rfl ?_
    refine L_nil (K_seq ?_)
    refine B_cond _ rfl (fun hc4 => ?_) (fun hc4 => ?_)
    ·try simp only [qB, qN] at hc4
     refine B_seq (B_region ?_)
     refine L_op (env' := uS7n25) rfl rfl (v_const (VVal.bool false) (.inr rfl) rfl) rfl ?_
     refine L_nil (K_seq (B_ret (K_blkR (K_seqR (K_loopR (K_blkR (K_seqR ?_)))))))
     refine E_app (.inr rfl) (vres_tmp rfl rfl) (by first | exact BaseOk.refl _ | exact BaseOk.set (BaseOk.refl _) _ rfl) (by first | rfl | simp [VVal.under, VVal.underL, *]) ?_
     first
       | exact ⟨by rw [rgt_fit (by omega)], rfl⟩
       | exact ⟨by rw [rgt_bad (i := m) (by omega) (bool_f (by assumption))], rfl⟩
       | exact ⟨by rw [rgt_bad (i := m) (by omega) (by assumption)], rfl⟩
       | exact ⟨by rw [rgt_ok (by omega) (all_at fun i hi => hr i (by omega))], rfl⟩
    ·try simp only [qB, qN] at hc4
     refine B_skip (K_blk (K_seq (B_region ?_)))
     refine L_op (env' := uS7n25) rfl rfl (v_move (.inl rfl) rfl) rfl ?_
     refine L_op (env' := uS7n25) rfl rfl (wS7n2 rfl rfl rfl) rfl ?_
     refine L_op (env' := uS7n25) rfl rfl (v_move (.inr rfl) rfl) rfl ?_
     refine L_nil ?_
     refine K_loop (mk 25 33554396) (env' := uS7n25) rfl ⟨m + 1, ?_, rfl, ?_⟩
     ·first | omega | (simp only []; omega)
     ·exact ⟨⟨by omega, fun i hi => by by_cases e : i = m; (subst e; assumption); exact hr i (by omega)⟩, rfl⟩
   ·try simp only [qB, qN] at hc3
    refine B_exit (K_seqX (K_loopX (K_blkX (K_seq (B_seq (B_region ?_))))))
    refine L_op (env' := uS7n25) rfl rfl (v_const (VVal.bool true) (.inr rfl) rfl) rfl ?_
    refine L_nil (K_seq (B_ret ?_))
    refine E_app (.inr rfl) (vres_tmp rfl rfl) (by first | exact BaseOk.refl _ | exact BaseOk.set (BaseOk.refl _) _ rfl) (by first | rfl | simp [VVal.under, VVal.underL, *]) ?_
    first
      | exact ⟨by rw [rgt_fit (by omega)], rfl⟩
      | exact ⟨by rw [rgt_bad (i := m) (by omega) (bool_f (by assumption))], rfl⟩
      | exact ⟨by rw [rgt_bad (i := m) (by omega) (by assumption)], rfl⟩
      | exact ⟨by rw [rgt_ok (by omega) (all_at fun i hi => hr i (by omega))], rfl⟩

theorem pck_1g {p : Pb} (h : ¬ (12 < p.who.length ∨ 64 < p.users ∨ 32 < p.rules.length)) (h2 : rgt p.who.length p.rules = false) : pck p = 1 := by
  unfold pck; rw [if_neg h]
  split
  · rfl
  · rw [if_neg]
    intro e
    rw [Bool.and_eq_true, List.all_eq_true (l := p.rules)] at e
    have := rgt_ok (n := p.who.length) (rs := p.rules) (by omega) e.2
    rw [h2] at this; cases this
theorem shr_64 (w : BitVec 64) : w >>> 64 = 0#64 := by
  rw [← BitVec.toNat_inj, BitVec.toNat_ushiftRight, Nat.shiftRight_eq_div_pow]
  exact Nat.div_eq_of_lt w.isLt
theorem okW_no {u f : Int} {w : BitVec 64} (h : ¬ w >>> u.toNat = 0#64) : okW u f w = false := by unfold okW; rw [decide_eq_false h, Bool.and_false]
theorem okW_no2 {u f : Int} {w : BitVec 64} (h : f < -1 ∨ u ≤ f) : okW u f w = false := by unfold okW; rw [decide_eq_false (by omega), Bool.false_and]
theorem okW_yes {u f : Int} {w : BitVec 64} (h1 : -1 ≤ f) (h2 : f < u) (h : w >>> u.toNat = 0#64) : okW u f w = true := by unfold okW; rw [decide_eq_true ⟨h1, h2⟩, decide_eq_true h]; rfl

theorem fpCheck_spec {x : SW} (H : VHeap) (p : Pb) (hp : PbL p) : F (psys x) 11 [.agg (pbB p)] H fun v G => v = iI (pck p) ∧ G = H := by
 have hp1 := hp.u; have hp2 := hp.w; have hp3 := hp.f; have hp4 := hp.r
 refine F_body Try.func11 rfl uS7n75 rfl ?_
 refine B_seq (B_region ?_)
 refine L_op (env' := uS7n75) rfl rfl (v_boxT rfl rfl rfl) rfl ?_
 refine L_op (env' := uS7n75) rfl rfl (v_const (VVal.int .i64 0) (.inr rfl) rfl) rfl ?_
 refine L_nil (K_seq (B_seq (B_region ?_)))
 refine L_op (env' := uS7n75) rfl rfl (rfl) rfl ?_
 refine L_op (env' := uS7n75) rfl rfl (wS7n3 rfl rfl rfl rfl) rfl ?_
 refine L_op (env' := uS7n75) rfl rfl (rfl) rfl ?_
 refine L_op (env' := uS7n75) rfl rfl (v_move (.inr rfl) rfl) rfl ?_
 refine L_nil (K_seq (B_seq (B_seq (B_region ?_))))
 refine L_op (env' := uS7n75) rfl rfl (v_move (.inl rfl) rfl) rfl ?_
 refine L_op (env' := uS7n75) rfl rfl (rfl) rfl ?_
 refine L_op (env' := uS7n75) rfl rfl (v_move (.inl rfl) rfl) rfl ?_
 refine L_split 10 (env1 := uS7n75) (env2 := uS7n75) rfl rfl rfl (fun hg1 => ?_) (fun hg1 => ?_)
 ·try simp only [qB, qN] at hg1
  refine L_off (env' := uS7n75) rfl rfl ?_
  refine L_off (env' := uS7n75) rfl rfl ?_
  refine L_off (env' := uS7n75) rfl rfl ?_
  refine L_op (env' := uS7n75) rfl rfl (v_pickTC (VVal.bool true) rfl rfl rfl) rfl ?_
  refine L_op (env' := uS7n75) rfl rfl (v_move (.inl rfl) rfl) rfl ?_
  refine L_off (env' := uS7n75) rfl rfl ?_
  refine L_off (env' := uS7n75) rfl rfl ?_
  refine L_off (env' := uS7n75) rfl rfl ?_
  refine L_off (env' := uS7n75) rfl rfl ?_
  refine L_op (env' := uS7n75) rfl rfl (v_pickTC (VVal.bool true) rfl rfl rfl) rfl ?_
  refine L_nil (K_seq ?_)
  refine B_true rfl rfl ?_
  refine B_seq (B_region ?_)
  refine L_op (env' := uS7n75) rfl rfl (v_const (VVal.int .i64 2) (.inr rfl) rfl) rfl ?_
  refine L_nil (K_seq (B_ret (K_seqR ?_)))
  refine E_app (.inr rfl) (vres_tmp rfl rfl) (by first | exact BaseOk.refl _ | exact BaseOk.set (BaseOk.refl _) _ rfl) (by first | rfl | simp [VVal.under, VVal.underL, *]) ?_
  first
    | exact ⟨by rw [pck_2 (by omega)], rfl⟩
    | exact ⟨by rw [pck_1 (by omega) (by omega)], rfl⟩
    | exact ⟨by rw [pck_1g (by omega) (bool_f (by assumption))], rfl⟩
    | exact ⟨by rw [pck_1g (by omega) (by assumption)], rfl⟩
    | exact ⟨by rw [pck_1w (i := k) hn1 hn2 (by omega) (okW_no2 (by omega))], rfl⟩
    | exact ⟨by rw [pck_1w (i := k) hn1 hn2 (by omega) (okW_no (by assumption))], rfl⟩
    | exact ⟨by rw [pck_0 hn1 hn2 (fun i hi => hw i (by omega)) (fun i hi => (rgt_iff.1 hgt).2 _ (rul_mem hi))], rfl⟩
 ·try simp only [qB, qN] at hg1
  refine L_op (env' := uS7n75) rfl rfl (rfl) rfl ?_
  refine L_op (env' := uS7n75) rfl rfl (wS7n3 rfl rfl rfl rfl) rfl ?_
  refine L_op (env' := uS7n75) rfl rfl (rfl) rfl ?_
  refine L_op (env' := uS7n75) rfl rfl (v_pickF rfl rfl rfl) rfl ?_
  refine L_op (env' := uS7n75) rfl rfl (v_move (.inl rfl) rfl) rfl ?_
  refine L_split 15 (env1 := uS7n75) (env2 := uS7n75) rfl rfl rfl (fun hg2 => ?_) (fun hg2 => ?_)
  ·try simp only [qB, qN] at hg2
   refine L_off (env' := uS7n75) rfl rfl ?_
   refine L_off (env' := uS7n75) rfl rfl ?_
   refine L_off (env' := uS7n75) rfl rfl ?_
   refine L_off (env' := uS7n75) rfl rfl ?_
   refine L_op (env' := uS7n75) rfl rfl (v_pickTC (VVal.bool true) rfl rfl rfl) rfl ?_
   refine L_nil (K_seq ?_)
   refine B_true rfl rfl ?_
   refine B_seq (B_region ?_)
   refine L_op (env' := uS7n75) rfl rfl (v_const (VVal.int .i64 2) (.inr rfl) rfl) rfl ?_
   refine L_nil (K_seq (B_ret (K_seqR ?_)))
   refine E_app (.inr rfl) (vres_tmp rfl rfl) (by first | exact BaseOk.refl _ | exact BaseOk.set (BaseOk.refl _) _ rfl) (by first | rfl | simp [VVal.under, VVal.underL, *]) ?_
   first
     | exact ⟨by rw [pck_2 (by omega)], rfl⟩
     | exact ⟨by rw [pck_1 (by omega) (by omega)], rfl⟩
     | exact ⟨by rw [pck_1g (by omega) (bool_f (by assumption))], rfl⟩
     | exact ⟨by rw [pck_1g (by omega) (by assumption)], rfl⟩
     | exact ⟨by rw [pck_1w (i := k) hn1 hn2 (by omega) (okW_no2 (by omega))], rfl⟩
     | exact ⟨by rw [pck_1w (i := k) hn1 hn2 (by omega) (okW_no (by assumption))], rfl⟩
     | exact ⟨by rw [pck_0 hn1 hn2 (fun i hi => hw i (by omega)) (fun i hi => (rgt_iff.1 hgt).2 _ (rul_mem hi))], rfl⟩
  ·try simp only [qB, qN] at hg2
   refine L_op (env' := uS7n75) rfl rfl (rfl) rfl ?_
   refine L_op (env' := uS7n75) rfl rfl (wS7n3 rfl rfl rfl rfl) rfl ?_
   refine L_op (env' := uS7n75) rfl rfl (rfl) rfl ?_
   refine L_op (env' := uS7n75) rfl rfl (rfl) rfl ?_
   refine L_op (env' := uS7n75) rfl rfl (v_pickF rfl rfl rfl) rfl ?_
   refine L_nil (K_seq ?_)
   refine B_cond _ rfl (fun hc3 => ?_) (fun hc3 => ?_)
   ·try simp only [qB, qN] at hc3
    refine B_seq (B_region ?_)
    refine L_op (env' := uS7n75) rfl rfl (v_const (VVal.int .i64 2) (.inr rfl) rfl) rfl ?_
    refine L_nil (K_seq (B_ret (K_seqR ?_)))
    refine E_app (.inr rfl) (vres_tmp rfl rfl) (by first | exact BaseOk.refl _ | exact BaseOk.set (BaseOk.refl _) _ rfl) (by first | rfl | simp [VVal.under, VVal.underL, *]) ?_
    first
      | exact ⟨by rw [pck_2 (by omega)], rfl⟩
      | exact ⟨by rw [pck_1 (by omega) (by omega)], rfl⟩
      | exact ⟨by rw [pck_1g (by omega) (bool_f (by assumption))], rfl⟩
      | exact ⟨by rw [pck_1g (by omega) (by assumption)], rfl⟩
      | exact ⟨by rw [pck_1w (i := k) hn1 hn2 (by omega) (okW_no2 (by omega))], rfl⟩
      | exact ⟨by rw [pck_1w (i := k) hn1 hn2 (by omega) (okW_no (by assumption))], rfl⟩
      | exact ⟨by rw [pck_0 hn1 hn2 (fun i hi => hw i (by omega)) (fun i hi => (rgt_iff.1 hgt).2 _ (rul_mem hi))], rfl⟩
   ·try simp only [qB, qN] at hc3
    refine B_skip (K_seq (B_seq (B_seq (B_region ?_))))
    refine L_op (env' := uS7n75) rfl rfl (rfl) rfl ?_
    refine L_op (env' := uS7n75) rfl rfl (wS7n3 rfl rfl rfl rfl) rfl ?_
    refine L_op (env' := uS7n75) rfl rfl (rfl) rfl ?_
    refine L_op (env' := uS7n75) rfl rfl (v_move (.inl rfl) rfl) rfl ?_
    refine L_split 24 (env1 := uS7n75) (env2 := uS7n75) rfl rfl rfl (fun hg4 => ?_) (fun hg4 => ?_)
    ·try simp only [qB, qN] at hg4
     refine L_off (env' := uS7n75) rfl rfl ?_
     refine L_off (env' := uS7n75) rfl rfl ?_
     refine L_off (env' := uS7n75) rfl rfl ?_
     refine L_off (env' := uS7n75) rfl rfl ?_
     refine L_off (env' := uS7n75) rfl rfl ?_
     refine L_op (env' := uS7n75) rfl rfl (v_pickTC (VVal.bool true) rfl rfl rfl) rfl ?_
     refine L_op (env' := uS7n75) rfl rfl (v_move (.inl rfl) rfl) rfl ?_
     refine L_off (env' := uS7n75) rfl rfl ?_
     refine L_off (env' := uS7n75) rfl rfl ?_
     refine L_off (env' := uS7n75) rfl rfl ?_
     refine L_off (env' := uS7n75) rfl rfl ?_
     refine L_off (env' := uS7n75) rfl rfl ?_
     refine L_op (env' := uS7n75) rfl rfl (v_pickTC (VVal.bool true) rfl rfl rfl) rfl ?_
     refine L_nil (K_seq ?_)
     refine B_true rfl rfl ?_
     refine B_seq (B_region ?_)
     refine L_op (env' := uS7n75) rfl rfl (v_const (VVal.int .i64 1) (.inr rfl) rfl) rfl ?_
     refine L_nil (K_seq (B_ret (K_seqR ?_)))
     refine E_app (.inr rfl) (vres_tmp rfl rfl) (by first | exact BaseOk.refl _ | exact BaseOk.set (BaseOk.refl _) _ rfl) (by first | rfl | simp [VVal.under, VVal.underL, *]) ?_
     first
       | exact ⟨by rw [pck_2 (by omega)], rfl⟩
       | exact ⟨by rw [pck_1 (by omega) (by omega)], rfl⟩
       | exact ⟨by rw [pck_1g (by omega) (bool_f (by assumption))], rfl⟩
       | exact ⟨by rw [pck_1g (by omega) (by assumption)], rfl⟩
       | exact ⟨by rw [pck_1w (i := k) hn1 hn2 (by omega) (okW_no2 (by omega))], rfl⟩
       | exact ⟨by rw [pck_1w (i := k) hn1 hn2 (by omega) (okW_no (by assumption))], rfl⟩
       | exact ⟨by rw [pck_0 hn1 hn2 (fun i hi => hw i (by omega)) (fun i hi => (rgt_iff.1 hgt).2 _ (rul_mem hi))], rfl⟩
    ·try simp only [qB, qN] at hg4
     refine L_op (env' := uS7n75) rfl rfl (rfl) rfl ?_
     refine L_op (env' := uS7n75) rfl rfl (wS7n3 rfl rfl rfl rfl) rfl ?_
     refine L_op (env' := uS7n75) rfl rfl (rfl) rfl ?_
     refine L_op (env' := uS7n75) rfl rfl (v_move (.inl rfl) rfl) rfl ?_
     refine L_op (env' := uS7n75) rfl rfl (rfl) rfl ?_
     refine L_op (env' := uS7n75) rfl rfl (v_pickF rfl rfl rfl) rfl ?_
     refine L_op (env' := uS7n75) rfl rfl (v_move (.inl rfl) rfl) rfl ?_
     refine L_split 31 (env1 := uS7n75) (env2 := uS7n75) rfl rfl rfl (fun hg5 => ?_) (fun hg5 => ?_)
     ·try simp only [qB, qN] at hg5
      refine L_off (env' := uS7n75) rfl rfl ?_
      refine L_off (env' := uS7n75) rfl rfl ?_
      refine L_off (env' := uS7n75) rfl rfl ?_
      refine L_off (env' := uS7n75) rfl rfl ?_
      refine L_off (env' := uS7n75) rfl rfl ?_
      refine L_op (env' := uS7n75) rfl rfl (v_pickTC (VVal.bool true) rfl rfl rfl) rfl ?_
      refine L_nil (K_seq ?_)
      refine B_true rfl rfl ?_
      refine B_seq (B_region ?_)
      refine L_op (env' := uS7n75) rfl rfl (v_const (VVal.int .i64 1) (.inr rfl) rfl) rfl ?_
      refine L_nil (K_seq (B_ret (K_seqR ?_)))
      refine E_app (.inr rfl) (vres_tmp rfl rfl) (by first | exact BaseOk.refl _ | exact BaseOk.set (BaseOk.refl _) _ rfl) (by first | rfl | simp [VVal.under, VVal.underL, *]) ?_
      first
        | exact ⟨by rw [pck_2 (by omega)], rfl⟩
        | exact ⟨by rw [pck_1 (by omega) (by omega)], rfl⟩
        | exact ⟨by rw [pck_1g (by omega) (bool_f (by assumption))], rfl⟩
        | exact ⟨by rw [pck_1g (by omega) (by assumption)], rfl⟩
        | exact ⟨by rw [pck_1w (i := k) hn1 hn2 (by omega) (okW_no2 (by omega))], rfl⟩
        | exact ⟨by rw [pck_1w (i := k) hn1 hn2 (by omega) (okW_no (by assumption))], rfl⟩
        | exact ⟨by rw [pck_0 hn1 hn2 (fun i hi => hw i (by omega)) (fun i hi => (rgt_iff.1 hgt).2 _ (rul_mem hi))], rfl⟩
     ·try simp only [qB, qN] at hg5
      refine L_op (env' := uS7n75) rfl rfl (v_move (.inl rfl) rfl) rfl ?_
      refine L_op (env' := uS7n75) rfl rfl (rfl) rfl ?_
      refine L_op (env' := uS7n75) rfl rfl (wS7n3 rfl rfl rfl rfl) rfl ?_
      refine L_call rfl rfl rfl (by exact fRight_spec _ _ _ hp.s hp4) ?_
      rintro _ _ ⟨rfl, rfl⟩
      refine L_env (env' := uS7n75) rfl ?_
      refine L_op (env' := uS7n75) rfl rfl (rfl) rfl ?_
      refine L_op (env' := uS7n75) rfl rfl (v_pickF rfl rfl rfl) rfl ?_
      refine L_nil (K_seq ?_)
      refine B_cond _ rfl (fun hc6 => ?_) (fun hc6 => ?_)
      ·try simp only [qB, qN] at hc6
       refine B_seq (B_region ?_)
       refine L_op (env' := uS7n75) rfl rfl (v_const (VVal.int .i64 1) (.inr rfl) rfl) rfl ?_
       refine L_nil (K_seq (B_ret (K_seqR ?_)))
       refine E_app (.inr rfl) (vres_tmp rfl rfl) (by first | exact BaseOk.refl _ | exact BaseOk.set (BaseOk.refl _) _ rfl) (by first | rfl | simp [VVal.under, VVal.underL, *]) ?_
       first
         | exact ⟨by rw [pck_2 (by omega)], rfl⟩
         | exact ⟨by rw [pck_1 (by omega) (by omega)], rfl⟩
         | exact ⟨by rw [pck_1g (by omega) (bool_f (by assumption))], rfl⟩
         | exact ⟨by rw [pck_1g (by omega) (by assumption)], rfl⟩
         | exact ⟨by rw [pck_1w (i := k) hn1 hn2 (by omega) (okW_no2 (by omega))], rfl⟩
         | exact ⟨by rw [pck_1w (i := k) hn1 hn2 (by omega) (okW_no (by assumption))], rfl⟩
         | exact ⟨by rw [pck_0 hn1 hn2 (fun i hi => hw i (by omega)) (fun i hi => (rgt_iff.1 hgt).2 _ (rul_mem hi))], rfl⟩
      ·try simp only [qB, qN] at hc6
       refine B_skip (K_seq (B_seq (B_seq ?_)))
       have hn1 : ¬ (12 < p.who.length ∨ 64 < p.users ∨ 32 < p.rules.length) := by omega
       have hn2 : ¬ (p.users < 0 ∨ p.fixed.length ≠ p.who.length) := by omega
       have hgt : rgt p.who.length p.rules = true := by assumption
       refine B_region ?_
       refine L_op (env' := uS7n75) rfl rfl (v_const (VVal.int .i64 0) (.inr rfl) rfl) rfl ?_
       refine L_nil (K_seq (B_block ?_))
       refine B_clear (mk 75 37778931862957161709541) (env' := uS7n75) rfl ?_
       refine B_loopE (fun (k : Nat) => p.who.length - k) (fun (k : Nat) => [(4, iI (k : Nat))]) (fun (k : Nat) G => (k ≤ p.who.length ∧ ∀ i, i < k → okW p.users (p.fixed.getD i 0) (p.who.getD i 0) = true) ∧ G = H ++ [.cells (pbB p) true]) 0 rfl ?_ ?_
       ·refine ⟨?_, rfl⟩
        exact ⟨Nat.zero_le _, fun i h => by omega⟩
       rintro k _ ⟨⟨hk, hw⟩, rfl⟩
       refine B_env (env' := uS7n75) rfl ?_
       refine B_seq (B_seq (B_region ?_))
       refine L_op (env' := uS7n75) rfl rfl (v_move (.inl rfl) rfl) rfl ?_
       refine L_op (env' := uS7n75) rfl rfl (v_move (.inl rfl) rfl) rfl ?_
       refine L_op (env' := uS7n75) rfl rfl (rfl) rfl ?_
       refine L_nil (K_seq ?_)
       refine B_cond _ rfl (fun hc7 => ?_) (fun hc7 => ?_)
       ·try simp only [qB, qN] at hc7
        refine B_skip (K_seq (B_seq (B_block (B_seq ?_))))
        refine B_draw [0, 1, 2, 3, 4, 5, 6, 7, 8, 9, 10, 11, 12, 13, 14, 15, 16, 17, 18, 19, 20, 21, 22, 23, 24, 25, 26, 27, 28, 29, 30, 31] #[0, 1, 0, 7, 15, 31, 63, 127, 255, 127, 1023, 2047, 127, 4223, 16383, 32767, 65535, 131071, 262143, 524287, 1048575, 2097151, 4194303, 2097151, 16777215, 33554431, 2097151, 69206015, 268435455, 536870911, 1073741823, 2147483647] (by kernel_rfl) (by kernel_rfl) (by kernel_rfl) ?_
        refine O_op (env' := uS7n75) (c := .calm) rfl rfl rfl (rfl) rfl rfl rfl ?_
        refine O_op (env' := uS7n75) (c := .look) rfl rfl rfl (wS7n3 rfl rfl rfl rfl) rfl rfl rfl ?_
        refine O_op (env' := uS7n75) (c := .calm) rfl rfl rfl (v_move (.inl rfl) rfl) rfl rfl rfl ?_
        refine O_op (env' := uS7n75) (c := .calm) rfl rfl rfl (wS7n0 rfl rfl rfl rfl rfl rfl rfl) rfl rfl rfl ?_
        refine O_op (env' := uS7n75) (c := .look) rfl rfl rfl (wS7n3 rfl rfl rfl rfl) rfl rfl rfl ?_
        refine O_op (env' := uS7n75) (c := .calm) rfl rfl rfl (rfl) rfl rfl rfl ?_
        refine O_op (env' := uS7n75) (c := .calm) rfl rfl rfl (v_move (.inl rfl) rfl) rfl rfl rfl ?_
        refine O_split 49 (env1 := uS7n75) (env2 := uS7n75) rfl rfl rfl (fun hg8 => ?_) (fun hg8 => ?_)
        ·try simp only [qB, qN] at hg8
         refine O_off (env' := uS7n75) rfl rfl rfl rfl ?_
         refine O_off (env' := uS7n75) rfl rfl rfl rfl ?_
         refine O_off (env' := uS7n75) rfl rfl rfl rfl ?_
         refine O_off (env' := uS7n75) rfl rfl rfl rfl ?_
         refine O_off (env' := uS7n75) rfl rfl rfl rfl ?_
         refine O_off (env' := uS7n75) rfl rfl rfl rfl ?_
         refine O_off (env' := uS7n75) rfl rfl rfl rfl ?_
         refine O_off (env' := uS7n75) rfl rfl rfl rfl ?_
         refine O_op (env' := uS7n75) (c := .calm) rfl rfl rfl (v_pickTC (VVal.bool true) rfl rfl rfl) rfl rfl rfl ?_
         refine O_op (env' := uS7n75) (c := .calm) rfl rfl rfl (v_move (.inl rfl) rfl) rfl rfl rfl ?_
         refine O_off (env' := uS7n75) rfl rfl rfl rfl ?_
         refine O_off (env' := uS7n75) rfl rfl rfl rfl ?_
         refine O_off (env' := uS7n75) rfl rfl rfl rfl ?_
         refine O_off (env' := uS7n75) rfl rfl rfl rfl ?_
         refine O_off (env' := uS7n75) rfl rfl rfl rfl ?_
         refine O_off (env' := uS7n75) rfl rfl rfl rfl ?_
         refine O_off (env' := uS7n75) rfl rfl rfl rfl ?_
         refine O_off (env' := uS7n75) rfl rfl rfl rfl ?_
         refine O_off (env' := uS7n75) rfl rfl rfl rfl ?_
         refine O_off (env' := uS7n75) rfl rfl rfl rfl ?_
         refine O_off (env' := uS7n75) rfl rfl rfl rfl ?_
         refine O_off (env' := uS7n75) rfl rfl rfl rfl ?_
         refine O_off (env' := uS7n75) rfl rfl rfl rfl ?_
         refine O_off (env' := uS7n75) rfl rfl rfl rfl ?_
         refine O_op (env' := uS7n75) (c := .calm) rfl rfl rfl (v_pickTC (VVal.bool true) rfl rfl rfl) rfl rfl rfl ?_
         refine O_nil [] (by kernel_rfl) (trivial) ?_
         refine K_seq ?_
         refine B_true rfl rfl ?_
         refine B_seq (B_region ?_)
         refine L_op (env' := uS7n75) rfl rfl (v_const (VVal.int .i64 1) (.inr rfl) rfl) rfl ?_
         refine L_nil (K_seq (B_ret (K_blkR (K_seqR (K_loopR (K_blkR (K_seqR ?_)))))))
         refine E_app (.inr rfl) (vres_tmp rfl rfl) (by first | exact BaseOk.refl _ | exact BaseOk.set (BaseOk.refl _) _ rfl) (by first | rfl | simp [VVal.under, VVal.underL, *]) ?_
         first
           | exact ⟨by rw [pck_2 (by omega)], rfl⟩
           | exact ⟨by rw [pck_1 (by omega) (by omega)], rfl⟩
           | exact ⟨by rw [pck_1g (by omega) (bool_f (by assumption))], rfl⟩
           | exact ⟨by rw [pck_1g (by omega) (by assumption)], rfl⟩
           | exact ⟨by rw [pck_1w (i := k) hn1 hn2 (by omega) (okW_no2 (by omega))], rfl⟩
           | exact ⟨by rw [pck_1w (i := k) hn1 hn2 (by omega) (okW_no (by assumption))], rfl⟩
           | exact ⟨by rw [pck_0 hn1 hn2 (fun i hi => hw i (by omega)) (fun i hi => (rgt_iff.1 hgt).2 _ (rul_mem hi))], rfl⟩
        ·try simp only [qB, qN] at hg8
         refine O_op (env' := uS7n75) (c := .calm) rfl rfl rfl (rfl) rfl rfl rfl ?_
         refine O_op (env' := uS7n75) (c := .look) rfl rfl rfl (wS7n3 rfl rfl rfl rfl) rfl rfl rfl ?_
         refine O_op (env' := uS7n75) (c := .calm) rfl rfl rfl (v_move (.inl rfl) rfl) rfl rfl rfl ?_
         refine O_op (env' := uS7n75) (c := .calm) rfl rfl rfl (wS7n0 rfl rfl rfl rfl rfl rfl rfl) rfl rfl rfl ?_
         refine O_op (env' := uS7n75) (c := .look) rfl rfl rfl (wS7n3 rfl rfl rfl rfl) rfl rfl rfl ?_
         refine O_op (env' := uS7n75) (c := .calm) rfl rfl rfl (rfl) rfl rfl rfl ?_
         refine O_op (env' := uS7n75) (c := .look) rfl rfl rfl (wS7n3 rfl rfl rfl rfl) rfl rfl rfl ?_
         refine O_op (env' := uS7n75) (c := .calm) rfl rfl rfl (rfl) rfl rfl rfl ?_
         refine O_op (env' := uS7n75) (c := .calm) rfl rfl rfl (v_pickF rfl rfl rfl) rfl rfl rfl ?_
         refine O_op (env' := uS7n75) (c := .calm) rfl rfl rfl (v_move (.inl rfl) rfl) rfl rfl rfl ?_
         refine O_split 59 (env1 := uS7n75) (env2 := uS7n75) rfl rfl rfl (fun hg9 => ?_) (fun hg9 => ?_)
         ·try simp only [qB, qN] at hg9
          refine O_off (env' := uS7n75) rfl rfl rfl rfl ?_
          refine O_off (env' := uS7n75) rfl rfl rfl rfl ?_
          refine O_off (env' := uS7n75) rfl rfl rfl rfl ?_
          refine O_off (env' := uS7n75) rfl rfl rfl rfl ?_
          refine O_off (env' := uS7n75) rfl rfl rfl rfl ?_
          refine O_off (env' := uS7n75) rfl rfl rfl rfl ?_
          refine O_off (env' := uS7n75) rfl rfl rfl rfl ?_
          refine O_off (env' := uS7n75) rfl rfl rfl rfl ?_
          refine O_off (env' := uS7n75) rfl rfl rfl rfl ?_
          refine O_off (env' := uS7n75) rfl rfl rfl rfl ?_
          refine O_off (env' := uS7n75) rfl rfl rfl rfl ?_
          refine O_off (env' := uS7n75) rfl rfl rfl rfl ?_
          refine O_off (env' := uS7n75) rfl rfl rfl rfl ?_
          refine O_off (env' := uS7n75) rfl rfl rfl rfl ?_
          refine O_op (env' := uS7n75) (c := .calm) rfl rfl rfl (v_pickTC (VVal.bool true) rfl rfl rfl) rfl rfl rfl ?_
          refine O_nil [] (by kernel_rfl) (trivial) ?_
          refine K_seq ?_
          refine B_true rfl rfl ?_
          refine B_seq (B_region ?_)
          refine L_op (env' := uS7n75) rfl rfl (v_const (VVal.int .i64 1) (.inr rfl) rfl) rfl ?_
          refine L_nil (K_seq (B_ret (K_blkR (K_seqR (K_loopR (K_blkR (K_seqR ?_)))))))
          refine E_app (.inr rfl) (vres_tmp rfl rfl) (by first | exact BaseOk.refl _ | exact BaseOk.set (BaseOk.refl _) _ rfl) (by first | rfl | simp [VVal.under, VVal.underL, *]) ?_
          first
            | exact ⟨by rw [pck_2 (by omega)], rfl⟩
            | exact ⟨by rw [pck_1 (by omega) (by omega)], rfl⟩
            | exact ⟨by rw [pck_1g (by omega) (bool_f (by assumption))], rfl⟩
            | exact ⟨by rw [pck_1g (by omega) (by assumption)], rfl⟩
            | exact ⟨by rw [pck_1w (i := k) hn1 hn2 (by omega) (okW_no2 (by omega))], rfl⟩
            | exact ⟨by rw [pck_1w (i := k) hn1 hn2 (by omega) (okW_no (by assumption))], rfl⟩
            | exact ⟨by rw [pck_0 hn1 hn2 (fun i hi => hw i (by omega)) (fun i hi => (rgt_iff.1 hgt).2 _ (rul_mem hi))], rfl⟩
         ·try simp only [qB, qN] at hg9
          refine O_op (env' := uS7n75) (c := .calm) rfl rfl rfl (rfl) rfl rfl rfl ?_
          refine O_op (env' := uS7n75) (c := .look) rfl rfl rfl (wS7n3 rfl rfl rfl rfl) rfl rfl rfl ?_
          refine O_op (env' := uS7n75) (c := .calm) rfl rfl rfl (rfl) rfl rfl rfl ?_
          refine O_op (env' := uS7n75) (c := .calm) rfl rfl rfl (v_move (.inl rfl) rfl) rfl rfl rfl ?_
          refine O_split 63 (env1 := uS7n75) (env2 := uS7n75) rfl rfl rfl (fun hg10 => ?_) (fun hg10 => ?_)
          ·try simp only [qB, qN] at hg10
           refine O_op (env' := uS7n75) (c := .calm) rfl rfl rfl (rfl) rfl rfl rfl ?_
           refine O_op (env' := uS7n75) (c := .look) rfl rfl rfl (wS7n3 rfl rfl rfl rfl) rfl rfl rfl ?_
           refine O_op (env' := uS7n75) (c := .calm) rfl rfl rfl (v_move (.inl rfl) rfl) rfl rfl rfl ?_
           refine O_op (env' := uS7n75) (c := .calm) rfl rfl rfl (wS7n0 rfl rfl rfl rfl rfl rfl rfl) rfl rfl rfl ?_
           refine O_op (env' := uS7n75) (c := .look) rfl rfl rfl (wS7n3 rfl rfl rfl rfl) rfl rfl rfl ?_
           refine O_op (env' := uS7n75) (c := .calm) rfl rfl rfl (rfl) rfl rfl rfl ?_
           refine O_op (env' := uS7n75) (c := .look) rfl rfl rfl (wS7n3 rfl rfl rfl rfl) rfl rfl rfl ?_
           refine O_op (env' := uS7n75) (c := .calm) rfl rfl rfl (v_shrW rfl rfl rfl (by first | assumption | omega | (simp [*]; done) | (simp at *; omega))) rfl rfl rfl ?_
           refine O_op (env' := uS7n75) (c := .calm) rfl rfl rfl (rfl) rfl rfl rfl ?_
           refine O_op (env' := uS7n75) (c := .calm) rfl rfl rfl (v_pickT rfl rfl rfl) rfl rfl rfl ?_
           refine O_op (env' := uS7n75) (c := .calm) rfl rfl rfl (v_pickF rfl rfl rfl) rfl rfl rfl ?_
           refine O_nil [] (by kernel_rfl) (trivial) ?_
           refine K_seq ?_
           refine B_cond _ rfl (fun hc11 => ?_) (fun hc11 => ?_)
           ·try simp only [qB, qN] at hc11
            refine B_seq (B_region ?_)
            refine L_op (env' := uS7n75) rfl rfl (v_const (VVal.int .i64 1) (.inr rfl) rfl) rfl ?_
            refine L_nil (K_seq (B_ret (K_blkR (K_seqR (K_loopR (K_blkR (K_seqR ?_)))))))
            refine E_app (.inr rfl) (vres_tmp rfl rfl) (by first | exact BaseOk.refl _ | exact BaseOk.set (BaseOk.refl _) _ rfl) (by first | rfl | simp [VVal.under, VVal.underL, *]) ?_
            first
              | exact ⟨by rw [pck_2 (by omega)], rfl⟩
              | exact ⟨by rw [pck_1 (by omega) (by omega)], rfl⟩
              | exact ⟨by rw [pck_1g (by omega) (bool_f (by assumption))], rfl⟩
              | exact ⟨by rw [pck_1g (by omega) (by assumption)], rfl⟩
              | exact ⟨by rw [pck_1w (i := k) hn1 hn2 (by omega) (okW_no2 (by omega))], rfl⟩
              | exact ⟨by rw [pck_1w (i := k) hn1 hn2 (by omega) (okW_no (by assumption))], rfl⟩
              | exact ⟨by rw [pck_0 hn1 hn2 (fun i hi => hw i (by omega)) (fun i hi => (rgt_iff.1 hgt).2 _ (rul_mem hi))], rfl⟩
           ·try simp only [qB, qN] at hc11
            refine B_skip (K_blk (K_seq (B_region ?_)))
            refine L_op (env' := uS7n75) rfl rfl (v_move (.inl rfl) rfl) rfl ?_
            refine L_op (env' := uS7n75) rfl rfl (wS7n2 rfl rfl rfl) rfl ?_
            refine L_op (env' := uS7n75) rfl rfl (v_move (.inr rfl) rfl) rfl ?_
            refine L_nil ?_
            refine K_loop (mk 75 37778931862957161709541) (env' := uS7n75) rfl ⟨k + 1, ?_, rfl, ?_⟩
            ·first | omega | (simp only []; omega)
            ·exact ⟨⟨by omega, fun i hi => by by_cases e : i = k; (subst e; exact okW_yes (by omega) (by omega) (by first | assumption | (have e64 : p.users = 64 := by omega); rw [e64]; exact shr_64 _)); exact hw i (by omega)⟩, rfl⟩
          ·try simp only [qB, qN] at hg10
           refine O_off (env' := uS7n75) rfl rfl rfl rfl ?_
           refine O_off (env' := uS7n75) rfl rfl rfl rfl ?_
           refine O_off (env' := uS7n75) rfl rfl rfl rfl ?_
           refine O_off (env' := uS7n75) rfl rfl rfl rfl ?_
           refine O_off (env' := uS7n75) rfl rfl rfl rfl ?_
           refine O_off (env' := uS7n75) rfl rfl rfl rfl ?_
           refine O_off (env' := uS7n75) rfl rfl rfl rfl ?_
           refine O_off (env' := uS7n75) rfl rfl rfl rfl ?_
           refine O_off (env' := uS7n75) rfl rfl rfl rfl ?_
           refine O_op (env' := uS7n75) (c := .calm) rfl rfl rfl (v_pickFC (VVal.bool false) rfl rfl rfl) rfl rfl rfl ?_
           refine O_op (env' := uS7n75) (c := .calm) rfl rfl rfl (v_pickF rfl rfl rfl) rfl rfl rfl ?_
           refine O_nil [] (by kernel_rfl) (trivial) ?_
           refine K_seq ?_
           refine B_false rfl rfl ?_
           refine B_skip (K_blk (K_seq (B_region ?_)))
           refine L_op (env' := uS7n75) rfl rfl (v_move (.inl rfl) rfl) rfl ?_
           refine L_op (env' := uS7n75) rfl rfl (wS7n2 rfl rfl rfl) rfl ?_
           refine L_op (env' := uS7n75) rfl rfl (v_move (.inr rfl) rfl) rfl ?_
           refine L_nil ?_
           refine K_loop (mk 75 37778931862957161709541) (env' := uS7n75) rfl ⟨k + 1, ?_, rfl, ?_⟩
           ·first | omega | (simp only []; omega)
           ·exact ⟨⟨by omega, fun i hi => by by_cases e : i = k; (subst e; exact okW_yes (by omega) (by omega) (by first | assumption | (have e64 : p.users = 64 := by omega); rw [e64]; exact shr_64 _)); exact hw i (by omega)⟩, rfl⟩
       ·try simp only [qB, qN] at hc7
        refine B_exit (K_seqX (K_loopX (K_blkX (K_seq (B_seq (B_region ?_))))))
        refine L_op (env' := uS7n75) rfl rfl (v_const (VVal.int .i64 0) (.inr rfl) rfl) rfl ?_
        refine L_nil (K_seq (B_ret ?_))
        refine E_app (.inr rfl) (vres_tmp rfl rfl) (by first | exact BaseOk.refl _ | exact BaseOk.set (BaseOk.refl _) _ rfl) (by first | rfl | simp [VVal.under, VVal.underL, *]) ?_
        first
          | exact ⟨by rw [pck_2 (by omega)], rfl⟩
          | exact ⟨by rw [pck_1 (by omega) (by omega)], rfl⟩
          | exact ⟨by rw [pck_1g (by omega) (bool_f (by assumption))], rfl⟩
          | exact ⟨by rw [pck_1g (by omega) (by assumption)], rfl⟩
          | exact ⟨by rw [pck_1w (i := k) hn1 hn2 (by omega) (okW_no2 (by omega))], rfl⟩
          | exact ⟨by rw [pck_1w (i := k) hn1 hn2 (by omega) (okW_no (by assumption))], rfl⟩
          | exact ⟨by rw [pck_0 hn1 hn2 (fun i hi => hw i (by omega)) (fun i hi => (rgt_iff.1 hgt).2 _ (rul_mem hi))], rfl⟩
end Go.Proofs.Ytbngdhlmggdaaaa.VT
