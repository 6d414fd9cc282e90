/- rules: do labels keep them; walks -/
import Derived.Test.YtbngdhlmggdaaaaS2
set_option autoImplicit false
set_option linter.unusedVariables false
set_option linter.unusedSimpArgs false
set_option maxHeartbeats 4000000
set_option maxRecDepth 100000
namespace Go.Proofs.Ytbngdhlmggdaaaa.VT
open Go Go.V Go.RowKit

abbrev uS3n8 {a0 a1 a2 a3 a4 a5 a6 a7 : VVal} : VEnv := a0 :: a1 :: a2 :: a3 :: a4 :: a5 :: a6 :: a7 :: []
abbrev uS3n9 {a0 a1 a2 a3 a4 a5 a6 a7 a8 : VVal} : VEnv := a0 :: a1 :: a2 :: a3 :: a4 :: a5 :: a6 :: a7 :: a8 :: []
abbrev uS3n12 {a0 a1 a2 a3 a4 a5 a6 a7 a8 a9 a10 a11 : VVal} : VEnv := a0 :: a1 :: a2 :: a3 :: a4 :: a5 :: a6 :: a7 :: a8 :: a9 :: a10 :: a11 :: []
abbrev uS3n15 {a0 a1 a2 a3 a4 a5 a6 a7 a8 a9 a10 a11 a12 a13 a14 : VVal} : VEnv := a0 :: a1 :: a2 :: a3 :: a4 :: a5 :: a6 :: a7 :: a8 :: a9 :: a10 :: a11 :: a12 :: a13 :: a14 :: []
abbrev uS3n17 {a0 a1 a2 a3 a4 a5 a6 a7 a8 a9 a10 a11 a12 a13 a14 a15 a16 : VVal} : VEnv := a0 :: a1 :: a2 :: a3 :: a4 :: a5 :: a6 :: a7 :: a8 :: a9 :: a10 :: a11 :: a12 :: a13 :: a14 :: a15 :: a16 :: []
abbrev uS3n48 {a0 a1 a2 a3 a4 a5 a6 a7 a8 a9 a10 a11 a12 a13 a14 a15 a16 a17 a18 a19 a20 a21 a22 a23 a24 a25 a26 a27 a28 a29 a30 a31 a32 a33 a34 a35 a36 a37 a38 a39 a40 a41 a42 a43 a44 a45 a46 a47 : VVal} : VEnv := a0 :: a1 :: a2 :: a3 :: a4 :: a5 :: a6 :: a7 :: a8 :: a9 :: a10 :: a11 :: a12 :: a13 :: a14 :: a15 :: a16 :: a17 :: a18 :: a19 :: a20 :: a21 :: a22 :: a23 :: a24 :: a25 :: a26 :: a27 :: a28 :: a29 :: a30 :: a31 :: a32 :: a33 :: a34 :: a35 :: a36 :: a37 :: a38 :: a39 :: a40 :: a41 :: a42 :: a43 :: a44 :: a45 :: a46 :: a47 :: []

theorem wS3n0 {T : TypeId → Option VTy} {H : VHeap} {op : Op} {ρ : Operand → VVal} {t : TypeId} {a : Operand} {y : VTy} {p v : VVal} (ho : op = .load t a) (ha : ρ a = p) (hy : T t = some y) (hd : isAggDesc y.desc = false) (h : LdOk H p v := by first | exact .inl ⟨_, _, rfl, by first | rfl | assumption | exact fget (α := BitVec 64) 0 (by omega) | exact fget (α := Int) 0 (by omega) | exact fget0 (α := BitVec 64) 0 (by omega) | exact fget0 (α := Int) 0 (by omega) | exact fget (α := Bool) false (by omega) | exact fget0 (α := Bool) false (by omega) | (simp [*]; done)⟩ | exact .inr ⟨_, _, _, _, rfl, by first | exact get_app rfl rfl | exact get_out (by assumption) | exact getE0 rfl rfl | exact get_out (get_app rfl rfl) | exact get_app rfl (by assumption) | assumption | (simp only [List.append_assoc, List.singleton_append, List.cons_append, List.nil_append]; refine getE (i := 0) rfl ?_ rfl; simp; done) | (simp only [List.append_assoc, List.singleton_append, List.cons_append, List.nil_append]; refine getE (i := 1) rfl ?_ rfl; simp; done) | (simp only [List.append_assoc, List.singleton_append, List.cons_append, List.nil_append]; refine getE (i := 2) rfl ?_ rfl; simp; done) | (simp only [List.append_assoc, List.singleton_append, List.cons_append, List.nil_append]; refine getE (i := 3) rfl ?_ rfl; simp; done) | (simp [*]; done), by first | rfl | assumption | exact fget (α := BitVec 64) 0 (by omega) | exact fget (α := Int) 0 (by omega) | exact fget0 (α := BitVec 64) 0 (by omega) | exact fget0 (α := Int) 0 (by omega) | exact fget (α := Bool) false (by omega) | exact fget0 (α := Bool) false (by omega) | (simp [*]; done)⟩) : vop T ρ H op = some (v, H) := v_ld ho ha hy hd h
theorem wS3n1 {T : TypeId → Option VTy} {H : VHeap} {op : Op} {ρ : Operand → VVal} {t ty : TypeId} {x y : Operand} {n m : Int} (ho : op = .binOp .add t x y ty) (hx : ρ x = .int .i64 n) (hy : ρ y = .int .i64 m) (h : -9223372036854775808 ≤ n + m ∧ n + m < 9223372036854775808 := by first | assumption | omega | (simp [*]; done) | (simp at *; omega)) : vop T ρ H op = some (.int .i64 (n + m), H) := v_addI ho hx hy h
theorem wS3n2 {T : TypeId → Option VTy} {H : VHeap} {op : Op} {ρ : VEnv} {H' : VHeap} {t : TypeId} {a : Operand} {i : Nat} {v : VVal} {y : VTy} {b off : Nat} {cs new : List VVal} (ho : op = .store t a (.tmp i)) (hv : ρ[i]? = some v) (ha : ρ.eval a = .ptr (some (b, off))) (hy : T t = some y) (hx : v.cells = some new) (hn : new.length = y.size) (h1 : new.all VVal.one = true) (hb : H[b]? = some (.cells cs true) := by first | exact get_app rfl rfl | exact get_out (by assumption) | exact getE0 rfl rfl | exact get_out (get_app rfl rfl) | exact get_app rfl (by assumption) | assumption | (simp only [List.append_assoc, List.singleton_append, List.cons_append, List.nil_append]; refine getE (i := 0) rfl ?_ rfl; simp; done) | (simp only [List.append_assoc, List.singleton_append, List.cons_append, List.nil_append]; refine getE (i := 1) rfl ?_ rfl; simp; done) | (simp only [List.append_assoc, List.singleton_append, List.cons_append, List.nil_append]; refine getE (i := 2) rfl ?_ rfl; simp; done) | (simp only [List.append_assoc, List.singleton_append, List.cons_append, List.nil_append]; refine getE (i := 3) rfl ?_ rfl; simp; done) | (simp [*]; done)) (hl : off + new.length ≤ cs.length := by first | exact Nat.le_of_ble_eq_true rfl | (simp only [List.length_map, List.length_cons, List.length_nil]; omega) | omega | (simp; done) | (simp; omega)) (hH : H.set b (.cells (splice cs off new) true) = H' := by first | exact setE0 rfl rfl | (simp only [List.append_assoc, List.singleton_append, List.cons_append, List.nil_append]; refine setE (i := 0) rfl ?_; simp; done) | (simp only [List.append_assoc, List.singleton_append, List.cons_append, List.nil_append]; refine setE (i := 1) rfl ?_; simp; done) | (simp only [List.append_assoc, List.singleton_append, List.cons_append, List.nil_append]; refine setE (i := 2) rfl ?_; simp; done) | (simp only [List.append_assoc, List.singleton_append, List.cons_append, List.nil_append]; refine setE (i := 3) rfl ?_; simp; done) | (refine setB rfl ?_; simp; done) | exact set_app rfl | exact set_out (lt_of_get (by assumption)) | rfl) : vop T ρ.eval H op = some (.skip, H') := v_storeT ho hv ha hy hx hn h1 hb hl hH
theorem wS3n3 {T : TypeId → Option VTy} {H : VHeap} {op : Op} {ρ : Operand → VVal} {t e : TypeId} {x i : Operand} {y z : VTy} {k : IntKind} {n : Int} {p v : VVal} {es : Nat} (ho : op = .indexAddr t x i) (hx : ρ x = p) (hi : ρ i = .int k n) (hy : T t = some y) (hd : y.desc = .slice e) (hz : T e = some z) (hs : z.size = es) (h : IxOk p es n v := by first | exact .inl ⟨_, _, _, rfl, by first | assumption | omega | (simp [*]; done) | (simp at *; omega), rfl⟩ | exact .inr ⟨_, _, _, _, _, rfl, by first | assumption | omega | (simp [*]; done) | (simp at *; omega), rfl⟩) : vop T ρ H op = some (v, H) := v_ix ho hx hi hy hd hz hs h
theorem wS3n4 {T : TypeId → Option VTy} {H : VHeap} {op : Op} {ρ : Operand → VVal} {t : TypeId} {a : Operand} {y : VTy} {p v : VVal} (ho : op = .load t a) (ha : ρ a = p) (hy : T t = some y) (hd : isAggDesc y.desc = false) (h : LdOk H p v := by first | exact .inl ⟨_, _, rfl, by exact fgetN (α := Int) 0 (by omega)⟩ | exact .inr ⟨_, _, _, _, rfl, by first | exact get_app rfl rfl | exact get_out (by assumption) | exact getE0 rfl rfl | exact get_out (get_app rfl rfl) | exact get_app rfl (by assumption) | assumption | (simp only [List.append_assoc, List.singleton_append, List.cons_append, List.nil_append]; refine getE (i := 0) rfl ?_ rfl; simp; done) | (simp only [List.append_assoc, List.singleton_append, List.cons_append, List.nil_append]; refine getE (i := 1) rfl ?_ rfl; simp; done) | (simp only [List.append_assoc, List.singleton_append, List.cons_append, List.nil_append]; refine getE (i := 2) rfl ?_ rfl; simp; done) | (simp only [List.append_assoc, List.singleton_append, List.cons_append, List.nil_append]; refine getE (i := 3) rfl ?_ rfl; simp; done) | (simp [*]; done), by exact fgetN (α := Int) 0 (by omega)⟩) : vop T ρ H op = some (v, H) := v_ld ho ha hy hd h
theorem wS3n5 {T : TypeId → Option VTy} {H : VHeap} {op : Op} {ρ : Operand → VVal} {t e : TypeId} {x i : Operand} {y z : VTy} {k : IntKind} {n : Int} {p v : VVal} {es : Nat} (ho : op = .indexAddr t x i) (hx : ρ x = p) (hi : ρ i = .int k n) (hy : T t = some y) (hd : y.desc = .slice e) (hz : T e = some z) (hs : z.size = es) (h : IxOk p es n v := by first | exact .inl ⟨_, _, _, rfl, by omega, rfl⟩ | exact .inr ⟨_, _, _, _, _, rfl, by omega, rfl⟩) : vop T ρ H op = some (v, H) := v_ix ho hx hi hy hd hz hs h
theorem wS3n6 {T : TypeId → Option VTy} {H : VHeap} {op : Op} {ρ : Operand → VVal} {t : TypeId} {a : Operand} {y : VTy} {p : VVal} {n : Nat} {vs : List VVal} (ho : op = .load t a) (ha : ρ a = p) (hy : T t = some y) (hd : isAggDesc y.desc = true) (hn : y.size = n) (h : LdOkA H p n vs := by first | exact .inl ⟨_, _, rfl, by first | rfl | assumption | exact fget (α := BitVec 64) 0 (by omega) | exact fget (α := Int) 0 (by omega) | exact fget0 (α := BitVec 64) 0 (by omega) | exact fget0 (α := Int) 0 (by omega) | exact fget (α := Bool) false (by omega) | exact fget0 (α := Bool) false (by omega) | (simp [*]; done)⟩ | exact .inr ⟨_, _, _, _, rfl, by first | exact get_app rfl rfl | exact get_out (by assumption) | exact getE0 rfl rfl | exact get_out (get_app rfl rfl) | exact get_app rfl (by assumption) | assumption | (simp only [List.append_assoc, List.singleton_append, List.cons_append, List.nil_append]; refine getE (i := 0) rfl ?_ rfl; simp; done) | (simp only [List.append_assoc, List.singleton_append, List.cons_append, List.nil_append]; refine getE (i := 1) rfl ?_ rfl; simp; done) | (simp only [List.append_assoc, List.singleton_append, List.cons_append, List.nil_append]; refine getE (i := 2) rfl ?_ rfl; simp; done) | (simp only [List.append_assoc, List.singleton_append, List.cons_append, List.nil_append]; refine getE (i := 3) rfl ?_ rfl; simp; done) | (simp [*]; done), by first | rfl | assumption | exact fget (α := BitVec 64) 0 (by omega) | exact fget (α := Int) 0 (by omega) | exact fget0 (α := BitVec 64) 0 (by omega) | exact fget0 (α := Int) 0 (by omega) | exact fget (α := Bool) false (by omega) | exact fget0 (α := Bool) false (by omega) | (simp [*]; done)⟩) : vop T ρ H op = some (.agg vs, H) := v_ldA ho ha hy hd hn h

/-! labels counted -/
abbrev lbK (r : Rul) (l : List Int) (k : Nat) : List Int := lbls (r.steps.take k) l
abbrev lfK (r : Rul) (l : List Int) (k : Nat) : Nat := lft (r.steps.take k) l
theorem lbK_lt {r : Rul} {l : List Int} {k : Nat} (hk : k < r.steps.length) (h : r.steps.getD k 0 < l.length) : lbK r l (k + 1) = lbK r l k ++ [l.getD (r.steps.getD k 0).toNat 0] ∧ lfK r l (k + 1) = lfK r l k := by
  unfold lbK lfK; rw [take_at (d := 0) hk]; exact lbls_lt h
theorem lbK_ge {r : Rul} {l : List Int} {k : Nat} (hk : k < r.steps.length) (h : ¬ r.steps.getD k 0 < l.length) : lbK r l (k + 1) = lbK r l k ∧ lfK r l (k + 1) = lfK r l k + 1 := by
  unfold lbK lfK; rw [take_at (d := 0) hk]; exact lbls_ge h
theorem lbK_len {r : Rul} {l : List Int} {k : Nat} (hk : k ≤ r.steps.length) : (lbK r l k).length + lfK r l k = k := by
  unfold lbK lfK; rw [lbls_len, List.length_take]; omega
theorem lbK_all {r : Rul} {l : List Int} {k : Nat} (hk : r.steps.length ≤ k) : lbK r l k = lbls r.steps l ∧ lfK r l k = lft r.steps l := by
  unfold lbK lfK; rw [List.take_of_length_le hk]; exact ⟨rfl, rfl⟩
theorem max_oft {L : List Int} {v : Int} : (if (((L ++ [v]).count v : Nat) : Int) > ((oft L : Nat) : Int) then (((L ++ [v]).count v : Nat) : Int) else ((oft L : Nat) : Int)) = ((oft (L ++ [v]) : Nat) : Int) := by
  rw [oft_app, show (L ++ [v]).count v = L.count v + 1 by simp]
  split <;> omega
theorem rck_of {n : Int} {r : Rul} (h : rck n r = true) : (0 ≤ n ∧ n ≤ 12) ∧ rise n r.steps = true ∧ knd r = true := by
  unfold rck at h; rw [Bool.and_eq_true, Bool.and_eq_true, decide_eq_true_eq] at h; exact h
theorem rck_kind {n : Int} {r : Rul} (h : rck n r = true) : 1 ≤ r.kind ∧ r.kind ≤ 5 := by
  by_cases hk : 1 ≤ r.kind ∧ r.kind ≤ 5
  · exact hk
  · have := (rck_of h).2.2; rw [knd_d hk] at this; cases this
theorem rck_pos {n : Int} {r : Rul} (h : rck n r = true) : ∀ s, s ∈ r.steps → 0 ≤ s := fun s hs => by
  have := riseA_mem _ _ (rck_of h).2.1 s hs; omega
theorem rck_lt {n : Int} {r : Rul} (h : rck n r = true) : ∀ s, s ∈ r.steps → s < n := fun s hs => (riseA_mem _ _ (rck_of h).2.1 s hs).2
theorem rck_len {n : Int} {r : Rul} (h : rck n r = true) : r.steps.length ≤ 12 := by
  obtain ⟨h1, h2, _⟩ := rck_of h
  rcases riseA_len _ _ h2 with e | e
  · rw [e]; exact Nat.zero_le _
  · omega
theorem rcE_eq {n : Int} {r : Rul} : rcE n r = 0 ↔ rck n r = true := by
  constructor
  · intro h
    by_cases hb : rck n r = true
    · exact hb
    · unfold rcE at h; rw [if_neg hb] at h; omega
  · exact rcE_0

theorem kp_1 {k : Int} {st l : List Int} : kpL (1, k, st, ()) l = decide ((oft (lbls st l) : Int) ≤ 1) := by
  show kp (1, k, st, ()) (lbls st l) (lft st l) = _
  simp only [kp, Rul.kind, Rul.k]
  simp; omega

theorem kp_2 {k : Int} {st l : List Int} : kpL (2, k, st, ()) l = decide ((uq (lbls st l) : Int) ≤ 1) := by
  show kp (2, k, st, ()) (lbls st l) (lft st l) = _
  simp only [kp, Rul.kind, Rul.k]
  simp; omega

theorem kp_3 {k : Int} {st l : List Int} : kpL (3, k, st, ()) l = decide ((oft (lbls st l) : Int) ≤ k) := by
  show kp (3, k, st, ()) (lbls st l) (lft st l) = _
  simp only [kp, Rul.kind, Rul.k]
  simp

theorem kp_4 {k : Int} {st l : List Int} : kpL (4, k, st, ()) l = decide ((uq (lbls st l) : Int) ≤ k) := by
  show kp (4, k, st, ()) (lbls st l) (lft st l) = _
  simp only [kp, Rul.kind, Rul.k]
  simp

theorem kp_5 {k : Int} {st l : List Int} : kpL (5, k, st, ()) l = decide (k ≤ (uq (lbls st l) : Int) + (lft st l : Nat)) := by
  show kp (5, k, st, ()) (lbls st l) (lft st l) = _
  simp only [kp, Rul.kind, Rul.k]
  simp

theorem capart_spec {x : SW} (H : VHeap) (m u lf k : Int)  : F (psys x) 70 [.agg [iI m, iI u, iI lf], iI k] H fun v G => v = .bool (decide (m ≤ 1)) ∧ G = H := by
 refine F_body Try.func70 rfl uS3n8 rfl ?_
 refine B_seq (B_region ?_)
 refine L_op (env' := uS3n8) rfl rfl (v_boxT rfl rfl rfl) rfl ?_
 refine L_op (env' := uS3n8) rfl rfl (v_const (VVal.bool false) (.inr rfl) rfl) rfl ?_
 refine L_nil (K_seq (B_seq (B_region ?_)))
 refine L_op (env' := uS3n8) rfl rfl (rfl) rfl ?_
 refine L_op (env' := uS3n8) rfl rfl (wS3n0 rfl rfl rfl rfl) rfl ?_
 refine L_op (env' := uS3n8) rfl rfl (rfl) rfl ?_
 refine L_op (env' := uS3n8) rfl rfl (v_move (.inr rfl) rfl) rfl ?_
 refine L_nil (K_seq (B_ret ?_))
 refine E_app (.inr rfl) (vres_tmp rfl rfl) (by first | exact BaseOk.refl _ | exact BaseOk.set (BaseOk.refl _) _ rfl) (by first | rfl | simp [VVal.under, VVal.underL, *]) ?_
 exact ⟨rfl, rfl⟩

theorem csame_spec {x : SW} (H : VHeap) (m u lf k : Int)  : F (psys x) 71 [.agg [iI m, iI u, iI lf], iI k] H fun v G => v = .bool (decide (u ≤ 1)) ∧ G = H := by
 refine F_body Try.func71 rfl uS3n8 rfl ?_
 refine B_seq (B_region ?_)
 refine L_op (env' := uS3n8) rfl rfl (v_boxT rfl rfl rfl) rfl ?_
 refine L_op (env' := uS3n8) rfl rfl (v_const (VVal.bool false) (.inr rfl) rfl) rfl ?_
 refine L_nil (K_seq (B_seq (B_region ?_)))
 refine L_op (env' := uS3n8) rfl rfl (rfl) rfl ?_
 refine L_op (env' := uS3n8) rfl rfl (wS3n0 rfl rfl rfl rfl) rfl ?_
 refine L_op (env' := uS3n8) rfl rfl (rfl) rfl ?_
 refine L_op (env' := uS3n8) rfl rfl (v_move (.inr rfl) rfl) rfl ?_
 refine L_nil (K_seq (B_ret ?_))
 refine E_app (.inr rfl) (vres_tmp rfl rfl) (by first | exact BaseOk.refl _ | exact BaseOk.set (BaseOk.refl _) _ rfl) (by first | rfl | simp [VVal.under, VVal.underL, *]) ?_
 exact ⟨rfl, rfl⟩

theorem catMost_spec {x : SW} (H : VHeap) (m u lf k : Int)  : F (psys x) 72 [.agg [iI m, iI u, iI lf], iI k] H fun v G => v = .bool (decide (m ≤ k)) ∧ G = H := by
 refine F_body Try.func72 rfl uS3n9 rfl ?_
 refine B_seq (B_region ?_)
 refine L_op (env' := uS3n9) rfl rfl (v_boxT rfl rfl rfl) rfl ?_
 refine L_op (env' := uS3n9) rfl rfl (v_const (VVal.bool false) (.inr rfl) rfl) rfl ?_
 refine L_nil (K_seq (B_seq (B_region ?_)))
 refine L_op (env' := uS3n9) rfl rfl (rfl) rfl ?_
 refine L_op (env' := uS3n9) rfl rfl (wS3n0 rfl rfl rfl rfl) rfl ?_
 refine L_op (env' := uS3n9) rfl rfl (v_move (.inl rfl) rfl) rfl ?_
 refine L_op (env' := uS3n9) rfl rfl (rfl) rfl ?_
 refine L_op (env' := uS3n9) rfl rfl (v_move (.inr rfl) rfl) rfl ?_
 refine L_nil (K_seq (B_ret ?_))
 refine E_app (.inr rfl) (vres_tmp rfl rfl) (by first | exact BaseOk.refl _ | exact BaseOk.set (BaseOk.refl _) _ rfl) (by first | rfl | simp [VVal.under, VVal.underL, *]) ?_
 exact ⟨rfl, rfl⟩

theorem cfew_spec {x : SW} (H : VHeap) (m u lf k : Int)  : F (psys x) 73 [.agg [iI m, iI u, iI lf], iI k] H fun v G => v = .bool (decide (u ≤ k)) ∧ G = H := by
 refine F_body Try.func73 rfl uS3n9 rfl ?_
 refine B_seq (B_region ?_)
 refine L_op (env' := uS3n9) rfl rfl (v_boxT rfl rfl rfl) rfl ?_
 refine L_op (env' := uS3n9) rfl rfl (v_const (VVal.bool false) (.inr rfl) rfl) rfl ?_
 refine L_nil (K_seq (B_seq (B_region ?_)))
 refine L_op (env' := uS3n9) rfl rfl (rfl) rfl ?_
 refine L_op (env' := uS3n9) rfl rfl (wS3n0 rfl rfl rfl rfl) rfl ?_
 refine L_op (env' := uS3n9) rfl rfl (v_move (.inl rfl) rfl) rfl ?_
 refine L_op (env' := uS3n9) rfl rfl (rfl) rfl ?_
 refine L_op (env' := uS3n9) rfl rfl (v_move (.inr rfl) rfl) rfl ?_
 refine L_nil (K_seq (B_ret ?_))
 refine E_app (.inr rfl) (vres_tmp rfl rfl) (by first | exact BaseOk.refl _ | exact BaseOk.set (BaseOk.refl _) _ rfl) (by first | rfl | simp [VVal.under, VVal.underL, *]) ?_
 exact ⟨rfl, rfl⟩

theorem cmany_spec {x : SW} (H : VHeap) (m u lf k : Int) (hb : 0 ≤ u ∧ u ≤ 1000000 ∧ 0 ≤ lf ∧ lf ≤ 1000000) : F (psys x) 74 [.agg [iI m, iI u, iI lf], iI k] H fun v G => v = .bool (decide (k ≤ u + lf)) ∧ G = H := by
 refine F_body Try.func74 rfl uS3n12 rfl ?_
 refine B_seq (B_region ?_)
 refine L_op (env' := uS3n12) rfl rfl (v_boxT rfl rfl rfl) rfl ?_
 refine L_op (env' := uS3n12) rfl rfl (v_const (VVal.bool false) (.inr rfl) rfl) rfl ?_
 refine L_nil (K_seq (B_seq (B_region ?_)))
 refine L_op (env' := uS3n12) rfl rfl (rfl) rfl ?_
 refine L_op (env' := uS3n12) rfl rfl (wS3n0 rfl rfl rfl rfl) rfl ?_
 refine L_op (env' := uS3n12) rfl rfl (rfl) rfl ?_
 refine L_op (env' := uS3n12) rfl rfl (wS3n0 rfl rfl rfl rfl) rfl ?_
 refine L_op (env' := uS3n12) rfl rfl (wS3n1 rfl rfl rfl) rfl ?_
 refine L_op (env' := uS3n12) rfl rfl (v_move (.inl rfl) rfl) rfl ?_
 refine L_op (env' := uS3n12) rfl rfl (rfl) rfl ?_
 refine L_op (env' := uS3n12) rfl rfl (v_move (.inr rfl) rfl) rfl ?_
 refine L_nil (K_seq (B_ret ?_))
 refine E_app (.inr rfl) (vres_tmp rfl rfl) (by first | exact BaseOk.refl _ | exact BaseOk.set (BaseOk.refl _) _ rfl) (by first | rfl | simp [VVal.under, VVal.underL, *]) ?_
 exact ⟨rfl, rfl⟩

theorem counted_spec {x : SW} (H : VHeap) (r : Rul) (l : List Int) (hs : ∀ s, s ∈ r.steps → 0 ≤ s) (hl : r.steps.length ≤ 1000000) : F (psys x) 75 [.agg (rlB r), fzI l] H fun v G => v = .agg [iI (oft (lbls r.steps l) : Nat), iI (uq (lbls r.steps l) : Nat), iI (lft r.steps l : Nat)] ∧ G = H := by
 refine F_body Try.func75 rfl uS3n48 rfl ?_
 refine B_seq (B_region ?_)
 refine L_op (env' := uS3n48) rfl rfl (v_boxT rfl rfl rfl) rfl ?_
 refine L_op (env' := uS3n48) rfl rfl (v_alloc rfl rfl) rfl ?_
 refine L_nil (K_seq (B_seq (B_region ?_)))
 refine L_op (env' := uS3n48) rfl rfl (rfl) rfl ?_
 refine L_op (env' := uS3n48) rfl rfl (v_map rfl) rfl ?_
 refine L_op (env' := uS3n48) rfl rfl (v_alloc rfl rfl) rfl ?_
 refine L_op (env' := uS3n48) rfl rfl (wS3n2 rfl rfl rfl rfl rfl rfl rfl) rfl ?_
 refine L_op (env' := uS3n48) rfl rfl (v_move (.inr rfl) rfl) rfl ?_
 refine L_nil (K_seq (B_seq (B_seq (B_region ?_))))
 refine L_op (env' := uS3n48) rfl rfl (rfl) rfl ?_
 refine L_op (env' := uS3n48) rfl rfl (wS3n0 rfl rfl rfl rfl) rfl ?_
 refine L_op (env' := uS3n48) rfl rfl (rfl) rfl ?_
 refine L_op (env' := uS3n48) rfl rfl (v_const (VVal.int .i64 0) (.inl rfl) rfl) rfl ?_
 refine L_nil (K_seq (B_block ?_))
 refine B_clear (mk 48 281474976681869) (env' := uS3n48) rfl ?_
 refine B_loopE (fun (k : Nat) => r.steps.length - k) (fun (k : Nat) => [(14, iI (k : Nat))]) (fun (k : Nat) G => (k ≤ r.steps.length) ∧ G = H ++ [.cells (rlB r) true, .cells [iI 0, iI 0, iI 0] true, .map (cnM (lbK r l k)), .cells [iI (oft (lbK r l k) : Nat), iI 0, iI (lfK r l k : Nat)] true]) 0 rfl ?_ ?_
 ·refine ⟨?_, rfl⟩
  exact Nat.zero_le _
 rintro k _ ⟨hk, rfl⟩
 refine B_env (env' := uS3n48) rfl ?_
 refine B_seq (B_region ?_)
 refine L_op (env' := uS3n48) rfl rfl (rfl) rfl ?_
 refine L_nil (K_seq (B_seq ?_))
 refine B_cond _ rfl (fun hc1 => ?_) (fun hc1 => ?_)
 ·try simp only [qB, qN] at hc1
  refine B_skip (K_seq (B_seq (B_block (B_seq (B_region ?_)))))
  refine L_op (env' := uS3n48) rfl rfl (wS3n3 rfl rfl rfl rfl rfl rfl rfl) rfl ?_
  refine L_op (env' := uS3n48) rfl rfl (wS3n4 rfl rfl rfl rfl) rfl ?_
  refine L_op (env' := uS3n48) rfl rfl (v_move (.inr rfl) rfl) rfl ?_
  refine L_nil (K_seq (B_seq (B_seq (B_region ?_))))
  refine L_op (env' := uS3n48) rfl rfl (v_move (.inl rfl) rfl) rfl ?_
  refine L_op (env' := uS3n48) rfl rfl (v_move (.inl rfl) rfl) rfl ?_
  refine L_op (env' := uS3n48) rfl rfl (rfl) rfl ?_
  refine L_op (env' := uS3n48) rfl rfl (rfl) rfl ?_
  refine L_nil (K_seq ?_)
  refine B_cond _ rfl (fun hc2 => ?_) (fun hc2 => ?_)
  ·try simp only [qB, qN] at hc2
   refine B_seq ?_
   have hlk := lbK_len (l := l) hk
   have hE := lbK_ge (r := r) (l := l) (k := k) (by omega) (by omega)
   refine B_region ?_
   refine L_op (env' := uS3n48) rfl rfl (rfl) rfl ?_
   refine L_op (env' := uS3n48) rfl rfl (wS3n0 rfl rfl rfl rfl) rfl ?_
   refine L_op (env' := uS3n48) rfl rfl (wS3n1 rfl rfl rfl) rfl ?_
   refine L_op (env' := uS3n48) rfl rfl (rfl) rfl ?_
   refine L_op (env' := uS3n48) rfl rfl (wS3n2 rfl rfl rfl rfl rfl rfl rfl) rfl ?_
   refine L_nil (K_seq (B_exit (K_seqX (K_blkX (K_seq (B_region ?_))))))
   refine L_op (env' := uS3n48) rfl rfl (wS3n1 rfl rfl rfl) rfl ?_
   refine L_op (env' := uS3n48) rfl rfl (v_move (.inl rfl) rfl) rfl ?_
   refine L_nil ?_
   refine K_loop (mk 48 281474976681869) (env' := uS3n48) rfl ⟨k + 1, ?_, rfl, ?_⟩
   ·first | omega | (simp only []; omega)
   ·exact ⟨by omega, by rw [hE.1, hE.2]; rfl⟩
  ·try simp only [qB, qN] at hc2
   refine B_skip (K_seq (B_seq ?_))
   have hlk := lbK_len (l := l) hk
   have hpos : 0 ≤ r.steps.getD k 0 := hs _ (mem_getI (by omega))
   have hlt : r.steps.getD k 0 < l.length := by omega
   have hE := lbK_lt (r := r) (l := l) (k := k) (by omega) hlt
   have hcn : (lbK r l k).count (l.getD (r.steps.getD k 0).toNat 0) ≤ (lbK r l k).length := List.count_le_length
   refine B_region ?_
   refine L_op (env' := uS3n48) rfl rfl (v_move (.inl rfl) rfl) rfl ?_
   refine L_op (env' := uS3n48) rfl rfl (v_move (.inl rfl) rfl) rfl ?_
   refine L_op (env' := uS3n48) rfl rfl (v_move (.inl rfl) rfl) rfl ?_
   refine L_op (env' := uS3n48) rfl rfl (wS3n5 rfl rfl rfl rfl rfl rfl rfl) rfl ?_
   refine L_op (env' := uS3n48) rfl rfl (wS3n0 rfl rfl rfl rfl) rfl ?_
   refine L_op (env' := uS3n48) rfl rfl (v_lookI rfl rfl rfl rfl rfl rfl rfl rfl rfl rfl (get_app rfl rfl) cn_get cn_get') rfl ?_
   refine L_op (env' := uS3n48) rfl rfl (wS3n1 rfl rfl rfl) rfl ?_
   refine L_op (env' := uS3n48) rfl rfl (v_mupdI rfl rfl rfl rfl rfl rfl rfl rfl (get_app rfl rfl) cn_get ((congrArg (fun m => List.set _ _ (VBlk.map m)) cn_put).trans (set_app rfl))) rfl ?_
   refine L_nil (K_seq ?_)
   refine B_draw [0, 1, 2, 3, 4, 5, 6, 7, 8, 9, 10] #[0, 1, 0, 0, 0, 24, 56, 124, 255, 511, 1023] (by kernel_rfl) (by kernel_rfl) (by kernel_rfl) ?_
   refine O_op (env' := uS3n48) (c := .calm) rfl rfl rfl (rfl) rfl rfl rfl ?_
   refine O_op (env' := uS3n48) (c := .look) rfl rfl rfl (wS3n0 rfl rfl rfl rfl) rfl rfl rfl ?_
   refine O_op (env' := uS3n48) (c := .calm) rfl rfl rfl (v_move (.inl rfl) rfl) rfl rfl rfl ?_
   refine O_op (env' := uS3n48) (c := .calm) rfl rfl rfl (v_move (.inl rfl) rfl) rfl rfl rfl ?_
   refine O_op (env' := uS3n48) (c := .calm) rfl rfl rfl (v_move (.inl rfl) rfl) rfl rfl rfl ?_
   refine O_op (env' := uS3n48) (c := .calm) rfl rfl rfl (wS3n5 rfl rfl rfl rfl rfl rfl rfl) rfl rfl rfl ?_
   refine O_op (env' := uS3n48) (c := .look) rfl rfl rfl (wS3n0 rfl rfl rfl rfl) rfl rfl rfl ?_
   refine O_op (env' := uS3n48) (c := .look) rfl rfl rfl (v_lookI rfl rfl rfl rfl rfl rfl rfl rfl rfl rfl (get_app rfl rfl) cn_get cn_get') rfl rfl rfl ?_
   refine O_op (env' := uS3n48) (c := .calm) rfl rfl rfl (v_val (u := iI (oft (lbK r l (k + 1)) : Nat)) rfl (by rw [hE.1]; exact congrArg iI max_oft)) rfl rfl rfl ?_
   refine O_op (env' := uS3n48) (c := .calm) rfl rfl rfl (rfl) rfl rfl rfl ?_
   refine O_op (env' := uS3n48) (c := .turn) rfl rfl rfl (wS3n2 rfl rfl rfl rfl rfl rfl rfl) rfl rfl rfl ?_
   refine O_nil [] (by kernel_rfl) (trivial) ?_
   refine K_blk (K_seq (B_region ?_))
   refine L_op (env' := uS3n48) rfl rfl (wS3n1 rfl rfl rfl) rfl ?_
   refine L_op (env' := uS3n48) rfl rfl (v_move (.inl rfl) rfl) rfl ?_
   refine L_nil ?_
   refine K_loop (mk 48 281474976681869) (env' := uS3n48) rfl ⟨k + 1, ?_, rfl, ?_⟩
   ·first | omega | (simp only []; omega)
   ·exact ⟨by omega, by rw [hE.1, hE.2]; rfl⟩
 ·try simp only [qB, qN] at hc1
  refine B_exit (K_seqX (K_loopX (K_blkX (K_seq (B_seq (B_region ?_))))))
  refine L_op (env' := uS3n48) rfl rfl (v_move (.inl rfl) rfl) rfl ?_
  refine L_op (env' := uS3n48) rfl rfl (v_lenM rfl rfl rfl rfl (get_app rfl rfl)) rfl ?_
  refine L_op (env' := uS3n48) rfl rfl (rfl) rfl ?_
  refine L_op (env' := uS3n48) rfl rfl (wS3n2 rfl rfl rfl rfl rfl rfl rfl) rfl ?_
  refine L_nil (K_seq (B_seq (B_region ?_)))
  refine L_op (env' := uS3n48) rfl rfl (wS3n6 rfl rfl rfl rfl rfl) rfl ?_
  refine L_op (env' := uS3n48) rfl rfl (wS3n2 rfl rfl rfl rfl rfl rfl rfl) rfl ?_
  refine L_nil (K_seq (B_ret ?_))
  refine E_app (.inr rfl) (vres_cellA rfl rfl rfl rfl (by first | exact get_app rfl rfl | exact get_out (by assumption) | exact getE0 rfl rfl | exact get_out (get_app rfl rfl) | exact get_app rfl (by assumption) | assumption | (simp only [List.append_assoc, List.singleton_append, List.cons_append, List.nil_append]; refine getE (i := 0) rfl ?_ rfl; simp; done) | (simp only [List.append_assoc, List.singleton_append, List.cons_append, List.nil_append]; refine getE (i := 1) rfl ?_ rfl; simp; done) | (simp only [List.append_assoc, List.singleton_append, List.cons_append, List.nil_append]; refine getE (i := 2) rfl ?_ rfl; simp; done) | (simp only [List.append_assoc, List.singleton_append, List.cons_append, List.nil_append]; refine getE (i := 3) rfl ?_ rfl; simp; done) | (simp [*]; done)) (by first | rfl | assumption | exact fget (α := BitVec 64) 0 (by omega) | exact fget (α := Int) 0 (by omega) | exact fget0 (α := BitVec 64) 0 (by omega) | exact fget0 (α := Int) 0 (by omega) | exact fget (α := Bool) false (by omega) | exact fget0 (α := Bool) false (by omega) | (simp [*]; done))) (by first | exact BaseOk.refl _ | exact BaseOk.set (BaseOk.refl _) _ rfl) (by first | rfl | simp [VVal.under, VVal.underL, *]) ?_
  have hA := lbK_all (r := r) (l := l) (k := k) (by omega)
  rw [hA.1, hA.2, cnM_len]
  exact ⟨rfl, rfl⟩

theorem cal_n {st l : List Int} (h : st.length ≤ 1000000) : (0 ≤ ((uq (lbls st l) : Nat) : Int) ∧ ((uq (lbls st l) : Nat) : Int) ≤ 1000000 ∧ 0 ≤ ((lft st l : Nat) : Int) ∧ ((lft st l : Nat) : Int) ≤ 1000000) := by
  have h1 := lbls_len st l; have h2 := uq_le (lbls st l); omega

theorem keeps1 {x : SW} (H : VHeap) (k : Int) (st l : List Int) (hs : ∀ s, s ∈ st → 0 ≤ s) (hl : st.length ≤ 1000000) : F (psys x) 67 [.agg [iI 1, iI k, fzI st], fzI l] H fun v G => v = .bool (kpL (1, k, st, ()) l) ∧ G = H := by
 refine F_body Try.func67 rfl uS3n17 rfl ?_
 refine B_seq (B_region ?_)
 refine L_op (env' := uS3n17) rfl rfl (v_boxT rfl rfl rfl) rfl ?_
 refine L_op (env' := uS3n17) rfl rfl (v_const (VVal.bool false) (.inr rfl) rfl) rfl ?_
 refine L_nil (K_seq (B_seq (B_region ?_)))
 refine L_op (env' := uS3n17) rfl rfl (v_val (u := .agg [.nilFunc, .func 70 [] [], .func 71 [] [], .func 72 [] [], .func 73 [] [], .func 74 [] []]) rfl rfl) rfl ?_
 refine L_op (env' := uS3n17) rfl rfl (v_alloc rfl rfl) rfl ?_
 refine L_op (env' := uS3n17) rfl rfl (wS3n2 rfl rfl rfl rfl rfl rfl rfl) rfl ?_
 refine L_nil (K_seq (B_seq ?_))
 refine B_draw [0, 1, 2, 3, 4, 5, 7, 8, 6, 9, 10] #[0, 1, 3, 7, 0, 0, 48, 0, 128, 511, 1023] (by kernel_rfl) (by kernel_rfl) (by kernel_rfl) ?_
 refine O_op (env' := uS3n17) (c := .calm) rfl rfl rfl (rfl) rfl rfl rfl ?_
 refine O_opI (env' := uS3n17) (x := .look _ _) rfl rfl rfl (wS3n0 rfl rfl rfl rfl) rfl rfl rfl ?_
 refine O_op (env' := uS3n17) (c := .calm) rfl rfl rfl (by first | exact v_idxFA rfl rfl rfl rfl rfl rfl (by first | assumption | omega | (simp [*]; done) | (simp at *; omega)) | exact v_idxA rfl rfl rfl rfl rfl rfl (by first | assumption | omega | (simp [*]; done) | (simp at *; omega))) rfl rfl rfl ?_
 refine O_opI (env' := uS3n17) (x := .look _ _) rfl rfl rfl (wS3n0 rfl rfl rfl rfl) rfl rfl rfl ?_
 refine O_op (env' := uS3n17) (c := .look) rfl rfl rfl (wS3n6 rfl rfl rfl rfl rfl) rfl rfl rfl ?_
 refine O_op (env' := uS3n17) (c := .calm) rfl rfl rfl (v_move (.inl rfl) rfl) rfl rfl rfl ?_
 refine O_op (env' := uS3n17) (c := .calm) rfl rfl rfl (rfl) rfl rfl rfl ?_
 refine O_opI (env' := uS3n17) (x := .look _ _) rfl rfl rfl (wS3n0 rfl rfl rfl rfl) rfl rfl rfl ?_
 refine O_call (env' := uS3n17) rfl rfl rfl rfl rfl (by exact counted_spec _ (1, k, st, ()) _ hs hl) (by first | exact Nat.le_refl _ | simp) rfl rfl ?_
 refine O_call (env' := uS3n17) rfl rfl rfl rfl rfl (by exact capart_spec _ _ _ _ _) (by first | exact Nat.le_refl _ | simp) rfl rfl ?_
 refine O_op (env' := uS3n17) (c := .calm) rfl rfl rfl (v_move (.inr rfl) rfl) rfl rfl rfl ?_
 refine O_nil [_, _, _] (by rfl) (And.intro (And.intro (wS3n0 rfl rfl rfl rfl) (wS3n0 rfl rfl rfl rfl)) (And.intro (And.intro (wS3n0 rfl rfl rfl rfl) (wS3n0 rfl rfl rfl rfl)) (And.intro (And.intro (wS3n0 rfl rfl rfl rfl) (wS3n0 rfl rfl rfl rfl)) trivial))) ?_
 refine K_seq (B_ret ?_)
 refine E_app (.inr rfl) (vres_tmp rfl rfl) (by first | exact BaseOk.refl _ | exact BaseOk.set (BaseOk.refl _) _ rfl) (by first | rfl | simp [VVal.under, VVal.underL, *]) ?_
 exact ⟨by rw [kp_1], rfl⟩

theorem keeps2 {x : SW} (H : VHeap) (k : Int) (st l : List Int) (hs : ∀ s, s ∈ st → 0 ≤ s) (hl : st.length ≤ 1000000) : F (psys x) 67 [.agg [iI 2, iI k, fzI st], fzI l] H fun v G => v = .bool (kpL (2, k, st, ()) l) ∧ G = H := by
 refine F_body Try.func67 rfl uS3n17 rfl ?_
 refine B_seq (B_region ?_)
 refine L_op (env' := uS3n17) rfl rfl (v_boxT rfl rfl rfl) rfl ?_
 refine L_op (env' := uS3n17) rfl rfl (v_const (VVal.bool false) (.inr rfl) rfl) rfl ?_
 refine L_nil (K_seq (B_seq (B_region ?_)))
 refine L_op (env' := uS3n17) rfl rfl (v_val (u := .agg [.nilFunc, .func 70 [] [], .func 71 [] [], .func 72 [] [], .func 73 [] [], .func 74 [] []]) rfl rfl) rfl ?_
 refine L_op (env' := uS3n17) rfl rfl (v_alloc rfl rfl) rfl ?_
 refine L_op (env' := uS3n17) rfl rfl (wS3n2 rfl rfl rfl rfl rfl rfl rfl) rfl ?_
 refine L_nil (K_seq (B_seq ?_))
 refine B_draw [0, 1, 2, 3, 4, 5, 7, 8, 6, 9, 10] #[0, 1, 3, 7, 0, 0, 48, 0, 128, 511, 1023] (by kernel_rfl) (by kernel_rfl) (by kernel_rfl) ?_
 refine O_op (env' := uS3n17) (c := .calm) rfl rfl rfl (rfl) rfl rfl rfl ?_
 refine O_opI (env' := uS3n17) (x := .look _ _) rfl rfl rfl (wS3n0 rfl rfl rfl rfl) rfl rfl rfl ?_
 refine O_op (env' := uS3n17) (c := .calm) rfl rfl rfl (by first | exact v_idxFA rfl rfl rfl rfl rfl rfl (by first | assumption | omega | (simp [*]; done) | (simp at *; omega)) | exact v_idxA rfl rfl rfl rfl rfl rfl (by first | assumption | omega | (simp [*]; done) | (simp at *; omega))) rfl rfl rfl ?_
 refine O_opI (env' := uS3n17) (x := .look _ _) rfl rfl rfl (wS3n0 rfl rfl rfl rfl) rfl rfl rfl ?_
 refine O_op (env' := uS3n17) (c := .look) rfl rfl rfl (wS3n6 rfl rfl rfl rfl rfl) rfl rfl rfl ?_
 refine O_op (env' := uS3n17) (c := .calm) rfl rfl rfl (v_move (.inl rfl) rfl) rfl rfl rfl ?_
 refine O_op (env' := uS3n17) (c := .calm) rfl rfl rfl (rfl) rfl rfl rfl ?_
 refine O_opI (env' := uS3n17) (x := .look _ _) rfl rfl rfl (wS3n0 rfl rfl rfl rfl) rfl rfl rfl ?_
 refine O_call (env' := uS3n17) rfl rfl rfl rfl rfl (by exact counted_spec _ (2, k, st, ()) _ hs hl) (by first | exact Nat.le_refl _ | simp) rfl rfl ?_
 refine O_call (env' := uS3n17) rfl rfl rfl rfl rfl (by exact csame_spec _ _ _ _ _) (by first | exact Nat.le_refl _ | simp) rfl rfl ?_
 refine O_op (env' := uS3n17) (c := .calm) rfl rfl rfl (v_move (.inr rfl) rfl) rfl rfl rfl ?_
 refine O_nil [_, _, _] (by rfl) (And.intro (And.intro (wS3n0 rfl rfl rfl rfl) (wS3n0 rfl rfl rfl rfl)) (And.intro (And.intro (wS3n0 rfl rfl rfl rfl) (wS3n0 rfl rfl rfl rfl)) (And.intro (And.intro (wS3n0 rfl rfl rfl rfl) (wS3n0 rfl rfl rfl rfl)) trivial))) ?_
 refine K_seq (B_ret ?_)
 refine E_app (.inr rfl) (vres_tmp rfl rfl) (by first | exact BaseOk.refl _ | exact BaseOk.set (BaseOk.refl _) _ rfl) (by first | rfl | simp [VVal.under, VVal.underL, *]) ?_
 exact ⟨by rw [kp_2], rfl⟩

theorem keeps3 {x : SW} (H : VHeap) (k : Int) (st l : List Int) (hs : ∀ s, s ∈ st → 0 ≤ s) (hl : st.length ≤ 1000000) : F (psys x) 67 [.agg [iI 3, iI k, fzI st], fzI l] H fun v G => v = .bool (kpL (3, k, st, ()) l) ∧ G = H := by
 refine F_body Try.func67 rfl uS3n17 rfl ?_
 refine B_seq (B_region ?_)
 refine L_op (env' := uS3n17) rfl rfl (v_boxT rfl rfl rfl) rfl ?_
 refine L_op (env' := uS3n17) rfl rfl (v_const (VVal.bool false) (.inr rfl) rfl) rfl ?_
 refine L_nil (K_seq (B_seq (B_region ?_)))
 refine L_op (env' := uS3n17) rfl rfl (v_val (u := .agg [.nilFunc, .func 70 [] [], .func 71 [] [], .func 72 [] [], .func 73 [] [], .func 74 [] []]) rfl rfl) rfl ?_
 refine L_op (env' := uS3n17) rfl rfl (v_alloc rfl rfl) rfl ?_
 refine L_op (env' := uS3n17) rfl rfl (wS3n2 rfl rfl rfl rfl rfl rfl rfl) rfl ?_
 refine L_nil (K_seq (B_seq ?_))
 refine B_draw [0, 1, 2, 3, 4, 5, 7, 8, 6, 9, 10] #[0, 1, 3, 7, 0, 0, 48, 0, 128, 511, 1023] (by kernel_rfl) (by kernel_rfl) (by kernel_rfl) ?_
 refine O_op (env' := uS3n17) (c := .calm) rfl rfl rfl (rfl) rfl rfl rfl ?_
 refine O_opI (env' := uS3n17) (x := .look _ _) rfl rfl rfl (wS3n0 rfl rfl rfl rfl) rfl rfl rfl ?_
 refine O_op (env' := uS3n17) (c := .calm) rfl rfl rfl (by first | exact v_idxFA rfl rfl rfl rfl rfl rfl (by first | assumption | omega | (simp [*]; done) | (simp at *; omega)) | exact v_idxA rfl rfl rfl rfl rfl rfl (by first | assumption | omega | (simp [*]; done) | (simp at *; omega))) rfl rfl rfl ?_
 refine O_opI (env' := uS3n17) (x := .look _ _) rfl rfl rfl (wS3n0 rfl rfl rfl rfl) rfl rfl rfl ?_
 refine O_op (env' := uS3n17) (c := .look) rfl rfl rfl (wS3n6 rfl rfl rfl rfl rfl) rfl rfl rfl ?_
 refine O_op (env' := uS3n17) (c := .calm) rfl rfl rfl (v_move (.inl rfl) rfl) rfl rfl rfl ?_
 refine O_op (env' := uS3n17) (c := .calm) rfl rfl rfl (rfl) rfl rfl rfl ?_
 refine O_opI (env' := uS3n17) (x := .look _ _) rfl rfl rfl (wS3n0 rfl rfl rfl rfl) rfl rfl rfl ?_
 refine O_call (env' := uS3n17) rfl rfl rfl rfl rfl (by exact counted_spec _ (3, k, st, ()) _ hs hl) (by first | exact Nat.le_refl _ | simp) rfl rfl ?_
 refine O_call (env' := uS3n17) rfl rfl rfl rfl rfl (by exact catMost_spec _ _ _ _ _) (by first | exact Nat.le_refl _ | simp) rfl rfl ?_
 refine O_op (env' := uS3n17) (c := .calm) rfl rfl rfl (v_move (.inr rfl) rfl) rfl rfl rfl ?_
 refine O_nil [_, _, _] (by rfl) (And.intro (And.intro (wS3n0 rfl rfl rfl rfl) (wS3n0 rfl rfl rfl rfl)) (And.intro (And.intro (wS3n0 rfl rfl rfl rfl) (wS3n0 rfl rfl rfl rfl)) (And.intro (And.intro (wS3n0 rfl rfl rfl rfl) (wS3n0 rfl rfl rfl rfl)) trivial))) ?_
 refine K_seq (B_ret ?_)
 refine E_app (.inr rfl) (vres_tmp rfl rfl) (by first | exact BaseOk.refl _ | exact BaseOk.set (BaseOk.refl _) _ rfl) (by first | rfl | simp [VVal.under, VVal.underL, *]) ?_
 exact ⟨by rw [kp_3], rfl⟩

theorem keeps4 {x : SW} (H : VHeap) (k : Int) (st l : List Int) (hs : ∀ s, s ∈ st → 0 ≤ s) (hl : st.length ≤ 1000000) : F (psys x) 67 [.agg [iI 4, iI k, fzI st], fzI l] H fun v G => v = .bool (kpL (4, k, st, ()) l) ∧ G = H := by
 refine F_body Try.func67 rfl uS3n17 rfl ?_
 refine B_seq (B_region ?_)
 refine L_op (env' := uS3n17) rfl rfl (v_boxT rfl rfl rfl) rfl ?_
 refine L_op (env' := uS3n17) rfl rfl (v_const (VVal.bool false) (.inr rfl) rfl) rfl ?_
 refine L_nil (K_seq (B_seq (B_region ?_)))
 refine L_op (env' := uS3n17) rfl rfl (v_val (u := .agg [.nilFunc, .func 70 [] [], .func 71 [] [], .func 72 [] [], .func 73 [] [], .func 74 [] []]) rfl rfl) rfl ?_
 refine L_op (env' := uS3n17) rfl rfl (v_alloc rfl rfl) rfl ?_
 refine L_op (env' := uS3n17) rfl rfl (wS3n2 rfl rfl rfl rfl rfl rfl rfl) rfl ?_
 refine L_nil (K_seq (B_seq ?_))
 refine B_draw [0, 1, 2, 3, 4, 5, 7, 8, 6, 9, 10] #[0, 1, 3, 7, 0, 0, 48, 0, 128, 511, 1023] (by kernel_rfl) (by kernel_rfl) (by kernel_rfl) ?_
 refine O_op (env' := uS3n17) (c := .calm) rfl rfl rfl (rfl) rfl rfl rfl ?_
 refine O_opI (env' := uS3n17) (x := .look _ _) rfl rfl rfl (wS3n0 rfl rfl rfl rfl) rfl rfl rfl ?_
 refine O_op (env' := uS3n17) (c := .calm) rfl rfl rfl (by first | exact v_idxFA rfl rfl rfl rfl rfl rfl (by first | assumption | omega | (simp [*]; done) | (simp at *; omega)) | exact v_idxA rfl rfl rfl rfl rfl rfl (by first | assumption | omega | (simp [*]; done) | (simp at *; omega))) rfl rfl rfl ?_
 refine O_opI (env' := uS3n17) (x := .look _ _) rfl rfl rfl (wS3n0 rfl rfl rfl rfl) rfl rfl rfl ?_
 refine O_op (env' := uS3n17) (c := .look) rfl rfl rfl (wS3n6 rfl rfl rfl rfl rfl) rfl rfl rfl ?_
 refine O_op (env' := uS3n17) (c := .calm) rfl rfl rfl (v_move (.inl rfl) rfl) rfl rfl rfl ?_
 refine O_op (env' := uS3n17) (c := .calm) rfl rfl rfl (rfl) rfl rfl rfl ?_
 refine O_opI (env' := uS3n17) (x := .look _ _) rfl rfl rfl (wS3n0 rfl rfl rfl rfl) rfl rfl rfl ?_
 refine O_call (env' := uS3n17) rfl rfl rfl rfl rfl (by exact counted_spec _ (4, k, st, ()) _ hs hl) (by first | exact Nat.le_refl _ | simp) rfl rfl ?_
 refine O_call (env' := uS3n17) rfl rfl rfl rfl rfl (by exact cfew_spec _ _ _ _ _) (by first | exact Nat.le_refl _ | simp) rfl rfl ?_
 refine O_op (env' := uS3n17) (c := .calm) rfl rfl rfl (v_move (.inr rfl) rfl) rfl rfl rfl ?_
 refine O_nil [_, _, _] (by rfl) (And.intro (And.intro (wS3n0 rfl rfl rfl rfl) (wS3n0 rfl rfl rfl rfl)) (And.intro (And.intro (wS3n0 rfl rfl rfl rfl) (wS3n0 rfl rfl rfl rfl)) (And.intro (And.intro (wS3n0 rfl rfl rfl rfl) (wS3n0 rfl rfl rfl rfl)) trivial))) ?_
 refine K_seq (B_ret ?_)
 refine E_app (.inr rfl) (vres_tmp rfl rfl) (by first | exact BaseOk.refl _ | exact BaseOk.set (BaseOk.refl _) _ rfl) (by first | rfl | simp [VVal.under, VVal.underL, *]) ?_
 exact ⟨by rw [kp_4], rfl⟩

theorem keeps5 {x : SW} (H : VHeap) (k : Int) (st l : List Int) (hs : ∀ s, s ∈ st → 0 ≤ s) (hl : st.length ≤ 1000000) : F (psys x) 67 [.agg [iI 5, iI k, fzI st], fzI l] H fun v G => v = .bool (kpL (5, k, st, ()) l) ∧ G = H := by
 refine F_body Try.func67 rfl uS3n17 rfl ?_
 refine B_seq (B_region ?_)
 refine L_op (env' := uS3n17) rfl rfl (v_boxT rfl rfl rfl) rfl ?_
 refine L_op (env' := uS3n17) rfl rfl (v_const (VVal.bool false) (.inr rfl) rfl) rfl ?_
 refine L_nil (K_seq (B_seq (B_region ?_)))
 refine L_op (env' := uS3n17) rfl rfl (v_val (u := .agg [.nilFunc, .func 70 [] [], .func 71 [] [], .func 72 [] [], .func 73 [] [], .func 74 [] []]) rfl rfl) rfl ?_
 refine L_op (env' := uS3n17) rfl rfl (v_alloc rfl rfl) rfl ?_
 refine L_op (env' := uS3n17) rfl rfl (wS3n2 rfl rfl rfl rfl rfl rfl rfl) rfl ?_
 refine L_nil (K_seq (B_seq ?_))
 refine B_draw [0, 1, 2, 3, 4, 5, 7, 8, 6, 9, 10] #[0, 1, 3, 7, 0, 0, 48, 0, 128, 511, 1023] (by kernel_rfl) (by kernel_rfl) (by kernel_rfl) ?_
 refine O_op (env' := uS3n17) (c := .calm) rfl rfl rfl (rfl) rfl rfl rfl ?_
 refine O_opI (env' := uS3n17) (x := .look _ _) rfl rfl rfl (wS3n0 rfl rfl rfl rfl) rfl rfl rfl ?_
 refine O_op (env' := uS3n17) (c := .calm) rfl rfl rfl (by first | exact v_idxFA rfl rfl rfl rfl rfl rfl (by first | assumption | omega | (simp [*]; done) | (simp at *; omega)) | exact v_idxA rfl rfl rfl rfl rfl rfl (by first | assumption | omega | (simp [*]; done) | (simp at *; omega))) rfl rfl rfl ?_
 refine O_opI (env' := uS3n17) (x := .look _ _) rfl rfl rfl (wS3n0 rfl rfl rfl rfl) rfl rfl rfl ?_
 refine O_op (env' := uS3n17) (c := .look) rfl rfl rfl (wS3n6 rfl rfl rfl rfl rfl) rfl rfl rfl ?_
 refine O_op (env' := uS3n17) (c := .calm) rfl rfl rfl (v_move (.inl rfl) rfl) rfl rfl rfl ?_
 refine O_op (env' := uS3n17) (c := .calm) rfl rfl rfl (rfl) rfl rfl rfl ?_
 refine O_opI (env' := uS3n17) (x := .look _ _) rfl rfl rfl (wS3n0 rfl rfl rfl rfl) rfl rfl rfl ?_
 refine O_call (env' := uS3n17) rfl rfl rfl rfl rfl (by exact counted_spec _ (5, k, st, ()) _ hs hl) (by first | exact Nat.le_refl _ | simp) rfl rfl ?_
 refine O_call (env' := uS3n17) rfl rfl rfl rfl rfl (by exact cmany_spec _ _ _ _ _ (cal_n hl)) (by first | exact Nat.le_refl _ | simp) rfl rfl ?_
 refine O_op (env' := uS3n17) (c := .calm) rfl rfl rfl (v_move (.inr rfl) rfl) rfl rfl rfl ?_
 refine O_nil [_, _, _] (by rfl) (And.intro (And.intro (wS3n0 rfl rfl rfl rfl) (wS3n0 rfl rfl rfl rfl)) (And.intro (And.intro (wS3n0 rfl rfl rfl rfl) (wS3n0 rfl rfl rfl rfl)) (And.intro (And.intro (wS3n0 rfl rfl rfl rfl) (wS3n0 rfl rfl rfl rfl)) trivial))) ?_
 refine K_seq (B_ret ?_)
 refine E_app (.inr rfl) (vres_tmp rfl rfl) (by first | exact BaseOk.refl _ | exact BaseOk.set (BaseOk.refl _) _ rfl) (by first | rfl | simp [VVal.under, VVal.underL, *]) ?_
 exact ⟨by rw [kp_5], rfl⟩

theorem keeps_spec {x : SW} (H : VHeap) (r : Rul) (l : List Int) (hk : 1 ≤ r.kind ∧ r.kind ≤ 5) (hs : ∀ s, s ∈ r.steps → 0 ≤ s) (hl : r.steps.length ≤ 1000000) : F (psys x) 67 [.agg (rlB r), fzI l] H fun v G => v = .bool (kpL r l) ∧ G = H := by
  obtain ⟨kd, k, st, ⟨⟩⟩ := r
  simp only [Rul.kind] at hk
  have h5 : kd = 1 ∨ kd = 2 ∨ kd = 3 ∨ kd = 4 ∨ kd = 5 := by omega
  rcases h5 with rfl | rfl | rfl | rfl | rfl
  · exact keeps1 H k st l hs hl
  · exact keeps2 H k st l hs hl
  · exact keeps3 H k st l hs hl
  · exact keeps4 H k st l hs hl
  · exact keeps5 H k st l hs hl

theorem rHolds_spec {x : SW} (H : VHeap) (r : Rul) (l : List Int) (hl : r.steps.length ≤ 1000000) : F (psys x) 55 [.agg (rlB r), fzI l] H fun v G => v = .bool (hld r l) ∧ G = H := by
 refine F_body Try.func55 rfl uS3n15 rfl ?_
 refine B_seq (B_region ?_)
 refine L_op (env' := uS3n15) rfl rfl (v_boxT rfl rfl rfl) rfl ?_
 refine L_op (env' := uS3n15) rfl rfl (v_const (VVal.bool false) (.inr rfl) rfl) rfl ?_
 refine L_nil (K_seq (B_seq (B_region ?_)))
 refine L_op (env' := uS3n15) rfl rfl (v_move (.inl rfl) rfl) rfl ?_
 refine L_op (env' := uS3n15) rfl rfl (rfl) rfl ?_
 refine L_op (env' := uS3n15) rfl rfl (wS3n6 rfl rfl rfl rfl rfl) rfl ?_
 refine L_call rfl rfl rfl (by exact rCheck_spec _ _ _ (by omega)) ?_
 rintro _ _ ⟨rfl, rfl⟩
 refine L_env (env' := uS3n15) rfl ?_
 refine L_op (env' := uS3n15) rfl rfl (rfl) rfl ?_
 refine L_op (env' := uS3n15) rfl rfl (v_move (.inl rfl) rfl) rfl ?_
 refine L_split 10 (env1 := uS3n15) (env2 := uS3n15) rfl rfl rfl (fun hg1 => ?_) (fun hg1 => ?_)
 ·try simp only [qB] at hg1
  have hck : rck l.length r = true := rcE_eq.1 hg1
  refine L_op (env' := uS3n15) rfl rfl (wS3n6 rfl rfl rfl rfl rfl) rfl ?_
  refine L_op (env' := uS3n15) rfl rfl (v_move (.inl rfl) rfl) rfl ?_
  refine L_call rfl rfl rfl (by exact keeps_spec _ _ _ (rck_kind hck) (rck_pos hck) (Nat.le_trans (rck_len hck) (by decide))) ?_
  rintro _ _ ⟨rfl, rfl⟩
  refine L_env (env' := uS3n15) rfl ?_
  refine L_op (env' := uS3n15) rfl rfl (v_pickT rfl rfl rfl) rfl ?_
  refine L_op (env' := uS3n15) rfl rfl (v_move (.inr rfl) rfl) rfl ?_
  refine L_nil (K_seq (B_ret ?_))
  refine E_app (.inr rfl) (vres_tmp rfl rfl) (by first | exact BaseOk.refl _ | exact BaseOk.set (BaseOk.refl _) _ rfl) (by first | rfl | simp [VVal.under, VVal.underL, *]) ?_
  exact ⟨by unfold hld; rw [hck]; rfl, rfl⟩
 ·try simp only [qB] at hg1
  have hck : rck l.length r = false := bool_f fun e => hg1 (rcE_eq.2 e)
  refine L_off (env' := uS3n15) rfl rfl ?_
  refine L_off (env' := uS3n15) rfl rfl ?_
  refine L_off (env' := uS3n15) rfl rfl ?_
  refine L_op (env' := uS3n15) rfl rfl (v_pickFC (VVal.bool false) rfl rfl rfl) rfl ?_
  refine L_op (env' := uS3n15) rfl rfl (v_move (.inr rfl) rfl) rfl ?_
  refine L_nil (K_seq (B_ret ?_))
  refine E_app (.inr rfl) (vres_tmp rfl rfl) (by first | exact BaseOk.refl _ | exact BaseOk.set (BaseOk.refl _) _ rfl) (by first | rfl | simp [VVal.under, VVal.underL, *]) ?_
  exact ⟨by unfold hld; rw [hck]; rfl, rfl⟩

theorem brk_yes {rs : List Rul} {l : List Int} {k : Nat} (hk : k < rs.length) (h : hld (rs.getD k r0) l = true) : brk (rs.take (k + 1)) l = brk (rs.take k) l := by
  rw [List.take_add_one, List.getElem?_eq_getElem hk]
  rw [List.getD_eq_getElem?_getD, List.getElem?_eq_getElem hk] at h
  simp only [Option.getD_some] at h
  show brk (rs.take k ++ [rs[k]]) l = _
  rw [brk_app, if_pos h, List.append_nil]
theorem brk_no {rs : List Rul} {l : List Int} {k : Nat} (hk : k < rs.length) (h : ¬ hld (rs.getD k r0) l = true) : brk (rs.take (k + 1)) l = brk (rs.take k) l ++ [(k : Int)] := by
  rw [List.take_add_one, List.getElem?_eq_getElem hk]
  rw [List.getD_eq_getElem?_getD, List.getElem?_eq_getElem hk] at h
  simp only [Option.getD_some] at h
  show brk (rs.take k ++ [rs[k]]) l = _
  rw [brk_app, if_neg h, List.length_take, Nat.min_eq_left (by omega)]
theorem brk_lenK {rs : List Rul} {l : List Int} {k : Nat} : (brk (rs.take k) l).length ≤ k := Nat.le_trans (brk_len _ _) (by rw [List.length_take]; omega)
theorem rul_mem {l : List Rul} {k : Nat} (h : k < l.length) : l.getD k r0 ∈ l := by
  rw [List.getD_eq_getElem?_getD, List.getElem?_eq_getElem h]; simp
end Go.Proofs.Ytbngdhlmggdaaaa.VT
