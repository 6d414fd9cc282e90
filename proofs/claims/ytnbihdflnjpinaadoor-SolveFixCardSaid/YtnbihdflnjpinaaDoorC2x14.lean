/- Proved: Rows.SolveFixCardSaid, the statement SolveFix with its card, of the given program at the commit; no conditions beyond those in the statement. -/
import Derived.Test.YtnbihdflnjpinaaDoorC2x13
set_option autoImplicit false
set_option linter.unusedVariables false
set_option linter.unusedSimpArgs false
set_option maxHeartbeats 4000000
set_option maxRecDepth 100000
namespace Go.Proofs.YtnbihdflnjpinaaDoor.VT
open Go Go.V Go.RowKit
abbrev u24 {a0 a1 a2 a3 a4 a5 a6 a7 a8 a9 a10 a11 a12 a13 a14 a15 a16 a17 a18 a19 a20 a21 a22 a23 : VVal} : VEnv := a0 :: a1 :: a2 :: a3 :: a4 :: a5 :: a6 :: a7 :: a8 :: a9 :: a10 :: a11 :: a12 :: a13 :: a14 :: a15 :: a16 :: a17 :: a18 :: a19 :: a20 :: a21 :: a22 :: a23 :: []
abbrev u26 {a0 a1 a2 a3 a4 a5 a6 a7 a8 a9 a10 a11 a12 a13 a14 a15 a16 a17 a18 a19 a20 a21 a22 a23 a24 a25 : VVal} : VEnv := a0 :: a1 :: a2 :: a3 :: a4 :: a5 :: a6 :: a7 :: a8 :: a9 :: a10 :: a11 :: a12 :: a13 :: a14 :: a15 :: a16 :: a17 :: a18 :: a19 :: a20 :: a21 :: a22 :: a23 :: a24 :: a25 :: []
abbrev u27 {a0 a1 a2 a3 a4 a5 a6 a7 a8 a9 a10 a11 a12 a13 a14 a15 a16 a17 a18 a19 a20 a21 a22 a23 a24 a25 a26 : VVal} : VEnv := a0 :: a1 :: a2 :: a3 :: a4 :: a5 :: a6 :: a7 :: a8 :: a9 :: a10 :: a11 :: a12 :: a13 :: a14 :: a15 :: a16 :: a17 :: a18 :: a19 :: a20 :: a21 :: a22 :: a23 :: a24 :: a25 :: a26 :: []
abbrev u41 {a0 a1 a2 a3 a4 a5 a6 a7 a8 a9 a10 a11 a12 a13 a14 a15 a16 a17 a18 a19 a20 a21 a22 a23 a24 a25 a26 a27 a28 a29 a30 a31 a32 a33 a34 a35 a36 a37 a38 a39 a40 : VVal} : VEnv := a0 :: a1 :: a2 :: a3 :: a4 :: a5 :: a6 :: a7 :: a8 :: a9 :: a10 :: a11 :: a12 :: a13 :: a14 :: a15 :: a16 :: a17 :: a18 :: a19 :: a20 :: a21 :: a22 :: a23 :: a24 :: a25 :: a26 :: a27 :: a28 :: a29 :: a30 :: a31 :: a32 :: a33 :: a34 :: a35 :: a36 :: a37 :: a38 :: a39 :: a40 :: []
theorem W50 {S : V.Sys} {H : VHeap} {fn : Func} {ex : Exit} {env : VEnv} {B L : VHeap} {v : VVal} {R : VVal → VHeap → Prop} (hx : ex = .normal ∨ ex = .ret) (hv : vresults S.C.T env (B ++ L) fn.results = some v) (h : R v B) (hB : BaseOk H B := by first | exact BaseOk.refl _ | exact BaseOk.set (BaseOk.refl _) _ rfl) (hu : v.under H.length = true := by first | rfl | simp [VVal.under, VVal.underL, *]) : fnK S fn H R ex env (B ++ L) := E_app hx hv hB hu h
theorem W51 {T : TypeId → Option VTy} {H : VHeap} {op : Op} {ρ : Operand → VVal} {t e : TypeId} {x i : Operand} {y z : VTy} {k : IntKind} {n : Int} {p v : VVal} {es : Nat} (ho : op = .indexAddr t x i) (hx : ρ x = p) (hi : ρ i = .int k n) (hy : T t = some y) (hd : y.desc = .slice e) (hz : T e = some z) (hs : z.size = es) (h : IxOk p es n v := by first | exact .inl ⟨_, _, _, rfl, by first | assumption | omega | (simp [*]; done) | (simp at *; omega), rfl⟩ | exact .inr ⟨_, _, _, _, _, rfl, by first | assumption | omega | (simp [*]; done) | (simp at *; omega), rfl⟩) : vop T ρ H op = some (v, H) := v_ix ho hx hi hy hd hz hs h
theorem W52 {T : TypeId → Option VTy} {H : VHeap} {op : Op} {ρ : Operand → VVal} {t : TypeId} {a : Operand} {y : VTy} {p v : VVal} (ho : op = .load t a) (ha : ρ a = p) (hy : T t = some y) (hd : isAggDesc y.desc = false) (h : LdOk H p v := by first | exact .inl ⟨_, _, rfl, by first | rfl | exact fgetN (α := Int) 0 (by omega)⟩ | exact .inr ⟨_, _, _, _, rfl, by first | exact get_app rfl rfl | exact get_out (by assumption) | exact getE0 rfl rfl | exact get_out (get_app rfl rfl) | exact get_app rfl (by assumption) | assumption | (simp only [List.append_assoc, List.singleton_append, List.cons_append, List.nil_append]; refine getE (i := 0) rfl ?_ rfl; simp; done) | (simp only [List.append_assoc, List.singleton_append, List.cons_append, List.nil_append]; refine getE (i := 1) rfl ?_ rfl; simp; done) | (simp only [List.append_assoc, List.singleton_append, List.cons_append, List.nil_append]; refine getE (i := 2) rfl ?_ rfl; simp; done) | (simp only [List.append_assoc, List.singleton_append, List.cons_append, List.nil_append]; refine getE (i := 3) rfl ?_ rfl; simp; done) | (simp [*]; done), by first | rfl | exact fgetN (α := Int) 0 (by omega)⟩) : vop T ρ H op = some (v, H) := v_ld ho ha hy hd h
theorem W53 {T : TypeId → Option VTy} {H : VHeap} {op : Op} {ρ : Operand → VVal} {t ty : TypeId} {x y : Operand} {n m : Int} (ho : op = .binOp .add t x y ty) (hx : ρ x = .int .i64 n) (hy : ρ y = .int .i64 m) (h : -9223372036854775808 ≤ n + m ∧ n + m < 9223372036854775808 := by first | assumption | omega | (simp [*]; done) | (simp at *; omega)) : vop T ρ H op = some (.int .i64 (n + m), H) := v_addI ho hx hy h
theorem W54 {T : TypeId → Option VTy} {H : VHeap} {op : Op} {ρ : Operand → VVal} {t : TypeId} {a : Operand} {y : VTy} {p v : VVal} (ho : op = .load t a) (ha : ρ a = p) (hy : T t = some y) (hd : isAggDesc y.desc = false) (h : LdOk H p v := by first | exact .inl ⟨_, _, rfl, by first | rfl | exact fgetN (α := BitVec 64) 0 (by omega)⟩ | exact .inr ⟨_, _, _, _, rfl, by first | exact get_app rfl rfl | exact get_out (by assumption) | exact getE0 rfl rfl | exact get_out (get_app rfl rfl) | exact get_app rfl (by assumption) | assumption | (simp only [List.append_assoc, List.singleton_append, List.cons_append, List.nil_append]; refine getE (i := 0) rfl ?_ rfl; simp; done) | (simp only [List.append_assoc, List.singleton_append, List.cons_append, List.nil_append]; refine getE (i := 1) rfl ?_ rfl; simp; done) | (simp only [List.append_assoc, List.singleton_append, List.cons_append, List.nil_append]; refine getE (i := 2) rfl ?_ rfl; simp; done) | (simp only [List.append_assoc, List.singleton_append, List.cons_append, List.nil_append]; refine getE (i := 3) rfl ?_ rfl; simp; done) | (simp [*]; done), by first | rfl | exact fgetN (α := BitVec 64) 0 (by omega)⟩) : vop T ρ H op = some (v, H) := v_ld ho ha hy hd h
theorem W55 {T : TypeId → Option VTy} {H : VHeap} {op : Op} {ρ : Operand → VVal} {t : TypeId} {a : Operand} {y : VTy} {p v : VVal} (ho : op = .load t a) (ha : ρ a = p) (hy : T t = some y) (hd : isAggDesc y.desc = false) (h : LdOk H p v := by first | exact .inl ⟨_, _, rfl, by first | rfl | assumption | exact fget (α := BitVec 64) 0 (by omega) | exact fget (α := Int) 0 (by omega) | exact fget0 (α := BitVec 64) 0 (by omega) | exact fget0 (α := Int) 0 (by omega) | exact fget (α := Bool) false (by omega) | exact fget0 (α := Bool) false (by omega) | (simp [*]; done)⟩ | exact .inr ⟨_, _, _, _, rfl, by first | exact get_app rfl rfl | exact get_out (by assumption) | exact getE0 rfl rfl | exact get_out (get_app rfl rfl) | exact get_app rfl (by assumption) | assumption | (simp only [List.append_assoc, List.singleton_append, List.cons_append, List.nil_append]; refine getE (i := 0) rfl ?_ rfl; simp; done) | (simp only [List.append_assoc, List.singleton_append, List.cons_append, List.nil_append]; refine getE (i := 1) rfl ?_ rfl; simp; done) | (simp only [List.append_assoc, List.singleton_append, List.cons_append, List.nil_append]; refine getE (i := 2) rfl ?_ rfl; simp; done) | (simp only [List.append_assoc, List.singleton_append, List.cons_append, List.nil_append]; refine getE (i := 3) rfl ?_ rfl; simp; done) | (simp [*]; done), by first | rfl | assumption | exact fget (α := BitVec 64) 0 (by omega) | exact fget (α := Int) 0 (by omega) | exact fget0 (α := BitVec 64) 0 (by omega) | exact fget0 (α := Int) 0 (by omega) | exact fget (α := Bool) false (by omega) | exact fget0 (α := Bool) false (by omega) | (simp [*]; done)⟩) : vop T ρ H op = some (v, H) := v_ld ho ha hy hd h
theorem W56 {P : Prop} (h : P := by first | exact (decide_eq_false (fun e => by subst e; first | exact absurd rfl (by assumption) | simp at *)).symm | exact decide_eq_decide.2 (by obtain ⟨a1, a2, a3, ⟨⟩⟩ := a; obtain ⟨b1, b2, b3, ⟨⟩⟩ := b; simp_all [Rul.kind, Rul.k, Rul.steps])) : P := h
theorem W57 {T : TypeId → Option VTy} {H : VHeap} {op : Op} {ρ : Operand → VVal} {t : TypeId} {a : Operand} {y : VTy} {p : VVal} {n : Nat} {vs : List VVal} (ho : op = .load t a) (ha : ρ a = p) (hy : T t = some y) (hd : isAggDesc y.desc = true) (hn : y.size = n) (h : LdOkA H p n vs := by first | exact .inl ⟨_, _, rfl, by first | rfl | exact rul_at (by omega)⟩ | exact .inr ⟨_, _, _, _, rfl, by first | exact get_app rfl rfl | exact get_out (by assumption) | exact getE0 rfl rfl | exact get_out (get_app rfl rfl) | exact get_app rfl (by assumption) | assumption | (simp only [List.append_assoc, List.singleton_append, List.cons_append, List.nil_append]; refine getE (i := 0) rfl ?_ rfl; simp; done) | (simp only [List.append_assoc, List.singleton_append, List.cons_append, List.nil_append]; refine getE (i := 1) rfl ?_ rfl; simp; done) | (simp only [List.append_assoc, List.singleton_append, List.cons_append, List.nil_append]; refine getE (i := 2) rfl ?_ rfl; simp; done) | (simp only [List.append_assoc, List.singleton_append, List.cons_append, List.nil_append]; refine getE (i := 3) rfl ?_ rfl; simp; done) | (simp [*]; done), by first | rfl | exact rul_at (by omega)⟩) : vop T ρ H op = some (.agg vs, H) := v_ldA ho ha hy hd hn h
theorem W58 {T : TypeId → Option VTy} {H : VHeap} {op : Op} {ρ : VEnv} {H' : VHeap} {t : TypeId} {a : Operand} {i : Nat} {v : VVal} {y : VTy} {b off : Nat} {cs new : List VVal} (ho : op = .store t a (.tmp i)) (hv : ρ[i]? = some v) (ha : ρ.eval a = .ptr (some (b, off))) (hy : T t = some y) (hx : v.cells = some new) (hn : new.length = y.size) (h1 : new.all VVal.one = true) (hb : H[b]? = some (.cells cs true) := by first | exact get_app rfl rfl | exact get_out (by assumption) | exact getE0 rfl rfl | exact get_out (get_app rfl rfl) | exact get_app rfl (by assumption) | assumption | (simp only [List.append_assoc, List.singleton_append, List.cons_append, List.nil_append]; refine getE (i := 0) rfl ?_ rfl; simp; done) | (simp only [List.append_assoc, List.singleton_append, List.cons_append, List.nil_append]; refine getE (i := 1) rfl ?_ rfl; simp; done) | (simp only [List.append_assoc, List.singleton_append, List.cons_append, List.nil_append]; refine getE (i := 2) rfl ?_ rfl; simp; done) | (simp only [List.append_assoc, List.singleton_append, List.cons_append, List.nil_append]; refine getE (i := 3) rfl ?_ rfl; simp; done) | (simp [*]; done)) (hl : off + new.length ≤ cs.length := by first | exact Nat.le_of_ble_eq_true rfl | (simp only [List.length_map, List.length_cons, List.length_nil]; omega) | omega | (simp; done) | (simp; omega)) (hH : H.set b (.cells (splice cs off new) true) = H' := by first | exact setE0 rfl rfl | (simp only [List.append_assoc, List.singleton_append, List.cons_append, List.nil_append]; refine setE (i := 0) rfl ?_; simp; done) | (simp only [List.append_assoc, List.singleton_append, List.cons_append, List.nil_append]; refine setE (i := 1) rfl ?_; simp; done) | (simp only [List.append_assoc, List.singleton_append, List.cons_append, List.nil_append]; refine setE (i := 2) rfl ?_; simp; done) | (simp only [List.append_assoc, List.singleton_append, List.cons_append, List.nil_append]; refine setE (i := 3) rfl ?_; simp; done) | (refine setB rfl ?_; simp; done) | exact set_app rfl | exact set_out (lt_of_get (by assumption)) | rfl) : vop T ρ.eval H op = some (.skip, H') := v_storeT ho hv ha hy hx hn h1 hb hl hH
theorem W59 {T : TypeId → Option VTy} {H : VHeap} {op : Op} {ρ : Operand → VVal} {t : TypeId} {a : Operand} {y : VTy} {p : VVal} {n : Nat} {vs : List VVal} (ho : op = .load t a) (ha : ρ a = p) (hy : T t = some y) (hd : isAggDesc y.desc = true) (hn : y.size = n) (h : LdOkA H p n vs := by first | exact .inl ⟨_, _, rfl, by first | rfl | assumption | exact fget (α := BitVec 64) 0 (by omega) | exact fget (α := Int) 0 (by omega) | exact fget0 (α := BitVec 64) 0 (by omega) | exact fget0 (α := Int) 0 (by omega) | exact fget (α := Bool) false (by omega) | exact fget0 (α := Bool) false (by omega) | (simp [*]; done)⟩ | exact .inr ⟨_, _, _, _, rfl, by first | exact get_app rfl rfl | exact get_out (by assumption) | exact getE0 rfl rfl | exact get_out (get_app rfl rfl) | exact get_app rfl (by assumption) | assumption | (simp only [List.append_assoc, List.singleton_append, List.cons_append, List.nil_append]; refine getE (i := 0) rfl ?_ rfl; simp; done) | (simp only [List.append_assoc, List.singleton_append, List.cons_append, List.nil_append]; refine getE (i := 1) rfl ?_ rfl; simp; done) | (simp only [List.append_assoc, List.singleton_append, List.cons_append, List.nil_append]; refine getE (i := 2) rfl ?_ rfl; simp; done) | (simp only [List.append_assoc, List.singleton_append, List.cons_append, List.nil_append]; refine getE (i := 3) rfl ?_ rfl; simp; done) | (simp [*]; done), by first | rfl | assumption | exact fget (α := BitVec 64) 0 (by omega) | exact fget (α := Int) 0 (by omega) | exact fget0 (α := BitVec 64) 0 (by omega) | exact fget0 (α := Int) 0 (by omega) | exact fget (α := Bool) false (by omega) | exact fget0 (α := Bool) false (by omega) | (simp [*]; done)⟩) : vop T ρ H op = some (.agg vs, H) := v_ldA ho ha hy hd hn h
theorem kInts_spec {x : SW} (H : VHeap) (l r : List (Int)) (h1 : l.length ≤ 1000000) : F (psys x) 24 [fzI l, fzI r] H fun v G => v = .bool (decide (l = r)) ∧ G = H := by
 refine F_body Tryd.func24 rfl u26 rfl ?_
 refine B_seq (B_region ?_)
 refine Lo u26 (v_const (VVal.bool false) (.inr rfl) rfl) ?_
 refine L_nil (K_seq (B_seq (B_seq (B_region ?_))))
 refine Lo u26 (v_move (.inl rfl) rfl) ?_
 refine Lo u26 (rfl) ?_
 refine Lo u26 (v_move (.inl rfl) rfl) ?_
 refine Lo u26 (rfl) ?_
 refine Lo u26 (rfl) ?_
 refine L_nil (K_seq ?_)
 refine B_cond _ rfl (fun hc1 => ?_) (fun hc1 => ?_)
 ·try simp only [qB, qN] at hc1
  refine B_seq (B_region ?_)
  refine Lo u26 (v_const (VVal.bool false) (.inr rfl) rfl) ?_
  refine L_nil (K_seq (B_ret (K_seqR ?_)))
  refine W50 (.inr rfl) (vres_tmp rfl rfl) ?_
  exact ⟨by rw [decide_eq_false (fun e => by rw [e] at hc1; omega)], rfl⟩
 ·try simp only [qB, qN] at hc1
  refine B_skip (K_seq (B_seq (B_seq (B_region ?_))))
  refine Lo u26 (v_const (VVal.int .i64 0) (.inr rfl) rfl) ?_
  refine L_nil (K_seq (B_block ?_))
  refine B_clear (mk 26 67108828) (env' := u26) rfl ?_
  refine B_loopE (fun (k : Nat) => l.length - k) (fun (k : Nat) => [(5, iI (k : Nat))]) (fun (k : Nat) G => (k ≤ l.length ∧ ∀ j, j < k → l.getD j 0 = r.getD j 0) ∧ G = H ++ []) 0 rfl ?_ ?_
  ·refine ⟨?_, rfl⟩
   exact ⟨Nat.zero_le _, fun j h => by omega⟩
  rintro k _ ⟨⟨hk, hall⟩, rfl⟩
  refine B_env (env' := u26) rfl ?_
  refine B_seq (B_seq (B_region ?_))
  refine Lo u26 (v_move (.inl rfl) rfl) ?_
  refine Lo u26 (v_move (.inl rfl) rfl) ?_
  refine Lo u26 (rfl) ?_
  refine Lo u26 (rfl) ?_
  refine L_nil (K_seq ?_)
  refine B_cond _ rfl (fun hc2 => ?_) (fun hc2 => ?_)
  ·try simp only [qB, qN] at hc2
   refine B_skip (K_seq (B_seq (B_block (B_seq ?_))))
   refine B_draw [0, 1, 2, 3, 4, 5, 6, 7, 8] #[0, 0, 3, 7, 0, 0, 48, 112, 255] (by kernel_rfl) (by kernel_rfl) (by kernel_rfl) ?_
   refine Oo u26 .calm rfl (v_move (.inl rfl) rfl) ?_
   refine Oo u26 .calm rfl (v_move (.inl rfl) rfl) ?_
   refine Oo u26 .calm rfl (W51 rfl rfl rfl rfl rfl rfl rfl) ?_
   refine Oo u26 .look rfl (W52 rfl rfl rfl rfl) ?_
   refine Oo u26 .calm rfl (v_move (.inl rfl) rfl) ?_
   refine Oo u26 .calm rfl (v_move (.inl rfl) rfl) ?_
   refine Oo u26 .calm rfl (W51 rfl rfl rfl rfl rfl rfl rfl) ?_
   refine Oo u26 .look rfl (W52 rfl rfl rfl rfl) ?_
   refine Oo u26 .calm rfl (rfl) ?_
   refine O_nil [] (by kernel_rfl) (trivial) ?_
   refine K_seq ?_
   refine B_cond _ rfl (fun hc3 => ?_) (fun hc3 => ?_)
   ·try simp only [qB, qN] at hc3
    refine B_seq (B_region ?_)
    refine Lo u26 (v_const (VVal.bool false) (.inr rfl) rfl) ?_
    refine L_nil (K_seq (B_ret (K_blkR (K_seqR (K_loopR (K_blkR (K_seqR ?_)))))))
    refine W50 (.inr rfl) (vres_tmp rfl rfl) ?_
    exact ⟨by rw [decide_eq_false (fun e => by subst e; exact hc3 rfl)], rfl⟩
   ·try simp only [qB, qN] at hc3
    refine B_skip (K_blk (K_seq (B_region ?_)))
    refine Lo u26 (v_move (.inl rfl) rfl) ?_
    refine Lo u26 (W53 rfl rfl rfl) ?_
    refine Lo u26 (v_move (.inr rfl) rfl) ?_
    refine L_nil ?_
    refine K_loop (mk 26 67108828) (env' := u26) rfl ⟨k + 1, ?_, rfl, ?_⟩
    ·first | omega | (simp only []; omega)
    ·exact ⟨⟨by omega, fun j hj => by by_cases e : j = k; (subst e; assumption); exact hall j (by omega)⟩, rfl⟩
  ·try simp only [qB, qN] at hc2
   refine B_exit (K_seqX (K_loopX (K_blkX (K_seq (B_seq (B_region ?_))))))
   refine Lo u26 (v_const (VVal.bool true) (.inr rfl) rfl) ?_
   refine L_nil (K_seq (B_ret ?_))
   refine W50 (.inr rfl) (vres_tmp rfl rfl) ?_
   have e := eq_getD (d := 0) (by omega) (fun j hj => hall j (by omega))
   exact ⟨by rw [decide_eq_true e], rfl⟩
theorem kRows_spec {x : SW} (H : VHeap) (l r : List (BitVec 64)) (h1 : l.length ≤ 1000000) : F (psys x) 32 [fzW l, fzW r] H fun v G => v = .bool (decide (l = r)) ∧ G = H := by
 refine F_body Tryd.func32 rfl u26 rfl ?_
 refine B_seq (B_region ?_)
 refine Lo u26 (v_const (VVal.bool false) (.inr rfl) rfl) ?_
 refine L_nil (K_seq (B_seq (B_seq (B_region ?_))))
 refine Lo u26 (v_move (.inl rfl) rfl) ?_
 refine Lo u26 (rfl) ?_
 refine Lo u26 (v_move (.inl rfl) rfl) ?_
 refine Lo u26 (rfl) ?_
 refine Lo u26 (rfl) ?_
 refine L_nil (K_seq ?_)
 refine B_cond _ rfl (fun hc1 => ?_) (fun hc1 => ?_)
 ·try simp only [qB, qN] at hc1
  refine B_seq (B_region ?_)
  refine Lo u26 (v_const (VVal.bool false) (.inr rfl) rfl) ?_
  refine L_nil (K_seq (B_ret (K_seqR ?_)))
  refine W50 (.inr rfl) (vres_tmp rfl rfl) ?_
  exact ⟨by rw [decide_eq_false (fun e => by rw [e] at hc1; omega)], rfl⟩
 ·try simp only [qB, qN] at hc1
  refine B_skip (K_seq (B_seq (B_seq (B_region ?_))))
  refine Lo u26 (v_const (VVal.int .i64 0) (.inr rfl) rfl) ?_
  refine L_nil (K_seq (B_block ?_))
  refine B_clear (mk 26 67108828) (env' := u26) rfl ?_
  refine B_loopE (fun (k : Nat) => l.length - k) (fun (k : Nat) => [(5, iI (k : Nat))]) (fun (k : Nat) G => (k ≤ l.length ∧ ∀ j, j < k → l.getD j 0 = r.getD j 0) ∧ G = H ++ []) 0 rfl ?_ ?_
  ·refine ⟨?_, rfl⟩
   exact ⟨Nat.zero_le _, fun j h => by omega⟩
  rintro k _ ⟨⟨hk, hall⟩, rfl⟩
  refine B_env (env' := u26) rfl ?_
  refine B_seq (B_seq (B_region ?_))
  refine Lo u26 (v_move (.inl rfl) rfl) ?_
  refine Lo u26 (v_move (.inl rfl) rfl) ?_
  refine Lo u26 (rfl) ?_
  refine Lo u26 (rfl) ?_
  refine L_nil (K_seq ?_)
  refine B_cond _ rfl (fun hc2 => ?_) (fun hc2 => ?_)
  ·try simp only [qB, qN] at hc2
   refine B_skip (K_seq (B_seq (B_block (B_seq ?_))))
   refine B_draw [0, 1, 2, 3, 4, 5, 6, 7, 8] #[0, 0, 3, 7, 0, 0, 48, 112, 255] (by kernel_rfl) (by kernel_rfl) (by kernel_rfl) ?_
   refine Oo u26 .calm rfl (v_move (.inl rfl) rfl) ?_
   refine Oo u26 .calm rfl (v_move (.inl rfl) rfl) ?_
   refine Oo u26 .calm rfl (W51 rfl rfl rfl rfl rfl rfl rfl) ?_
   refine Oo u26 .look rfl (W54 rfl rfl rfl rfl) ?_
   refine Oo u26 .calm rfl (v_move (.inl rfl) rfl) ?_
   refine Oo u26 .calm rfl (v_move (.inl rfl) rfl) ?_
   refine Oo u26 .calm rfl (W51 rfl rfl rfl rfl rfl rfl rfl) ?_
   refine Oo u26 .look rfl (W54 rfl rfl rfl rfl) ?_
   refine Oo u26 .calm rfl (rfl) ?_
   refine O_nil [] (by kernel_rfl) (trivial) ?_
   refine K_seq ?_
   refine B_cond _ rfl (fun hc3 => ?_) (fun hc3 => ?_)
   ·try simp only [qB, qN] at hc3
    refine B_seq (B_region ?_)
    refine Lo u26 (v_const (VVal.bool false) (.inr rfl) rfl) ?_
    refine L_nil (K_seq (B_ret (K_blkR (K_seqR (K_loopR (K_blkR (K_seqR ?_)))))))
    refine W50 (.inr rfl) (vres_tmp rfl rfl) ?_
    exact ⟨by rw [decide_eq_false (fun e => by subst e; exact hc3 rfl)], rfl⟩
   ·try simp only [qB, qN] at hc3
    refine B_skip (K_blk (K_seq (B_region ?_)))
    refine Lo u26 (v_move (.inl rfl) rfl) ?_
    refine Lo u26 (W53 rfl rfl rfl) ?_
    refine Lo u26 (v_move (.inr rfl) rfl) ?_
    refine L_nil ?_
    refine K_loop (mk 26 67108828) (env' := u26) rfl ⟨k + 1, ?_, rfl, ?_⟩
    ·first | omega | (simp only []; omega)
    ·exact ⟨⟨by omega, fun j hj => by by_cases e : j = k; (subst e; assumption); exact hall j (by omega)⟩, rfl⟩
  ·try simp only [qB, qN] at hc2
   refine B_exit (K_seqX (K_loopX (K_blkX (K_seq (B_seq (B_region ?_))))))
   refine Lo u26 (v_const (VVal.bool true) (.inr rfl) rfl) ?_
   refine L_nil (K_seq (B_ret ?_))
   refine W50 (.inr rfl) (vres_tmp rfl rfl) ?_
   have e := eq_getD (d := 0) (by omega) (fun j hj => hall j (by omega))
   exact ⟨by rw [decide_eq_true e], rfl⟩
theorem kRule_spec {x : SW} (H : VHeap) (a b : Rul) (h1 : a.steps.length ≤ 1000000) : F (psys x) 59 [.agg (rlB a), .agg (rlB b)] H fun v G => v = .bool (decide (a = b)) ∧ G = H := by
 refine F_body Tryd.func59 rfl u24 rfl ?_
 refine B_seq (B_region ?_)
 refine Lo u24 (v_boxT rfl rfl rfl) ?_
 refine Lo u24 (v_boxT rfl rfl rfl) ?_
 refine Lo u24 (v_const (VVal.bool false) (.inr rfl) rfl) ?_
 refine L_nil (K_seq (B_seq (B_region ?_)))
 refine Lo u24 (rfl) ?_
 refine Lo u24 (W55 rfl rfl rfl rfl) ?_
 refine Lo u24 (rfl) ?_
 refine Lo u24 (W55 rfl rfl rfl rfl) ?_
 refine Lo u24 (rfl) ?_
 refine Lo u24 (v_move (.inl rfl) rfl) ?_
 refine L_split 10 (env1 := u24) (env2 := u24) rfl rfl rfl (fun hg1 => ?_) (fun hg1 => ?_)
 ·try simp only [qB] at hg1
  refine Lo u24 (rfl) ?_
  refine Lo u24 (W55 rfl rfl rfl rfl) ?_
  refine Lo u24 (rfl) ?_
  refine Lo u24 (W55 rfl rfl rfl rfl) ?_
  refine Lo u24 (rfl) ?_
  refine Lo u24 (v_pickT rfl rfl rfl) ?_
  refine Lo u24 (v_move (.inl rfl) rfl) ?_
  refine L_split 17 (env1 := u24) (env2 := u24) rfl rfl rfl (fun hg2 => ?_) (fun hg2 => ?_)
  ·try simp only [qB] at hg2
   refine Lo u24 (rfl) ?_
   refine Lo u24 (W55 rfl rfl rfl rfl) ?_
   refine Lo u24 (rfl) ?_
   refine Lo u24 (W55 rfl rfl rfl rfl) ?_
   refine L_call rfl rfl rfl (by exact kInts_spec _ _ _ h1) ?_
   rintro _ _ ⟨rfl, rfl⟩
   refine Le u24 ?_
   refine Lo u24 (v_pickT rfl rfl rfl) ?_
   refine Lo u24 (v_move (.inr rfl) rfl) ?_
   refine L_nil (K_seq (B_ret ?_))
   refine W50 (.inr rfl) (vres_tmp rfl rfl) ?_
   refine ⟨congrArg VVal.bool ?_, rfl⟩
   exact W56
  ·try simp only [qB] at hg2
   refine Lf u24 ?_
   refine Lf u24 ?_
   refine Lf u24 ?_
   refine Lf u24 ?_
   refine Lf u24 ?_
   refine Lo u24 (v_pickFC (VVal.bool false) rfl rfl rfl) ?_
   refine Lo u24 (v_move (.inr rfl) rfl) ?_
   refine L_nil (K_seq (B_ret ?_))
   refine W50 (.inr rfl) (vres_tmp rfl rfl) ?_
   refine ⟨congrArg VVal.bool ?_, rfl⟩
   exact W56
 ·try simp only [qB] at hg1
  refine Lf u24 ?_
  refine Lf u24 ?_
  refine Lf u24 ?_
  refine Lf u24 ?_
  refine Lf u24 ?_
  refine Lo u24 (v_pickFC (VVal.bool false) rfl rfl rfl) ?_
  refine Lo u24 (v_move (.inl rfl) rfl) ?_
  refine Lf u24 ?_
  refine Lf u24 ?_
  refine Lf u24 ?_
  refine Lf u24 ?_
  refine Lf u24 ?_
  refine Lo u24 (v_pickFC (VVal.bool false) rfl rfl rfl) ?_
  refine Lo u24 (v_move (.inr rfl) rfl) ?_
  refine L_nil (K_seq (B_ret ?_))
  refine W50 (.inr rfl) (vres_tmp rfl rfl) ?_
  refine ⟨congrArg VVal.bool ?_, rfl⟩
  exact W56
theorem kRules_spec {x : SW} (H : VHeap) (l r : List Rul) (h1 : l.length ≤ 1000000) (h2 : ∀ r, r ∈ l → r.steps.length ≤ 1000000) : F (psys x) 33 [fzR l, fzR r] H fun v G => v = .bool (decide (l = r)) ∧ G = H := by
 refine F_body Tryd.func33 rfl u27 rfl ?_
 refine B_seq (B_region ?_)
 refine Lo u27 (v_const (VVal.bool false) (.inr rfl) rfl) ?_
 refine L_nil (K_seq (B_seq (B_seq (B_region ?_))))
 refine Lo u27 (v_move (.inl rfl) rfl) ?_
 refine Lo u27 (rfl) ?_
 refine Lo u27 (v_move (.inl rfl) rfl) ?_
 refine Lo u27 (rfl) ?_
 refine Lo u27 (rfl) ?_
 refine L_nil (K_seq ?_)
 refine B_cond _ rfl (fun hc1 => ?_) (fun hc1 => ?_)
 ·try simp only [qB, qN] at hc1
  refine B_seq (B_region ?_)
  refine Lo u27 (v_const (VVal.bool false) (.inr rfl) rfl) ?_
  refine L_nil (K_seq (B_ret (K_seqR ?_)))
  refine W50 (.inr rfl) (vres_tmp rfl rfl) ?_
  exact ⟨by rw [decide_eq_false (fun e => by rw [e] at hc1; omega)], rfl⟩
 ·try simp only [qB, qN] at hc1
  refine B_skip (K_seq (B_seq (B_seq (B_region ?_))))
  refine Lo u27 (v_const (VVal.int .i64 0) (.inr rfl) rfl) ?_
  refine L_nil (K_seq (B_block ?_))
  refine B_clear (mk 27 134217692) (env' := u27) rfl ?_
  refine B_loopE (fun (k : Nat) => l.length - k) (fun (k : Nat) => [(5, iI (k : Nat))]) (fun (k : Nat) G => (k ≤ l.length ∧ ∀ j, j < k → l.getD j r0 = r.getD j r0) ∧ G = H ++ []) 0 rfl ?_ ?_
  ·refine ⟨?_, rfl⟩
   exact ⟨Nat.zero_le _, fun j h => by omega⟩
  rintro k _ ⟨⟨hk, hall⟩, rfl⟩
  refine B_env (env' := u27) rfl ?_
  refine B_seq (B_seq (B_region ?_))
  refine Lo u27 (v_move (.inl rfl) rfl) ?_
  refine Lo u27 (v_move (.inl rfl) rfl) ?_
  refine Lo u27 (rfl) ?_
  refine Lo u27 (rfl) ?_
  refine L_nil (K_seq ?_)
  refine B_cond _ rfl (fun hc2 => ?_) (fun hc2 => ?_)
  ·try simp only [qB, qN] at hc2
   refine B_skip (K_seq (B_seq (B_block (B_seq ?_))))
   refine B_draw [0, 1, 2, 3, 4, 5, 6, 7, 8, 9] #[0, 0, 3, 7, 0, 0, 48, 112, 255, 511] (by kernel_rfl) (by kernel_rfl) (by kernel_rfl) ?_
   refine Oo u27 .calm rfl (v_move (.inl rfl) rfl) ?_
   refine Oo u27 .calm rfl (v_move (.inl rfl) rfl) ?_
   refine Oo u27 .calm rfl (W51 rfl rfl rfl rfl rfl rfl rfl) ?_
   refine Oo u27 .look rfl (W57 rfl rfl rfl rfl rfl) ?_
   refine Oo u27 .calm rfl (v_move (.inl rfl) rfl) ?_
   refine Oo u27 .calm rfl (v_move (.inl rfl) rfl) ?_
   refine Oo u27 .calm rfl (W51 rfl rfl rfl rfl rfl rfl rfl) ?_
   refine Oo u27 .look rfl (W57 rfl rfl rfl rfl rfl) ?_
   refine O_call (env' := u27) rfl rfl rfl rfl rfl (by exact kRule_spec _ _ _ (h2 _ (rul_mem (by omega)))) (by first | exact Nat.le_refl _ | simp) rfl rfl ?_
   refine Oo u27 .calm rfl (rfl) ?_
   refine O_nil [] (by kernel_rfl) (trivial) ?_
   refine K_seq ?_
   refine B_cond _ rfl (fun hc3 => ?_) (fun hc3 => ?_)
   ·try simp only [qB, qN] at hc3
    refine B_seq (B_region ?_)
    refine Lo u27 (v_const (VVal.bool false) (.inr rfl) rfl) ?_
    refine L_nil (K_seq (B_ret (K_blkR (K_seqR (K_loopR (K_blkR (K_seqR ?_)))))))
    refine W50 (.inr rfl) (vres_tmp rfl rfl) ?_
    exact ⟨by rw [decide_eq_false (fun e => by subst e; exact hc3 rfl)], rfl⟩
   ·try simp only [qB, qN] at hc3
    refine B_skip (K_blk (K_seq (B_region ?_)))
    refine Lo u27 (v_move (.inl rfl) rfl) ?_
    refine Lo u27 (W53 rfl rfl rfl) ?_
    refine Lo u27 (v_move (.inr rfl) rfl) ?_
    refine L_nil ?_
    refine K_loop (mk 27 134217692) (env' := u27) rfl ⟨k + 1, ?_, rfl, ?_⟩
    ·first | omega | (simp only []; omega)
    ·exact ⟨⟨by omega, fun j hj => by by_cases e : j = k; (subst e; assumption); exact hall j (by omega)⟩, rfl⟩
  ·try simp only [qB, qN] at hc2
   refine B_exit (K_seqX (K_loopX (K_blkX (K_seq (B_seq (B_region ?_))))))
   refine Lo u27 (v_const (VVal.bool true) (.inr rfl) rfl) ?_
   refine L_nil (K_seq (B_ret ?_))
   refine W50 (.inr rfl) (vres_tmp rfl rfl) ?_
   have e := eq_getD (d := r0) (by omega) (fun j hj => hall j (by omega))
   exact ⟨by rw [decide_eq_true e], rfl⟩
def pw : Pb := (3, [3#64, 3#64, 4#64], [-1, -1, -1], [(1, 0, [0, 1], ())], ())
theorem wk_le : leA pw = some [0, 1, 2] := by decide +kernel
theorem pw_L : PbL pw := ⟨by decide, by decide, by decide, by decide, fun r hr => by
  have hr : r ∈ [((1 : Int), (0 : Int), [(0 : Int), 1], ())] := hr
  rw [List.mem_singleton] at hr; subst hr; decide⟩
theorem wk_h : hds pw [0, 1, 2] = true := by decide +kernel
theorem wk_c : pck pw = 0 := by decide +kernel
theorem wk_t : leT (leA pw) = .tuple [fzI [0, 1, 2], .bool true] := by rw [wk_le]; rfl
theorem at_get {H L : VHeap} {k : VBlk} : (H ++ k :: L)[H.length]? = some k := by rw [List.getElem?_append_right (Nat.le_refl _), Nat.sub_self]; rfl
theorem at_set {H L : VHeap} {k k' : VBlk} : (H ++ k :: L).set H.length k' = H ++ k' :: L := by rw [List.set_append_right _ _ (Nat.le_refl _), Nat.sub_self]; rfl
theorem sLeast_at {x : SW} (H L : VHeap) (g : Gz) (p : Pb) (hp : PbL p) : F (psys x) 22 [.ptr (some (H.length, 0)), .agg (pbB p)] (H ++ gaB g :: L) fun v G => v = leT (leA p) ∧ G = H ++ gaB (g + leG p) :: L := by
  have := sLeast_spec (x := x) (H ++ gaB g :: L) H.length g at_get p hp
  rw [at_set] at this; exact this
theorem Can_at {x : SW} (H L : VHeap) (g : Gz) (p : Pb) (hp : PbL p) : F (psys x) 25 [.ptr (some (H.length, 0)), .agg (pbB p)] (H ++ gaB g :: L) fun v G => v = .bool (leA p).isSome ∧ G = H ++ gaB (g + leG p) :: L := by
  have := Can_spec (x := x) (H ++ gaB g :: L) H.length g at_get p hp
  rw [at_set] at this; exact this
theorem wakes_spec {x : SW} (H : VHeap) : F (psys x) 19 [] H fun v G => v = .bool true ∧ G = H := by
 refine F_body Tryd.func19 rfl u41 rfl ?_
 refine B_seq (B_region ?_)
 refine Lo u41 (v_const (VVal.bool false) (.inr rfl) rfl) ?_
 refine L_nil (K_seq (B_seq (B_region ?_)))
 refine L_call rfl rfl rfl (by exact sNew_spec _) ?_
 rintro _ _ ⟨rfl, rfl⟩; rw [List.append_nil]
 refine Le u41 ?_
 refine Lo u41 (v_move (.inr rfl) rfl) ?_
 refine L_nil (K_seq (B_seq (B_seq (B_region ?_))))
 refine Lo u41 (v_move (.inl rfl) rfl) ?_
 refine Lo u41 (v_is false rfl rfl) ?_
 refine L_nil (K_seq ?_)
 refine B_false rfl rfl ?_
 refine B_skip (K_seq (B_seq (B_region ?_)))
 refine Lo u41 (v_buildSlice rfl rfl (by decide) rfl) ?_
 refine Lo u41 (v_buildSlice rfl rfl (by decide) rfl) ?_
 refine Lo u41 (v_buildSlice rfl rfl (by decide) rfl) ?_
 refine Lo u41 (rfl) ?_
 refine Lo u41 (v_buildSlice rfl rfl (by decide) rfl) ?_
 refine Lo u41 (rfl) ?_
 refine Lo u41 (v_alloc rfl rfl) ?_
 refine Lo u41 (W58 rfl rfl rfl rfl rfl rfl rfl) ?_
 refine L_nil (K_seq (B_seq (B_region ?_)))
 refine L_gh (Gh.cellL (l := [iI 0, iI 1]) 4 2 3 rfl rfl (by decide) rfl rfl (Nat.le_refl _)) ?_
 refine L_gh (Gh.cellL (l := [iW 3#64, iW 3#64, iW 4#64]) 5 1 1 rfl rfl (by decide) rfl rfl (Nat.le_refl _)) ?_
 refine L_gh (Gh.cellL (l := [iI (-1), iI (-1), iI (-1)]) 5 2 2 rfl rfl (by decide) rfl rfl (Nat.le_refl _)) ?_
 refine L_gh (Gh.cellL (l := rlB (1, 0, [0, 1], ())) 5 3 4 rfl rfl (by decide) rfl rfl (Nat.le_refl _)) ?_
 refine Lo u41 (v_move (.inl rfl) rfl) ?_
 refine Lo u41 (W59 rfl rfl rfl rfl rfl) ?_
 refine L_call rfl rfl rfl (by exact sLeast_at H _ 0 pw pw_L) ?_
 rintro v _ ⟨hv, rfl⟩; rw [wk_t] at hv; subst hv
 refine Le u41 ?_
 refine Lo u41 (v_move (.inl rfl) rfl) ?_
 refine Lo u41 (rfl) ?_
 refine Lo u41 (rfl) ?_
 refine Lo u41 (v_move (.inr rfl) rfl) ?_
 refine Lo u41 (v_move (.inr rfl) rfl) ?_
 refine L_nil (K_seq (B_seq (B_region ?_)))
 refine Lo u41 (v_move (.inl rfl) rfl) ?_
 refine Lo u41 (v_move (.inl rfl) rfl) ?_
 refine Lo u41 (v_move (.inl rfl) rfl) ?_
 refine Lo u41 (v_buildSlice rfl rfl (by decide) rfl) ?_
 refine L_gh (Gh.freezeL (l := [iI 0, iI 1, iI 2]) 23 6 rfl rfl rfl (Nat.le_refl _) rfl) ?_
 refine L_call rfl rfl rfl (by exact kInts_spec _ [0, 1, 2] [0, 1, 2] (by decide)) ?_
 rintro v _ ⟨hv, rfl⟩; obtain rfl : v = .bool true := hv.trans (congrArg VVal.bool (by decide))
 refine Le u41 ?_
 refine Lo u41 (v_pickT rfl rfl rfl) ?_
 refine Lo u41 (v_move (.inl rfl) rfl) ?_
 refine Lo u41 (v_move (.inl rfl) rfl) ?_
 refine Lo u41 (W59 rfl rfl rfl rfl rfl) ?_
 refine L_call rfl rfl rfl (by exact Can_at H _ (0 + leG pw) pw pw_L) ?_
 rintro v _ ⟨hv, rfl⟩; obtain rfl : v = .bool true := hv.trans (congrArg VVal.bool (by rw [wk_le]; rfl))
 refine Le u41 ?_
 refine Lo u41 (v_pickT rfl rfl rfl) ?_
 refine Lo u41 (v_move (.inl rfl) rfl) ?_
 refine Lo u41 (W59 rfl rfl rfl rfl rfl) ?_
 refine Lo u41 (v_move (.inl rfl) rfl) ?_
 refine L_call rfl rfl rfl (by exact Holds_spec _ pw [0, 1, 2] pw_L (by decide)) ?_
 rintro v _ ⟨hv, rfl⟩; obtain rfl : v = .bool true := hv.trans (congrArg VVal.bool wk_h)
 refine Le u41 ?_
 refine Lo u41 (v_pickT rfl rfl rfl) ?_
 refine Lo u41 (v_move (.inl rfl) rfl) ?_
 refine Lo u41 (W59 rfl rfl rfl rfl rfl) ?_
 refine L_call rfl rfl rfl (by exact sCheck_spec _ pw pw_L) ?_
 rintro v _ ⟨hv, rfl⟩; rw [wk_c] at hv; subst hv
 refine Le u41 ?_
 refine Lo u41 (rfl) ?_
 refine Lo u41 (v_pickT rfl rfl rfl) ?_
 refine Lo u41 (v_move (.inr rfl) rfl) ?_
 refine L_nil (K_seq (B_ret ?_))
 refine W50 (.inr rfl) (vres_tmp rfl rfl) ?_
 exact ⟨rfl, rfl⟩
end Go.Proofs.YtnbihdflnjpinaaDoor.VT

set_option autoImplicit false
set_option linter.unusedVariables false
set_option linter.unusedSimpArgs false
set_option maxHeartbeats 4000000
set_option maxRecDepth 100000
namespace Go.Proofs.YtnbihdflnjpinaaDoor.VT
open Go Go.V Go.RowKit
abbrev u11 {a0 a1 a2 a3 a4 a5 a6 a7 a8 a9 a10 : VVal} : VEnv := a0 :: a1 :: a2 :: a3 :: a4 :: a5 :: a6 :: a7 :: a8 :: a9 :: a10 :: []
abbrev u102 {a0 a1 a2 a3 a4 a5 a6 a7 a8 a9 a10 a11 a12 a13 a14 a15 a16 a17 a18 a19 a20 a21 a22 a23 a24 a25 a26 a27 a28 a29 a30 a31 a32 a33 a34 a35 a36 a37 a38 a39 a40 a41 a42 a43 a44 a45 a46 a47 a48 a49 a50 a51 a52 a53 a54 a55 a56 a57 a58 a59 a60 a61 a62 a63 a64 a65 a66 a67 a68 a69 a70 a71 a72 a73 a74 a75 a76 a77 a78 a79 a80 a81 a82 a83 a84 a85 a86 a87 a88 a89 a90 a91 a92 a93 a94 a95 a96 a97 a98 a99 a100 a101 : VVal} : VEnv := a0 :: a1 :: a2 :: a3 :: a4 :: a5 :: a6 :: a7 :: a8 :: a9 :: a10 :: a11 :: a12 :: a13 :: a14 :: a15 :: a16 :: a17 :: a18 :: a19 :: a20 :: a21 :: a22 :: a23 :: a24 :: a25 :: a26 :: a27 :: a28 :: a29 :: a30 :: a31 :: a32 :: a33 :: a34 :: a35 :: a36 :: a37 :: a38 :: a39 :: a40 :: a41 :: a42 :: a43 :: a44 :: a45 :: a46 :: a47 :: a48 :: a49 :: a50 :: a51 :: a52 :: a53 :: a54 :: a55 :: a56 :: a57 :: a58 :: a59 :: a60 :: a61 :: a62 :: a63 :: a64 :: a65 :: a66 :: a67 :: a68 :: a69 :: a70 :: a71 :: a72 :: a73 :: a74 :: a75 :: a76 :: a77 :: a78 :: a79 :: a80 :: a81 :: a82 :: a83 :: a84 :: a85 :: a86 :: a87 :: a88 :: a89 :: a90 :: a91 :: a92 :: a93 :: a94 :: a95 :: a96 :: a97 :: a98 :: a99 :: a100 :: a101 :: []
theorem W5a {T : TypeId → Option VTy} {H : VHeap} {op : Op} {ρ : Operand → VVal} {t : TypeId} {a : Operand} {y : VTy} {p v : VVal} (ho : op = .load t a) (ha : ρ a = p) (hy : T t = some y) (hd : isAggDesc y.desc = false) (h : LdOk H p v := by first | exact .inl ⟨_, _, rfl, by first | rfl | assumption | exact fgetN (α := BitVec 64) 0 (by omega) | exact fgetN (α := Int) 0 (by omega) | exact rul_at (by omega)⟩ | exact .inr ⟨_, _, _, _, rfl, by first | exact get_app rfl rfl | exact get_out (by assumption) | exact getE0 rfl rfl | exact get_out (get_app rfl rfl) | exact get_app rfl (by assumption) | assumption | (simp only [List.append_assoc, List.singleton_append, List.cons_append, List.nil_append]; refine getE (i := 0) rfl ?_ rfl; simp; done) | (simp only [List.append_assoc, List.singleton_append, List.cons_append, List.nil_append]; refine getE (i := 1) rfl ?_ rfl; simp; done) | (simp only [List.append_assoc, List.singleton_append, List.cons_append, List.nil_append]; refine getE (i := 2) rfl ?_ rfl; simp; done) | (simp only [List.append_assoc, List.singleton_append, List.cons_append, List.nil_append]; refine getE (i := 3) rfl ?_ rfl; simp; done) | (simp [*]; done), by first | rfl | assumption | exact fgetN (α := BitVec 64) 0 (by omega) | exact fgetN (α := Int) 0 (by omega) | exact rul_at (by omega)⟩) : vop T ρ H op = some (v, H) := v_ld ho ha hy hd h
theorem W5b {T : TypeId → Option VTy} {H : VHeap} {op : Op} {ρ : VEnv} {H' : VHeap} {t : TypeId} {a : Operand} {i : Nat} {v : VVal} {y : VTy} {b off : Nat} {cs new : List VVal} (ho : op = .store t a (.tmp i)) (hv : ρ[i]? = some v) (ha : ρ.eval a = .ptr (some (b, off))) (hy : T t = some y) (hx : v.cells = some new) (hn : new.length = y.size) (h1 : new.all VVal.one = true) (hb : H[b]? = some (.cells cs true) := by first | exact get_app rfl rfl | exact get_out (by assumption) | exact getE0 rfl rfl | exact get_out (get_app rfl rfl) | exact get_app rfl (by assumption) | assumption | (simp only [List.append_assoc, List.singleton_append, List.cons_append, List.nil_append]; refine getE (i := 0) rfl ?_ rfl; simp; done) | (simp only [List.append_assoc, List.singleton_append, List.cons_append, List.nil_append]; refine getE (i := 1) rfl ?_ rfl; simp; done) | (simp only [List.append_assoc, List.singleton_append, List.cons_append, List.nil_append]; refine getE (i := 2) rfl ?_ rfl; simp; done) | (simp only [List.append_assoc, List.singleton_append, List.cons_append, List.nil_append]; refine getE (i := 3) rfl ?_ rfl; simp; done) | (simp [*]; done)) (hl : off + new.length ≤ cs.length := by first | exact Nat.le_of_ble_eq_true rfl | (simp only [List.length_map, List.length_cons, List.length_nil]; omega) | omega | (simp; done) | (simp; omega)) (hH : H.set b (.cells (splice cs off new) true) = H' := by first | exact setE0 rfl rfl | (simp only [List.append_assoc, List.singleton_append, List.cons_append, List.nil_append]; refine setE (i := 0) rfl ?_; simp; done) | (simp only [List.append_assoc, List.singleton_append, List.cons_append, List.nil_append]; refine setE (i := 1) rfl ?_; simp; done) | (simp only [List.append_assoc, List.singleton_append, List.cons_append, List.nil_append]; refine setE (i := 2) rfl ?_; simp; done) | (simp only [List.append_assoc, List.singleton_append, List.cons_append, List.nil_append]; refine setE (i := 3) rfl ?_; simp; done) | (refine setB rfl ?_; simp; done) | exact set_app rfl | exact set_out (lt_of_get (by assumption)) | rfl) : vop T ρ.eval H op = some (.skip, H') := v_storeT ho hv ha hy hx hn h1 hb hl hH
theorem W5c {T : TypeId → Option VTy} {H : VHeap} {op : Op} {ρ : Operand → VVal} {t e : TypeId} {x i : Operand} {y z : VTy} {k : IntKind} {n : Int} {p v : VVal} {es : Nat} (ho : op = .indexAddr t x i) (hx : ρ x = p) (hi : ρ i = .int k n) (hy : T t = some y) (hd : y.desc = .slice e) (hz : T e = some z) (hs : z.size = es) (h : IxOk p es n v := by first | exact .inl ⟨_, _, _, rfl, by first | assumption | omega | (simp [*]; done) | (simp at *; omega), rfl⟩ | exact .inr ⟨_, _, _, _, _, rfl, by first | assumption | omega | (simp [*]; done) | (simp at *; omega), rfl⟩) : vop T ρ H op = some (v, H) := v_ix ho hx hi hy hd hz hs h
theorem W5d {T : TypeId → Option VTy} {H : VHeap} {op : Op} {ρ : Operand → VVal} {t ty : TypeId} {x y : Operand} {n m : Int} (ho : op = .binOp .add t x y ty) (hx : ρ x = .int .i64 n) (hy : ρ y = .int .i64 m) (h : -9223372036854775808 ≤ n + m ∧ n + m < 9223372036854775808 := by first | assumption | omega | (simp [*]; done) | (simp at *; omega)) : vop T ρ H op = some (.int .i64 (n + m), H) := v_addI ho hx hy h
theorem W5e {T : TypeId → Option VTy} {H : VHeap} {op : Op} {ρ : Operand → VVal} {t : TypeId} {a : Operand} {y : VTy} {p : VVal} {n : Nat} {vs : List VVal} (ho : op = .load t a) (ha : ρ a = p) (hy : T t = some y) (hd : isAggDesc y.desc = true) (hn : y.size = n) (h : LdOkA H p n vs := by first | exact .inl ⟨_, _, rfl, by first | rfl | assumption | exact fgetN (α := BitVec 64) 0 (by omega) | exact fgetN (α := Int) 0 (by omega) | exact rul_at (by omega)⟩ | exact .inr ⟨_, _, _, _, rfl, by first | exact get_app rfl rfl | exact get_out (by assumption) | exact getE0 rfl rfl | exact get_out (get_app rfl rfl) | exact get_app rfl (by assumption) | assumption | (simp only [List.append_assoc, List.singleton_append, List.cons_append, List.nil_append]; refine getE (i := 0) rfl ?_ rfl; simp; done) | (simp only [List.append_assoc, List.singleton_append, List.cons_append, List.nil_append]; refine getE (i := 1) rfl ?_ rfl; simp; done) | (simp only [List.append_assoc, List.singleton_append, List.cons_append, List.nil_append]; refine getE (i := 2) rfl ?_ rfl; simp; done) | (simp only [List.append_assoc, List.singleton_append, List.cons_append, List.nil_append]; refine getE (i := 3) rfl ?_ rfl; simp; done) | (simp [*]; done), by first | rfl | assumption | exact fgetN (α := BitVec 64) 0 (by omega) | exact fgetN (α := Int) 0 (by omega) | exact rul_at (by omega)⟩) : vop T ρ H op = some (.agg vs, H) := v_ldA ho ha hy hd hn h
theorem W5f {S : V.Sys} {H : VHeap} {fn : Func} {ex : Exit} {env : VEnv} {B L : VHeap} {v : VVal} {R : VVal → VHeap → Prop} (hx : ex = .normal ∨ ex = .ret) (hv : vresults S.C.T env (B ++ L) fn.results = some v) (h : R v B) (hB : BaseOk H B := by first | exact BaseOk.refl _ | exact BaseOk.set (BaseOk.refl _) _ rfl) (hu : v.under H.length = true := by first | rfl | exact pb_under (p := cutP p)) : fnK S fn H R ex env (B ++ L) := E_app hx hv hB hu h
abbrev nilS : VVal := .slice none 0 0 true 0
abbrev pqB (u : Int) (a b c : VVal) : VBlk := .cells [iI u, a, b, c] true
def cutR (r : Rul) : Rul := (r.kind, r.k, r.steps.take 20, ())
def cutP (p : Pb) : Pb := (p.users, p.who.take 20, p.fixed.take 20, (p.rules.take 40).map cutR, ())
theorem take_end {α : Type} {l : List α} {k m : Nat} (h1 : k ≤ m) (h2 : ¬ (k < l.length ∧ k < m)) : l.take k = l.take m := by
  by_cases h : k = m
  · rw [h]
  · rw [List.take_of_length_le (by omega), List.take_of_length_le (by omega)]
theorem cutR_step {l : List Rul} {m : Nat} (h : m < l.length) : (l.take (m + 1)).map cutR = (l.take m).map cutR ++ [cutR (l.getD m r0)] := by rw [take_at (d := r0) h, List.map_append]; rfl
theorem cutP_L {p : Pb} (h : -9223372036854775808 ≤ p.users ∧ p.users < 9223372036854775808) : PbL (cutP p) :=
  ⟨h, by show (List.take 20 _).length ≤ _; rw [List.length_take]; omega, by show (List.take 20 _).length ≤ _; rw [List.length_take]; omega, by show ((List.take 40 _).map cutR).length ≤ _; rw [List.length_map, List.length_take]; omega,
    fun r hr => by
      obtain ⟨r1, _, rfl⟩ := List.mem_map.1 hr
      show (List.take 20 _).length ≤ _
      rw [List.length_take]; omega⟩
theorem cutP_2 {p : Pb} : cutP (cutP p) = cutP p := by
  unfold cutP
  show (p.users, (p.who.take 20).take 20, (p.fixed.take 20).take 20, ((((p.rules.take 40).map cutR)).take 40).map cutR, ()) = _
  rw [List.take_take, List.take_take, ← List.map_take, List.take_take, List.map_map]
  congr 1; congr 1; congr 1; congr 1
  apply List.map_congr_left
  intro r _
  show cutR (cutR r) = cutR r
  unfold cutR
  show (r.kind, r.k, (r.steps.take 20).take 20, ()) = _
  rw [List.take_take]; rfl
theorem Cut_spec {x : SW} (H : VHeap) (p : Pb) : F (psys x) 13 [.agg (pbB p)] H fun v G => v = .agg (pbB (cutP p)) ∧ G = H := by
 refine F_body Tryd.func13 rfl u102 rfl ?_
 refine B_seq (B_region ?_)
 refine Lo u102 (v_boxT rfl rfl rfl) ?_
 refine Lo u102 (v_alloc rfl rfl) ?_
 refine L_nil (K_seq (B_seq (B_region ?_)))
 refine L_gh (Gh.freezePtrL (cs := pbB p) 1 0 rfl rfl rfl) ?_
 refine Lo u102 (rfl) ?_
 refine Lo u102 (W5a rfl rfl rfl rfl) ?_
 refine Lo u102 (rfl) ?_
 refine Lo u102 (v_alloc rfl rfl) ?_
 refine Lo u102 (W5b rfl rfl rfl rfl rfl rfl rfl) ?_
 refine L_nil (K_seq ?_)
 refine B_seqJ (mk 102 5070602400912917605986812821489) (fun (u0 : Unit) => []) (fun (u0 : Unit) G => (True) ∧ ∃ lv X, G = (H ++ [VBlk.dead, pqB 0 nilS nilS nilS, pqB p.users lv nilS nilS]) ++ X ∧ LV (H.length + 3) 1 X lv ((p.who.take 20).map iW) (p.who.take 20).length) ?_ ?_
 ·skip
  refine B_seq (B_region ?_)
  refine Lo u102 (v_const (VVal.int .i64 0) (.inr rfl) rfl) ?_
  refine L_nil (K_seq (B_block ?_))
  refine B_clear (mk 102 5070602400912917605986812821473) (env' := u102) rfl ?_
  refine B_loopE (fun (k : Nat) => p.who.length - k) (fun (k : Nat) => [(4, iI (k : Nat))]) (fun (k : Nat) G => (k ≤ p.who.length ∧ k ≤ 20) ∧ ∃ lv X, G = (H ++ [VBlk.dead, pqB 0 nilS nilS nilS, pqB p.users lv nilS nilS]) ++ X ∧ LV (H.length + 3) 1 X lv (((p.who).take k).map iW) ((p.who).take k).length) 0 rfl ?_ ?_
  ·refine ⟨?_, ⟨_, [], (List.append_nil _).symm, LV.nil _ _ _⟩⟩
   exact ⟨Nat.zero_le _, Nat.zero_le _⟩
  rintro k _ ⟨⟨hk1, hk2⟩, ⟨lv, X, rfl, hl⟩⟩
  refine B_env (env' := u102) rfl ?_
  refine B_seq (B_seq (B_region ?_))
  refine Lo u102 (v_move (.inl rfl) rfl) ?_
  refine Lo u102 (rfl) ?_
  refine Lo u102 (W5a rfl rfl rfl rfl) ?_
  refine Lo u102 (rfl) ?_
  refine Lo u102 (rfl) ?_
  refine Lo u102 (v_move (.inl rfl) rfl) ?_
  refine L_split 18 (env1 := u102) (env2 := u102) rfl rfl rfl (fun hg1 => ?_) (fun hg1 => ?_)
  ·try simp only [qB, qN] at hg1
   refine Lo u102 (v_move (.inl rfl) rfl) ?_
   refine Lo u102 (rfl) ?_
   refine Lo u102 (v_pickT rfl rfl rfl) ?_
   refine L_nil (K_seq ?_)
   refine B_cond _ rfl (fun hc2 => ?_) (fun hc2 => ?_)
   ·try simp only [qB, qN] at hc2
    refine B_skip (K_seq (B_seq (B_block ?_)))
    refine B_draw [0, 1, 2, 3, 4, 5, 6, 7, 8, 9, 10] #[0, 1, 0, 4, 0, 28, 60, 124, 255, 511, 1023] (by kernel_rfl) (by kernel_rfl) (by kernel_rfl) ?_
    refine Oo u102 .calm rfl (rfl) ?_
    refine Oo u102 .look rfl (W5a rfl rfl rfl rfl) ?_
    refine Oo u102 .calm rfl (rfl) ?_
    refine Oo u102 .look rfl (W5a rfl rfl rfl rfl) ?_
    refine Oo u102 .calm rfl (v_move (.inl rfl) rfl) ?_
    refine Oo u102 .calm rfl (W5c rfl rfl rfl rfl rfl rfl rfl) ?_
    refine Oo u102 .look rfl (W5a rfl rfl rfl rfl) ?_
    refine Oo u102 .grow rfl (v_buildSlice rfl rfl (by decide) rfl) ?_
    refine O_opX .turn rfl rfl rfl (v_appXh rfl rfl rfl rfl rfl rfl rfl (by simp) hl rfl rfl (by decide) (by rw [List.length_take]; show (_ + 1) * 8 ≤ _ ∧ _ + 1 ≤ _; omega) (by decide)) rfl rfl ?_
    rintro _ _ ⟨Y1, rfl, rfl, hY1, hY2, hY3⟩
    refine O_env (env' := u102) rfl ?_
    refine Oo u102 .calm rfl (rfl) ?_
    refine Oo u102 .turn rfl (W5b rfl rfl rfl rfl rfl rfl rfl) ?_
    refine O_nil [] (by kernel_rfl) (trivial) ?_
    refine K_blk (K_seq (B_region ?_))
    refine Lo u102 (v_move (.inl rfl) rfl) ?_
    refine Lo u102 (W5d rfl rfl rfl) ?_
    refine Lo u102 (v_move (.inr rfl) rfl) ?_
    refine L_nil ?_
    refine K_loop (mk 102 5070602400912917605986812821473) (env' := u102) rfl ⟨k + 1, ?_, rfl, ?_⟩
    ·first | omega | (simp only []; omega)
    ·exact ⟨⟨by omega, by omega⟩, _, _, rfl, by rw [take_at (d := 0) (by omega)]; exact LV.pushW hY3⟩
   ·try simp only [qB, qN] at hc2
    refine B_exit (K_seqX (K_loopX (K_blkX ?_)))
    refine K_loop (mk 102 5070602400912917605986812821489) (env' := u102) rfl ⟨(), rfl, ?_⟩
    exact ⟨trivial, _, _, rfl, by rw [← take_end (m := 20) hk2 (by omega)]; exact hl⟩
  ·try simp only [qB, qN] at hg1
   refine Lf u102 ?_
   refine Lf u102 ?_
   refine Lo u102 (v_pickFC (VVal.bool false) rfl rfl rfl) ?_
   refine L_nil (K_seq ?_)
   refine B_false rfl rfl ?_
   refine B_exit (K_seqX (K_loopX (K_blkX ?_)))
   refine K_loop (mk 102 5070602400912917605986812821489) (env' := u102) rfl ⟨(), rfl, ?_⟩
   exact ⟨trivial, _, _, rfl, by rw [← take_end (m := 20) hk2 (by omega)]; exact hl⟩
 ·rintro u0 _ ⟨_, ⟨lv, X, rfl, hl⟩⟩
  refine B_env (env' := u102) rfl ?_
  refine B_seqJ (mk 102 5070602400912917605986812821489) (fun (u0 : Unit) => []) (fun (u0 : Unit) G => (True) ∧ ∃ lv X, G = (H ++ [VBlk.dead, pqB 0 nilS nilS nilS, pqB p.users (fzW (p.who.take 20)) lv nilS]) ++ X ∧ LV (H.length + 3) 1 X lv ((p.fixed.take 20).map iI) (p.fixed.take 20).length) ?_ ?_
  ·skip
   refine B_seq ?_
   refine B_ghCell 2 1 hl rfl rfl (by simp) fun X1 _ _ => ?_
   refine B_region ?_
   refine Lo u102 (v_const (VVal.int .i64 0) (.inr rfl) rfl) ?_
   refine L_nil (K_seq (B_block ?_))
   refine B_clear (mk 102 5070602400912917605986812821457) (env' := u102) rfl ?_
   refine B_loopE (fun (j : Nat) => p.fixed.length - j) (fun (j : Nat) => [(5, iI (j : Nat))]) (fun (j : Nat) G => (j ≤ p.fixed.length ∧ j ≤ 20) ∧ ∃ lv X, G = (H ++ [VBlk.dead, pqB 0 nilS nilS nilS, pqB p.users (fzW (p.who.take 20)) lv nilS]) ++ X ∧ LV (H.length + 3) 1 X lv (((p.fixed).take j).map iI) ((p.fixed).take j).length) 0 rfl ?_ ?_
   ·refine ⟨?_, ⟨_, X1, rfl, LV.nil _ _ _⟩⟩
    exact ⟨Nat.zero_le _, Nat.zero_le _⟩
   rintro j _ ⟨⟨hj1, hj2⟩, ⟨lv, X, rfl, hl⟩⟩
   refine B_env (env' := u102) rfl ?_
   refine B_seq (B_seq (B_region ?_))
   refine Lo u102 (v_move (.inl rfl) rfl) ?_
   refine Lo u102 (rfl) ?_
   refine Lo u102 (W5a rfl rfl rfl rfl) ?_
   refine Lo u102 (rfl) ?_
   refine Lo u102 (rfl) ?_
   refine Lo u102 (v_move (.inl rfl) rfl) ?_
   refine L_split 39 (env1 := u102) (env2 := u102) rfl rfl rfl (fun hg3 => ?_) (fun hg3 => ?_)
   ·try simp only [qB, qN] at hg3
    refine Lo u102 (v_move (.inl rfl) rfl) ?_
    refine Lo u102 (rfl) ?_
    refine Lo u102 (v_pickT rfl rfl rfl) ?_
    refine L_nil (K_seq ?_)
    refine B_cond _ rfl (fun hc4 => ?_) (fun hc4 => ?_)
    ·try simp only [qB, qN] at hc4
     refine B_skip (K_seq (B_seq (B_block ?_)))
     refine B_draw [0, 1, 2, 3, 4, 5, 6, 7, 8, 9, 10] #[0, 1, 0, 4, 0, 28, 60, 124, 255, 511, 1023] (by kernel_rfl) (by kernel_rfl) (by kernel_rfl) ?_
     refine Oo u102 .calm rfl (rfl) ?_
     refine Oo u102 .look rfl (W5a rfl rfl rfl rfl) ?_
     refine Oo u102 .calm rfl (rfl) ?_
     refine Oo u102 .look rfl (W5a rfl rfl rfl rfl) ?_
     refine Oo u102 .calm rfl (v_move (.inl rfl) rfl) ?_
     refine Oo u102 .calm rfl (W5c rfl rfl rfl rfl rfl rfl rfl) ?_
     refine Oo u102 .look rfl (W5a rfl rfl rfl rfl) ?_
     refine Oo u102 .grow rfl (v_buildSlice rfl rfl (by decide) rfl) ?_
     refine O_opX .turn rfl rfl rfl (v_appXh rfl rfl rfl rfl rfl rfl rfl (by simp) hl rfl rfl (by decide) (by rw [List.length_take]; show (_ + 1) * 8 ≤ _ ∧ _ + 1 ≤ _; omega) (by decide)) rfl rfl ?_
     rintro _ _ ⟨Y1, rfl, rfl, hY1, hY2, hY3⟩
     refine O_env (env' := u102) rfl ?_
     refine Oo u102 .calm rfl (rfl) ?_
     refine Oo u102 .turn rfl (W5b rfl rfl rfl rfl rfl rfl rfl) ?_
     refine O_nil [] (by kernel_rfl) (trivial) ?_
     refine K_blk (K_seq (B_region ?_))
     refine Lo u102 (v_move (.inl rfl) rfl) ?_
     refine Lo u102 (W5d rfl rfl rfl) ?_
     refine Lo u102 (v_move (.inr rfl) rfl) ?_
     refine L_nil ?_
     refine K_loop (mk 102 5070602400912917605986812821457) (env' := u102) rfl ⟨j + 1, ?_, rfl, ?_⟩
     ·first | omega | (simp only []; omega)
     ·exact ⟨⟨by omega, by omega⟩, _, _, rfl, by rw [take_at (d := 0) (by omega)]; exact LV.pushI hY3⟩
    ·try simp only [qB, qN] at hc4
     refine B_exit (K_seqX (K_loopX (K_blkX ?_)))
     refine K_loop (mk 102 5070602400912917605986812821489) (env' := u102) rfl ⟨(), rfl, ?_⟩
     exact ⟨trivial, _, _, rfl, by rw [← take_end (m := 20) hj2 (by omega)]; exact hl⟩
   ·try simp only [qB, qN] at hg3
    refine Lf u102 ?_
    refine Lf u102 ?_
    refine Lo u102 (v_pickFC (VVal.bool false) rfl rfl rfl) ?_
    refine L_nil (K_seq ?_)
    refine B_false rfl rfl ?_
    refine B_exit (K_seqX (K_loopX (K_blkX ?_)))
    refine K_loop (mk 102 5070602400912917605986812821489) (env' := u102) rfl ⟨(), rfl, ?_⟩
    exact ⟨trivial, _, _, rfl, by rw [← take_end (m := 20) hj2 (by omega)]; exact hl⟩
  ·rintro u0 _ ⟨_, ⟨lv, X, rfl, hl⟩⟩
   refine B_env (env' := u102) rfl ?_
   refine B_seqJ (mk 102 5070602400912917605986812821491) (fun (u0 : Unit) => []) (fun (u0 : Unit) G => (True) ∧ ∃ lv X, G = (H ++ [VBlk.dead, pqB 0 nilS nilS nilS, pqB p.users (fzW (p.who.take 20)) (fzI (p.fixed.take 20)) lv]) ++ X ∧ LV (H.length + 3) 3 X lv (((p.rules.take 40).map cutR).flatMap rlB) ((p.rules.take 40).map cutR).length) ?_ ?_
   ·skip
    refine B_seq ?_
    refine B_ghCell 2 2 hl rfl rfl (by simp) fun X2 _ _ => ?_
    refine B_region ?_
    refine Lo u102 (v_const (VVal.int .i64 0) (.inr rfl) rfl) ?_
    refine L_nil (K_seq (B_block ?_))
    refine B_clear (mk 102 5070602400912917605986812821425) (env' := u102) rfl ?_
    refine B_loopE (fun (m : Nat) => p.rules.length - m) (fun (m : Nat) => [(6, iI (m : Nat))]) (fun (m : Nat) G => (m ≤ p.rules.length ∧ m ≤ 40) ∧ ∃ lv X, G = (H ++ [VBlk.dead, pqB 0 nilS nilS nilS, pqB p.users (fzW (p.who.take 20)) (fzI (p.fixed.take 20)) lv]) ++ X ∧ LV (H.length + 3) 3 X lv (((p.rules.take m).map cutR).flatMap rlB) ((p.rules.take m).map cutR).length) 0 rfl ?_ ?_
    ·refine ⟨?_, ⟨_, X2, rfl, LV.nil _ _ _⟩⟩
     exact ⟨Nat.zero_le _, Nat.zero_le _⟩
    rintro m _ ⟨⟨hm1, hm2⟩, ⟨lv, X, rfl, hl⟩⟩
    refine B_env (env' := u102) rfl ?_
    refine B_seq (B_seq (B_region ?_))
    refine Lo u102 (v_move (.inl rfl) rfl) ?_
    refine Lo u102 (rfl) ?_
    refine Lo u102 (W5a rfl rfl rfl rfl) ?_
    refine Lo u102 (rfl) ?_
    refine Lo u102 (rfl) ?_
    refine Lo u102 (v_move (.inl rfl) rfl) ?_
    refine L_split 60 (env1 := u102) (env2 := u102) rfl rfl rfl (fun hg5 => ?_) (fun hg5 => ?_)
    ·try simp only [qB, qN] at hg5
     refine Lo u102 (v_move (.inl rfl) rfl) ?_
     refine Lo u102 (rfl) ?_
     refine Lo u102 (v_pickT rfl rfl rfl) ?_
     refine L_nil (K_seq ?_)
     refine B_cond _ rfl (fun hc6 => ?_) (fun hc6 => ?_)
     ·try simp only [qB, qN] at hc6
      refine B_skip (K_seq (B_seq (B_block (B_seq (B_region ?_)))))
      refine Lo u102 (rfl) ?_
      refine Lo u102 (W5a rfl rfl rfl rfl) ?_
      refine Lo u102 (v_move (.inl rfl) rfl) ?_
      refine Lo u102 (W5c rfl rfl rfl rfl rfl rfl rfl) ?_
      refine Lo u102 (W5e rfl rfl rfl rfl rfl) ?_
      refine Lo u102 (v_alloc rfl rfl) ?_
      refine Lo u102 (W5b rfl rfl rfl rfl rfl rfl rfl) ?_
      refine L_nil (K_seq (B_seq ?_))
      refine B_gh (Gh.freezeEnd (cs := rlB (p.rules.getD m r0)) 7 rfl rfl) ?_
      refine B_region ?_
      refine Lo u102 (v_const (VVal.slice none 0 0 true 0) (.inr rfl) rfl) ?_
      refine L_nil (K_seq (B_seq (B_seq (B_region ?_))))
      refine Lo u102 (v_const (VVal.int .i64 0) (.inr rfl) rfl) ?_
      refine L_nil (K_seq (B_block ?_))
      refine B_clear (mk 102 5070602400912917605986812820529) (env' := u102) rfl ?_
      refine B_loopE (fun (⟨k, sv⟩ : Nat × VVal) => (p.rules.getD m r0).steps.length - k) (fun (⟨k, sv⟩ : Nat × VVal) => [(8, sv), (9, iI (k : Nat))]) (fun (⟨k, sv⟩ : Nat × VVal) G => (k ≤ (p.rules.getD m r0).steps.length ∧ k ≤ 20) ∧ ∃ X, G = (H ++ [VBlk.dead, pqB 0 nilS nilS nilS, pqB p.users (fzW (p.who.take 20)) (fzI (p.fixed.take 20)) lv]) ++ X ∧ LV (H.length + 3) 3 X lv (((p.rules.take m).map cutR).flatMap rlB) ((p.rules.take m).map cutR).length ∧ LV (H.length + 3) 1 X sv (((p.rules.getD m r0).steps.take k).map iI) ((p.rules.getD m r0).steps.take k).length ∧ ∀ n, vidx lv = some n → vidx sv ≠ some n) ⟨0, _⟩ rfl ?_ ?_
      ·refine ⟨?_, ⟨X ++ [.dead], rfl, LV.app hl _, LV.nil _ _ _, fun n _ e => by cases e⟩⟩
       exact ⟨Nat.zero_le _, Nat.zero_le _⟩
      rintro ⟨k, sv⟩ _ ⟨⟨hk1, hk2⟩, ⟨X3, rfl, hl3, hs, hd⟩⟩
      refine B_env (env' := u102) rfl ?_
      refine B_seq (B_seq (B_region ?_))
      refine Lo u102 (v_move (.inl rfl) rfl) ?_
      refine Lo u102 (rfl) ?_
      refine Lo u102 (W5a rfl rfl rfl rfl) ?_
      refine Lo u102 (rfl) ?_
      refine Lo u102 (rfl) ?_
      refine Lo u102 (v_move (.inl rfl) rfl) ?_
      refine L_split 76 (env1 := u102) (env2 := u102) rfl rfl rfl (fun hg7 => ?_) (fun hg7 => ?_)
      ·try simp only [qB, qN] at hg7
       refine Lo u102 (v_move (.inl rfl) rfl) ?_
       refine Lo u102 (rfl) ?_
       refine Lo u102 (v_pickT rfl rfl rfl) ?_
       refine L_nil (K_seq ?_)
       refine B_cond _ rfl (fun hc8 => ?_) (fun hc8 => ?_)
       ·try simp only [qB, qN] at hc8
        refine B_skip (K_seq (B_seq (B_block (B_region ?_))))
        refine Lo u102 (v_move (.inl rfl) rfl) ?_
        refine Lo u102 (rfl) ?_
        refine Lo u102 (W5a rfl rfl rfl rfl) ?_
        refine Lo u102 (v_move (.inl rfl) rfl) ?_
        refine Lo u102 (W5c rfl rfl rfl rfl rfl rfl rfl) ?_
        refine Lo u102 (W5a rfl rfl rfl rfl) ?_
        refine Lo u102 (v_buildSlice rfl rfl (by decide) rfl) ?_
        refine L_opX rfl rfl (v_appXh rfl rfl rfl rfl rfl rfl rfl (by simp) hs rfl rfl (by decide) (by rw [List.length_take]; show (_ + 1) * 8 ≤ _ ∧ _ + 1 ≤ _; omega) (by decide)) ?_
        rintro _ _ ⟨Y1, rfl, rfl, hY1, hY2, hY3⟩
        refine Le u102 ?_
        refine Lo u102 (v_move (.inr rfl) rfl) ?_
        refine L_nil (K_blk (K_seq (B_region ?_)))
        refine Lo u102 (v_move (.inl rfl) rfl) ?_
        refine Lo u102 (W5d rfl rfl rfl) ?_
        refine Lo u102 (v_move (.inr rfl) rfl) ?_
        refine L_nil ?_
        refine K_loop (mk 102 5070602400912917605986812820529) (env' := u102) rfl ⟨⟨k + 1, _⟩, ?_, rfl, ?_⟩
        ·first | omega | (simp only []; omega)
        ·exact ⟨⟨by omega, by omega⟩, _, rfl, LV.app (LV.keep hl3 hd hY2) _, by rw [take_at (d := 0) (by omega)]; exact LV.pushI hY3, LV.far hl3 (Nat.le_succ _)⟩
       ·try simp only [qB, qN] at hc8
        refine B_exit (K_seqX (K_loopX (K_blkX (K_seq ?_))))
        rw [take_end (m := 20) hk2 (by omega)] at hs
        refine B_ghLVh (env' := u102) 8 hs (by simp) rfl rfl fun X4 hX4 hF4 => ?_
        have hl4 := LV.keep hl3 hd hF4
        refine B_region ?_
        refine Lo u102 (rfl) ?_
        refine Lo u102 (W5a rfl rfl rfl rfl) ?_
        refine Lo u102 (rfl) ?_
        refine Lo u102 (W5a rfl rfl rfl rfl) ?_
        refine Lo u102 (rfl) ?_
        refine Lo u102 (W5a rfl rfl rfl rfl) ?_
        refine Lo u102 (v_move (.inl rfl) rfl) ?_
        refine Lo u102 (rfl) ?_
        refine Lo u102 (v_buildSlice rfl rfl (by decide) rfl) ?_
        refine L_opX rfl rfl (v_appXh rfl rfl rfl rfl rfl rfl rfl (by simp) hl4 rfl rfl (by decide) (by rw [List.length_map, List.length_take]; show (_ + 1) * 40 ≤ _ ∧ _ + 1 ≤ _; omega) (by decide)) ?_
        rintro _ _ ⟨Y1, rfl, rfl, hY1, hY2, hY3⟩
        refine Le u102 ?_
        refine Lo u102 (rfl) ?_
        refine Lo u102 (W5b rfl rfl rfl rfl rfl rfl rfl) ?_
        refine L_nil (K_blk (K_seq (B_region ?_)))
        refine Lo u102 (v_move (.inl rfl) rfl) ?_
        refine Lo u102 (W5d rfl rfl rfl) ?_
        refine Lo u102 (v_move (.inr rfl) rfl) ?_
        refine L_nil ?_
        refine K_loop (mk 102 5070602400912917605986812821425) (env' := u102) rfl ⟨m + 1, ?_, rfl, ?_⟩
        ·first | omega | (simp only []; omega)
        ·exact ⟨⟨by omega, by omega⟩, _, _, rfl, by rw [cutR_step (by omega)]; exact LV.pushF hY3⟩
      ·try simp only [qB, qN] at hg7
       refine Lf u102 ?_
       refine Lf u102 ?_
       refine Lo u102 (v_pickFC (VVal.bool false) rfl rfl rfl) ?_
       refine L_nil (K_seq ?_)
       refine B_false rfl rfl ?_
       refine B_exit (K_seqX (K_loopX (K_blkX (K_seq ?_))))
       rw [take_end (m := 20) hk2 (by omega)] at hs
       refine B_ghLVh (env' := u102) 8 hs (by simp) rfl rfl fun X4 hX4 hF4 => ?_
       have hl4 := LV.keep hl3 hd hF4
       refine B_region ?_
       refine Lo u102 (rfl) ?_
       refine Lo u102 (W5a rfl rfl rfl rfl) ?_
       refine Lo u102 (rfl) ?_
       refine Lo u102 (W5a rfl rfl rfl rfl) ?_
       refine Lo u102 (rfl) ?_
       refine Lo u102 (W5a rfl rfl rfl rfl) ?_
       refine Lo u102 (v_move (.inl rfl) rfl) ?_
       refine Lo u102 (rfl) ?_
       refine Lo u102 (v_buildSlice rfl rfl (by decide) rfl) ?_
       refine L_opX rfl rfl (v_appXh rfl rfl rfl rfl rfl rfl rfl (by simp) hl4 rfl rfl (by decide) (by rw [List.length_map, List.length_take]; show (_ + 1) * 40 ≤ _ ∧ _ + 1 ≤ _; omega) (by decide)) ?_
       rintro _ _ ⟨Y1, rfl, rfl, hY1, hY2, hY3⟩
       refine Le u102 ?_
       refine Lo u102 (rfl) ?_
       refine Lo u102 (W5b rfl rfl rfl rfl rfl rfl rfl) ?_
       refine L_nil (K_blk (K_seq (B_region ?_)))
       refine Lo u102 (v_move (.inl rfl) rfl) ?_
       refine Lo u102 (W5d rfl rfl rfl) ?_
       refine Lo u102 (v_move (.inr rfl) rfl) ?_
       refine L_nil ?_
       refine K_loop (mk 102 5070602400912917605986812821425) (env' := u102) rfl ⟨m + 1, ?_, rfl, ?_⟩
       ·first | omega | (simp only []; omega)
       ·exact ⟨⟨by omega, by omega⟩, _, _, rfl, by rw [cutR_step (by omega)]; exact LV.pushF hY3⟩
     ·try simp only [qB, qN] at hc6
      refine B_exit (K_seqX (K_loopX (K_blkX ?_)))
      refine K_loop (mk 102 5070602400912917605986812821491) (env' := u102) rfl ⟨(), rfl, ?_⟩
      exact ⟨trivial, _, _, rfl, by rw [← take_end (m := 40) hm2 (by omega)]; exact hl⟩
    ·try simp only [qB, qN] at hg5
     refine Lf u102 ?_
     refine Lf u102 ?_
     refine Lo u102 (v_pickFC (VVal.bool false) rfl rfl rfl) ?_
     refine L_nil (K_seq ?_)
     refine B_false rfl rfl ?_
     refine B_exit (K_seqX (K_loopX (K_blkX ?_)))
     refine K_loop (mk 102 5070602400912917605986812821491) (env' := u102) rfl ⟨(), rfl, ?_⟩
     exact ⟨trivial, _, _, rfl, by rw [← take_end (m := 40) hm2 (by omega)]; exact hl⟩
   ·rintro u0 _ ⟨_, ⟨lv, X, rfl, hl⟩⟩
    refine B_env (env' := u102) rfl ?_
    refine B_seq ?_
    refine B_ghCell 2 3 hl rfl rfl (by simp) fun X5 _ _ => ?_
    refine B_heap (List.append_assoc _ _ _) ?_
    refine B_region ?_
    refine Lo u102 (W5e rfl rfl rfl rfl rfl) ?_
    refine Lo u102 (W5b rfl rfl rfl rfl rfl rfl rfl) ?_
    refine L_nil (K_seq (B_ret ?_))
    refine W5f (.inr rfl) (vres_cellA rfl rfl rfl rfl (by first | exact get_app rfl rfl | exact get_out (by assumption) | exact getE0 rfl rfl | exact get_out (get_app rfl rfl) | exact get_app rfl (by assumption) | assumption | (simp only [List.append_assoc, List.singleton_append, List.cons_append, List.nil_append]; refine getE (i := 0) rfl ?_ rfl; simp; done) | (simp only [List.append_assoc, List.singleton_append, List.cons_append, List.nil_append]; refine getE (i := 1) rfl ?_ rfl; simp; done) | (simp only [List.append_assoc, List.singleton_append, List.cons_append, List.nil_append]; refine getE (i := 2) rfl ?_ rfl; simp; done) | (simp only [List.append_assoc, List.singleton_append, List.cons_append, List.nil_append]; refine getE (i := 3) rfl ?_ rfl; simp; done) | (simp [*]; done)) (by first | rfl | assumption | exact fgetN (α := BitVec 64) 0 (by omega) | exact fgetN (α := Int) 0 (by omega) | exact rul_at (by omega))) ?_
    exact ⟨rfl, rfl⟩
theorem rowP_spec {x : SW} (H : VHeap) (l : List Int) : F (psys x) 17 [fzI l] H fun v G => v = .slice (some (H.length, 0)) (l.take 30).length (l.take 30).length (decide ((l.take 30).length = 0)) 1 ∧ G = H ++ [.cells ((l.take 30).map iI) true] := by
 refine F_body Tryd.func17 rfl u11 rfl ?_
 refine B_seq (B_region ?_)
 refine Lo u11 (v_const (VVal.slice none 0 0 true 0) (.inr rfl) rfl) ?_
 refine L_nil (K_seq (B_seq (B_seq (B_region ?_))))
 refine Lo u11 (v_move (.inl rfl) rfl) ?_
 refine Lo u11 (rfl) ?_
 refine Lo u11 (rfl) ?_
 refine L_nil (K_seq ?_)
 refine B_cond _ rfl (fun hc1 => ?_) (fun hc1 => ?_)
 ·try simp only [qB] at hc1
  refine B_region ?_
  refine Lo u11 (v_move (.inl rfl) rfl) ?_
  refine Lo u11 (v_iHi (k := 30) rfl rfl rfl rfl rfl rfl rfl (by omega)) ?_
  refine Lo u11 (v_move (.inr rfl) rfl) ?_
  refine L_nil (K_seq (B_seq (B_region ?_)))
  have h30 : (l.take 30).length ≤ 30 := by rw [List.length_take]; omega
  try rw [show fzI l = fzI (l.take 30) by rw [List.take_of_length_le (by omega)]]
  refine Lo u11 (v_buildSlice rfl rfl (by decide) rfl) ?_
  refine Lo u11 (v_move (.inl rfl) rfl) ?_
  refine L_opX rfl rfl (v_appE (k := (l.take 30).length) rfl rfl rfl rfl rfl rfl rfl rfl (by rw [List.length_map]; exact (Nat.mul_one _).symm) (mapI_one _) (by decide) (by show (l.take 30).length * 8 ≤ _ ∧ (l.take 30).length ≤ _; omega)) ?_
  rintro _ _ ⟨Z, i, rfl, rfl, hi⟩
  refine Le u11 ?_
  refine Lo u11 (v_move (.inr rfl) rfl) ?_
  refine L_nil (K_seq (B_ret ?_))
  refine E_gh (.inr rfl) (vres_tmp rfl rfl) (Gh.pack (BaseOk.refl _) hi (mapI_under _ _)) ?_
  exact ⟨rfl, rfl⟩
 ·try simp only [qB] at hc1
  refine B_skip (K_seq (B_seq (B_region ?_)))
  have h30 : (l.take 30).length ≤ 30 := by rw [List.length_take]; omega
  try rw [show fzI l = fzI (l.take 30) by rw [List.take_of_length_le (by omega)]]
  refine Lo u11 (v_buildSlice rfl rfl (by decide) rfl) ?_
  refine Lo u11 (v_move (.inl rfl) rfl) ?_
  refine L_opX rfl rfl (v_appE (k := (l.take 30).length) rfl rfl rfl rfl rfl rfl rfl rfl (by rw [List.length_map]; exact (Nat.mul_one _).symm) (mapI_one _) (by decide) (by show (l.take 30).length * 8 ≤ _ ∧ (l.take 30).length ≤ _; omega)) ?_
  rintro _ _ ⟨Z, i, rfl, rfl, hi⟩
  refine Le u11 ?_
  refine Lo u11 (v_move (.inr rfl) rfl) ?_
  refine L_nil (K_seq (B_ret ?_))
  refine E_gh (.inr rfl) (vres_tmp rfl rfl) (Gh.pack (BaseOk.refl _) hi (mapI_under _ _)) ?_
  exact ⟨rfl, rfl⟩
theorem row_spec {x : SW} (H : VHeap) (l : List Int) : F (psys x) 17 [fzI l] H fun v G => v = fzI (l.take 30) ∧ G = H :=
  F.gh (rowP_spec H l) fun v G h => by
    obtain ⟨rfl, rfl⟩ := h
    exact ⟨_, _, Gh.fsl (j := 0) (BaseOk.refl H) rfl map_all (Nat.le_refl _) (mapI_under _ _), rfl, rfl⟩
end Go.Proofs.YtnbihdflnjpinaaDoor.VT

set_option autoImplicit false
set_option linter.unusedVariables false
set_option linter.unusedSimpArgs false
set_option maxHeartbeats 4000000
set_option maxRecDepth 100000
namespace Go.Proofs.YtnbihdflnjpinaaDoor.VT
open Go Go.V Go.RowKit
abbrev u76 {a0 a1 a2 a3 a4 a5 a6 a7 a8 a9 a10 a11 a12 a13 a14 a15 a16 a17 a18 a19 a20 a21 a22 a23 a24 a25 a26 a27 a28 a29 a30 a31 a32 a33 a34 a35 a36 a37 a38 a39 a40 a41 a42 a43 a44 a45 a46 a47 a48 a49 a50 a51 a52 a53 a54 a55 a56 a57 a58 a59 a60 a61 a62 a63 a64 a65 a66 a67 a68 a69 a70 a71 a72 a73 a74 a75 : VVal} : VEnv := a0 :: a1 :: a2 :: a3 :: a4 :: a5 :: a6 :: a7 :: a8 :: a9 :: a10 :: a11 :: a12 :: a13 :: a14 :: a15 :: a16 :: a17 :: a18 :: a19 :: a20 :: a21 :: a22 :: a23 :: a24 :: a25 :: a26 :: a27 :: a28 :: a29 :: a30 :: a31 :: a32 :: a33 :: a34 :: a35 :: a36 :: a37 :: a38 :: a39 :: a40 :: a41 :: a42 :: a43 :: a44 :: a45 :: a46 :: a47 :: a48 :: a49 :: a50 :: a51 :: a52 :: a53 :: a54 :: a55 :: a56 :: a57 :: a58 :: a59 :: a60 :: a61 :: a62 :: a63 :: a64 :: a65 :: a66 :: a67 :: a68 :: a69 :: a70 :: a71 :: a72 :: a73 :: a74 :: a75 :: []
theorem W5g {T : TypeId → Option VTy} {H : VHeap} {op : Op} {ρ : Operand → VVal} {t : TypeId} {a : Operand} {y : VTy} {p : VVal} {n : Nat} {vs : List VVal} (ho : op = .load t a) (ha : ρ a = p) (hy : T t = some y) (hd : isAggDesc y.desc = true) (hn : y.size = n) (h : LdOkA H p n vs := by first | exact .inl ⟨_, _, rfl, by first | rfl | assumption | exact fgetN (α := BitVec 64) 0 (by omega) | exact fgetN (α := Int) 0 (by omega) | exact rul_at (by omega) | exact rul_f2 (by omega) | exact rul_f0 (by omega) | exact rul_f1 (by omega)⟩ | exact .inr ⟨_, _, _, _, rfl, by first | exact get_app rfl rfl | exact get_out (by assumption) | exact getE0 rfl rfl | exact get_out (get_app rfl rfl) | exact get_app rfl (by assumption) | assumption | (simp only [List.append_assoc, List.singleton_append, List.cons_append, List.nil_append]; refine getE (i := 0) rfl ?_ rfl; simp; done) | (simp only [List.append_assoc, List.singleton_append, List.cons_append, List.nil_append]; refine getE (i := 1) rfl ?_ rfl; simp; done) | (simp only [List.append_assoc, List.singleton_append, List.cons_append, List.nil_append]; refine getE (i := 2) rfl ?_ rfl; simp; done) | (simp only [List.append_assoc, List.singleton_append, List.cons_append, List.nil_append]; refine getE (i := 3) rfl ?_ rfl; simp; done) | (simp [*]; done), by first | rfl | assumption | exact fgetN (α := BitVec 64) 0 (by omega) | exact fgetN (α := Int) 0 (by omega) | exact rul_at (by omega) | exact rul_f2 (by omega) | exact rul_f0 (by omega) | exact rul_f1 (by omega)⟩) : vop T ρ H op = some (.agg vs, H) := v_ldA ho ha hy hd hn h
theorem W5h {T : TypeId → Option VTy} {H : VHeap} {op : Op} {ρ : VEnv} {H' : VHeap} {t : TypeId} {a : Operand} {i : Nat} {v : VVal} {y : VTy} {b off : Nat} {cs new : List VVal} (ho : op = .store t a (.tmp i)) (hv : ρ[i]? = some v) (ha : ρ.eval a = .ptr (some (b, off))) (hy : T t = some y) (hx : v.cells = some new) (hn : new.length = y.size) (h1 : new.all VVal.one = true) (hb : H[b]? = some (.cells cs true) := by first | exact get_app rfl rfl | exact get_out (by assumption) | exact getE0 rfl rfl | exact get_out (get_app rfl rfl) | exact get_app rfl (by assumption) | assumption | (simp only [List.append_assoc, List.singleton_append, List.cons_append, List.nil_append]; refine getE (i := 0) rfl ?_ rfl; simp; done) | (simp only [List.append_assoc, List.singleton_append, List.cons_append, List.nil_append]; refine getE (i := 1) rfl ?_ rfl; simp; done) | (simp only [List.append_assoc, List.singleton_append, List.cons_append, List.nil_append]; refine getE (i := 2) rfl ?_ rfl; simp; done) | (simp only [List.append_assoc, List.singleton_append, List.cons_append, List.nil_append]; refine getE (i := 3) rfl ?_ rfl; simp; done) | (simp [*]; done)) (hl : off + new.length ≤ cs.length := by first | exact Nat.le_of_ble_eq_true rfl | (simp only [List.length_map, List.length_cons, List.length_nil]; omega) | omega | (simp; done) | (simp; omega)) (hH : H.set b (.cells (splice cs off new) true) = H' := by first | exact setE0 rfl rfl | (simp only [List.append_assoc, List.singleton_append, List.cons_append, List.nil_append]; refine setE (i := 0) rfl ?_; simp; done) | (simp only [List.append_assoc, List.singleton_append, List.cons_append, List.nil_append]; refine setE (i := 1) rfl ?_; simp; done) | (simp only [List.append_assoc, List.singleton_append, List.cons_append, List.nil_append]; refine setE (i := 2) rfl ?_; simp; done) | (simp only [List.append_assoc, List.singleton_append, List.cons_append, List.nil_append]; refine setE (i := 3) rfl ?_; simp; done) | (refine setB rfl ?_; simp; done) | exact set_app rfl | exact set_out (lt_of_get (by assumption)) | rfl) : vop T ρ.eval H op = some (.skip, H') := v_storeT ho hv ha hy hx hn h1 hb hl hH
theorem W5i {T : TypeId → Option VTy} {H : VHeap} {op : Op} {ρ : Operand → VVal} {t : TypeId} {a : Operand} {y : VTy} {p v : VVal} (ho : op = .load t a) (ha : ρ a = p) (hy : T t = some y) (hd : isAggDesc y.desc = false) (h : LdOk H p v := by first | exact .inl ⟨_, _, rfl, by first | rfl | assumption | exact fgetN (α := BitVec 64) 0 (by omega) | exact fgetN (α := Int) 0 (by omega) | exact rul_at (by omega) | exact rul_f2 (by omega) | exact rul_f0 (by omega) | exact rul_f1 (by omega)⟩ | exact .inr ⟨_, _, _, _, rfl, by first | exact get_app rfl rfl | exact get_out (by assumption) | exact getE0 rfl rfl | exact get_out (get_app rfl rfl) | exact get_app rfl (by assumption) | assumption | (simp only [List.append_assoc, List.singleton_append, List.cons_append, List.nil_append]; refine getE (i := 0) rfl ?_ rfl; simp; done) | (simp only [List.append_assoc, List.singleton_append, List.cons_append, List.nil_append]; refine getE (i := 1) rfl ?_ rfl; simp; done) | (simp only [List.append_assoc, List.singleton_append, List.cons_append, List.nil_append]; refine getE (i := 2) rfl ?_ rfl; simp; done) | (simp only [List.append_assoc, List.singleton_append, List.cons_append, List.nil_append]; refine getE (i := 3) rfl ?_ rfl; simp; done) | (simp [*]; done), by first | rfl | assumption | exact fgetN (α := BitVec 64) 0 (by omega) | exact fgetN (α := Int) 0 (by omega) | exact rul_at (by omega) | exact rul_f2 (by omega) | exact rul_f0 (by omega) | exact rul_f1 (by omega)⟩) : vop T ρ H op = some (v, H) := v_ld ho ha hy hd h
theorem W5j {T : TypeId → Option VTy} {H : VHeap} {op : Op} {ρ : Operand → VVal} {t e : TypeId} {x i : Operand} {y z : VTy} {k : IntKind} {n : Int} {p v : VVal} {es : Nat} (ho : op = .indexAddr t x i) (hx : ρ x = p) (hi : ρ i = .int k n) (hy : T t = some y) (hd : y.desc = .slice e) (hz : T e = some z) (hs : z.size = es) (h : IxOk p es n v := by first | exact .inl ⟨_, _, _, rfl, by first | assumption | omega | (simp [*]; done) | (simp at *; omega), rfl⟩ | exact .inr ⟨_, _, _, _, _, rfl, by first | assumption | omega | (simp [*]; done) | (simp at *; omega), rfl⟩) : vop T ρ H op = some (v, H) := v_ix ho hx hi hy hd hz hs h
theorem W5k {T : TypeId → Option VTy} {H : VHeap} {op : Op} {ρ : Operand → VVal} {t ty : TypeId} {x y : Operand} {n m : Int} (ho : op = .binOp .add t x y ty) (hx : ρ x = .int .i64 n) (hy : ρ y = .int .i64 m) (h : -9223372036854775808 ≤ n + m ∧ n + m < 9223372036854775808 := by first | assumption | omega | (simp [*]; done) | (simp at *; omega)) : vop T ρ H op = some (.int .i64 (n + m), H) := v_addI ho hx hy h
theorem W5l {S : V.Sys} {H : VHeap} {fn : Func} {ex : Exit} {env : VEnv} {B L : VHeap} {v : VVal} {R : VVal → VHeap → Prop} (hx : ex = .normal ∨ ex = .ret) (hv : vresults S.C.T env (B ++ L) fn.results = some v) (h : R v B) (hB : BaseOk H B := by exact BaseOk.refl _) (hu : v.under H.length = true := by exact pb_under (p := fewQ q m)) : fnK S fn H R ex env (B ++ L) := E_app hx hv hB hu h
def fewR (m : Nat) (r : Rul) : Bool := r.steps.all fun s => decide (s < (m : Int))
def fewQ (q : Pb) (m : Nat) : Pb := (q.users, q.who.take m, q.fixed.take m, q.rules.filter (fewR m), ())
def fewP (p : Pb) (m : Nat) : Pb := fewQ (cutP p) m
theorem fewP_L {p : Pb} {m : Nat} (h : -9223372036854775808 ≤ p.users ∧ p.users < 9223372036854775808) : PbL (fewP p m) := by
  have g := cutP_L h
  refine ⟨g.u, ?_, ?_, ?_, fun r hr => g.s r (List.mem_filter.1 hr).1⟩
  · have := g.w; show (List.take _ _).length ≤ _; rw [List.length_take]; omega
  · have := g.f; show (List.take _ _).length ≤ _; rw [List.length_take]; omega
  · have := g.r; exact Nat.le_trans (List.length_filter_le _ _) this
theorem fewP_cut {p : Pb} {m : Nat} : cutP (fewP p m) = fewP p m := by
  have h2 := @cutP_2 p
  have hw : (cutP p).who.take 20 = (cutP p).who := congrArg Pb.who h2
  have hf : (cutP p).fixed.take 20 = (cutP p).fixed := congrArg Pb.fixed h2
  have hr : ((cutP p).rules.take 40).map cutR = (cutP p).rules := congrArg Pb.rules h2
  have hlen : (cutP p).rules.length ≤ 40 := by show ((List.take 40 _).map cutR).length ≤ _; rw [List.length_map, List.length_take]; omega
  have hr2 : ∀ r, r ∈ (cutP p).rules → cutR r = r := fun r hr1 => by
    have h1 : r ∈ (p.rules.take 40).map cutR := hr1
    obtain ⟨r1, _, rfl⟩ := List.mem_map.1 h1
    show (r1.kind, r1.k, (r1.steps.take 20).take 20, ()) = (r1.kind, r1.k, r1.steps.take 20, ())
    rw [List.take_take]; rfl
  have hwl : (cutP p).who.length ≤ 20 := by show (List.take 20 _).length ≤ _; rw [List.length_take]; omega
  have hfl : (cutP p).fixed.length ≤ 20 := by show (List.take 20 _).length ≤ _; rw [List.length_take]; omega
  unfold fewP fewQ
  show ((cutP p).users, ((cutP p).who.take m).take 20, ((cutP p).fixed.take m).take 20, ((((cutP p).rules.filter (fewR m)).take 40).map cutR), ()) = _
  rw [List.take_of_length_le (l := (cutP p).who.take m) (by rw [List.length_take]; omega), List.take_of_length_le (l := (cutP p).fixed.take m) (by rw [List.length_take]; omega), List.take_of_length_le (Nat.le_trans (List.length_filter_le _ _) hlen)]
  congr 1; congr 1; congr 1; congr 1
  conv => rhs; rw [← List.map_id ((cutP p).rules.filter (fewR m))]
  exact List.map_congr_left fun r hr1 => hr2 r (List.mem_filter.1 hr1).1
theorem fewR_step {l : List Rul} {m k : Nat} (h : k < l.length) : (l.take (k + 1)).filter (fewR m) = (l.take k).filter (fewR m) ++ if fewR m (l.getD k r0) = true then [l.getD k r0] else [] := by
  rw [take_at (d := r0) h, List.filter_append]
  congr 1
  by_cases e : fewR m (l.getD k r0) = true
  · rw [if_pos e, List.filter_cons, if_pos e]; rfl
  · rw [if_neg e, List.filter_cons, if_neg e]; rfl
theorem allS_step {l : List Int} {k : Nat} {f : Int → Bool} (h : k < l.length) : (l.take (k + 1)).all f = ((l.take k).all f && f (l.getD k 0)) := by
  rw [take_at (d := 0) h, List.all_append, List.all_cons, List.all_nil, Bool.and_true]
theorem Few_q {x : SW} (H : VHeap) (p : Pb) (m : Nat) (hu : -9223372036854775808 ≤ p.users ∧ p.users < 9223372036854775808) (q : Pb) (hq : cutP p = q) : F (psys x) 20 [.agg (pbB p), iI (m : Nat)] H fun v G => v = .agg (pbB (fewQ q m)) ∧ G = H := by
 have hL := cutP_L hu
 rw [hq] at hL
 have h1 := hL.w; have h2 := hL.f; have h3 := hL.r; have h4 := hL.s
 have h40 : q.rules.length ≤ 40 := by rw [← hq]; show ((List.take 40 _).map cutR).length ≤ _; rw [List.length_map, List.length_take]; omega
 refine F_body Tryd.func20 rfl u76 rfl ?_
 refine B_seq (B_region ?_)
 refine Lo u76 (v_boxT rfl rfl rfl) ?_
 refine Lo u76 (v_alloc rfl rfl) ?_
 refine L_nil (K_seq (B_seq ?_))
 refine B_gh (Gh.freezePtrL (cs := pbB p) 2 0 rfl rfl rfl) ?_
 refine B_region ?_
 refine Lo u76 (W5g rfl rfl rfl rfl rfl) ?_
 refine L_call rfl rfl rfl (by exact hq ▸ Cut_spec _ p) ?_
 rintro _ _ ⟨rfl, rfl⟩
 refine Le u76 ?_
 refine Lo u76 (v_alloc rfl rfl) ?_
 refine Lo u76 (W5h rfl rfl rfl rfl rfl rfl rfl) ?_
 refine L_nil (K_seq ?_)
 refine B_seqJ (mk 76 75557863725914323419085) (fun (u0 : Unit) => []) (fun (u0 : Unit) G => (True) ∧ G = H ++ [.dead, pqB 0 nilS nilS nilS, .cells [iI q.users, fzW (q.who.take m), fzI q.fixed, fzR q.rules] true]) ?_ ?_
 ·skip
  refine B_seq (B_region ?_)
  refine Lo u76 (rfl) ?_
  refine Lo u76 (W5i rfl rfl rfl rfl) ?_
  refine Lo u76 (rfl) ?_
  refine Lo u76 (v_move (.inl rfl) rfl) ?_
  refine Lo u76 (rfl) ?_
  refine L_nil (K_seq ?_)
  refine B_cond _ rfl (fun hc1 => ?_) (fun hc1 => ?_)
  ·try simp only [qB, qN] at hc1
   refine B_region ?_
   refine Lo u76 (rfl) ?_
   refine Lo u76 (W5i rfl rfl rfl rfl) ?_
   refine Lo u76 (v_move (.inl rfl) rfl) ?_
   refine Lo u76 (v_wHi (k := m) rfl rfl rfl rfl rfl rfl rfl (by omega)) ?_
   refine Lo u76 (rfl) ?_
   refine Lo u76 (W5h rfl rfl rfl rfl rfl rfl rfl) ?_
   refine L_nil ?_
   refine K_loop (mk 76 75557863725914323419085) (env' := u76) rfl ⟨(), rfl, ?_⟩
   first
     | exact ⟨trivial, rfl⟩
     | exact ⟨trivial, by rw [List.take_of_length_le (l := q.who) (by omega)]; rfl⟩
  ·try simp only [qB, qN] at hc1
   refine B_skip ?_
   refine K_loop (mk 76 75557863725914323419085) (env' := u76) rfl ⟨(), rfl, ?_⟩
   first
     | exact ⟨trivial, rfl⟩
     | exact ⟨trivial, by rw [List.take_of_length_le (l := q.who) (by omega)]; rfl⟩
 ·rintro u0 _ ⟨_, rfl⟩
  refine B_env (env' := u76) rfl ?_
  refine B_seqJ (mk 76 75557863725914323419085) (fun (u0 : Unit) => []) (fun (u0 : Unit) G => (True) ∧ G = H ++ [.dead, pqB 0 nilS nilS nilS, .cells [iI q.users, fzW (q.who.take m), fzI (q.fixed.take m), fzR q.rules] true]) ?_ ?_
  ·skip
   refine B_seq (B_region ?_)
   refine Lo u76 (rfl) ?_
   refine Lo u76 (W5i rfl rfl rfl rfl) ?_
   refine Lo u76 (rfl) ?_
   refine Lo u76 (v_move (.inl rfl) rfl) ?_
   refine Lo u76 (rfl) ?_
   refine L_nil (K_seq ?_)
   refine B_cond _ rfl (fun hc2 => ?_) (fun hc2 => ?_)
   ·try simp only [qB, qN] at hc2
    refine B_region ?_
    refine Lo u76 (rfl) ?_
    refine Lo u76 (W5i rfl rfl rfl rfl) ?_
    refine Lo u76 (v_move (.inl rfl) rfl) ?_
    refine Lo u76 (v_iHi (k := m) rfl rfl rfl rfl rfl rfl rfl (by omega)) ?_
    refine Lo u76 (rfl) ?_
    refine Lo u76 (W5h rfl rfl rfl rfl rfl rfl rfl) ?_
    refine L_nil ?_
    refine K_loop (mk 76 75557863725914323419085) (env' := u76) rfl ⟨(), rfl, ?_⟩
    first
      | exact ⟨trivial, rfl⟩
      | exact ⟨trivial, by rw [List.take_of_length_le (l := q.fixed) (by omega)]⟩
   ·try simp only [qB, qN] at hc2
    refine B_skip ?_
    refine K_loop (mk 76 75557863725914323419085) (env' := u76) rfl ⟨(), rfl, ?_⟩
    first
      | exact ⟨trivial, rfl⟩
      | exact ⟨trivial, by rw [List.take_of_length_le (l := q.fixed) (by omega)]⟩
  ·rintro u0 _ ⟨_, rfl⟩
   refine B_env (env' := u76) rfl ?_
   refine B_seq (B_region ?_)
   refine Lo u76 (v_const (VVal.slice none 0 0 true 0) (.inr rfl) rfl) ?_
   refine L_nil (K_seq (B_seq (B_seq (B_region ?_))))
   refine Lo u76 (v_const (VVal.int .i64 0) (.inr rfl) rfl) ?_
   refine L_nil (K_seq (B_block ?_))
   refine B_clear (mk 76 75557863725914323418893) (env' := u76) rfl ?_
   refine B_loopE (fun (⟨k, lv⟩ : Nat × VVal) => q.rules.length - k) (fun (⟨k, lv⟩ : Nat × VVal) => [(6, lv), (7, iI (k : Nat))]) (fun (⟨k, lv⟩ : Nat × VVal) G => (k ≤ q.rules.length) ∧ ∃ X, G = (H ++ [.dead, pqB 0 nilS nilS nilS, .cells [iI q.users, fzW (q.who.take m), fzI (q.fixed.take m), fzR q.rules] true]) ++ X ∧ LV (H.length + 3) 3 X lv (((q.rules.take k).filter (fewR m)).flatMap rlB) ((q.rules.take k).filter (fewR m)).length) ⟨0, _⟩ rfl ?_ ?_
   ·refine ⟨?_, ⟨[], (List.append_nil _).symm, LV.nil _ _ _⟩⟩
    exact Nat.zero_le _
   rintro ⟨k, lv⟩ _ ⟨hk, ⟨X, rfl, hl⟩⟩
   refine B_env (env' := u76) rfl ?_
   refine B_seq (B_seq (B_region ?_))
   refine Lo u76 (v_move (.inl rfl) rfl) ?_
   refine Lo u76 (rfl) ?_
   refine Lo u76 (W5i rfl rfl rfl rfl) ?_
   refine Lo u76 (rfl) ?_
   refine Lo u76 (rfl) ?_
   refine L_nil (K_seq ?_)
   refine B_cond _ rfl (fun hc3 => ?_) (fun hc3 => ?_)
   ·try simp only [qB, qN] at hc3
    refine B_skip (K_seq (B_seq (B_block (B_seq (B_region ?_)))))
    refine Lo u76 (v_const (VVal.bool true) (.inr rfl) rfl) ?_
    refine L_nil (K_seq (B_seq (B_seq (B_region ?_))))
    refine Lo u76 (v_const (VVal.int .i64 0) (.inr rfl) rfl) ?_
    refine L_nil (K_seq (B_block ?_))
    refine B_clear (mk 76 75557863725914323418125) (env' := u76) rfl ?_
    refine B_loopE (fun (⟨s, b⟩ : Nat × Bool) => (q.rules.getD k r0).steps.length - s) (fun (⟨s, b⟩ : Nat × Bool) => [(8, .bool b), (9, iI (s : Nat))]) (fun (⟨s, b⟩ : Nat × Bool) G => (s ≤ (q.rules.getD k r0).steps.length ∧ b = ((q.rules.getD k r0).steps.take s).all fun x => decide (x < (m : Int))) ∧ G = (H ++ [.dead, pqB 0 nilS nilS nilS, .cells [iI q.users, fzW (q.who.take m), fzI (q.fixed.take m), fzR q.rules] true]) ++ X) ⟨0, true⟩ rfl ?_ ?_
    ·refine ⟨?_, rfl⟩
     exact ⟨Nat.zero_le _, rfl⟩
    rintro ⟨s, b⟩ _ ⟨⟨hs, hb⟩, rfl⟩
    refine B_env (env' := u76) rfl ?_
    refine B_seq (B_seq ?_)
    have hst := h4 _ (rul_mem (l := q.rules) (k := k) (by omega))
    refine B_region ?_
    refine Lo u76 (v_move (.inl rfl) rfl) ?_
    refine Lo u76 (rfl) ?_
    refine Lo u76 (W5i rfl rfl rfl rfl) ?_
    refine Lo u76 (v_move (.inl rfl) rfl) ?_
    refine Lo u76 (W5j rfl rfl rfl rfl rfl rfl rfl) ?_
    refine Lo u76 (rfl) ?_
    refine Lo u76 (W5i rfl rfl rfl rfl) ?_
    refine Lo u76 (rfl) ?_
    refine Lo u76 (rfl) ?_
    refine L_nil (K_seq ?_)
    refine B_cond _ rfl (fun hc4 => ?_) (fun hc4 => ?_)
    ·try simp only [qB, qN] at hc4
     refine B_skip (K_seq (B_seq (B_block (B_region ?_))))
     refine Lo u76 (v_move (.inl rfl) rfl) ?_
     refine Lo u76 (v_move (.inl rfl) rfl) ?_
     refine L_split 51 (env1 := u76) (env2 := u76) rfl rfl rfl (fun hg5 => ?_) (fun hg5 => ?_)
     ·try simp only [qB, qN] at hg5
      refine Lo u76 (rfl) ?_
      refine Lo u76 (W5i rfl rfl rfl rfl) ?_
      refine Lo u76 (v_move (.inl rfl) rfl) ?_
      refine Lo u76 (W5j rfl rfl rfl rfl rfl rfl rfl) ?_
      refine Lo u76 (rfl) ?_
      refine Lo u76 (W5i rfl rfl rfl rfl) ?_
      refine Lo u76 (v_move (.inl rfl) rfl) ?_
      refine Lo u76 (W5j rfl rfl rfl rfl rfl rfl rfl) ?_
      refine Lo u76 (W5i rfl rfl rfl rfl) ?_
      refine Lo u76 (v_move (.inl rfl) rfl) ?_
      refine Lo u76 (rfl) ?_
      refine Lo u76 (v_pickT rfl rfl rfl) ?_
      refine Lo u76 (v_move (.inr rfl) rfl) ?_
      refine L_nil (K_blk (K_seq (B_region ?_)))
      refine Lo u76 (v_move (.inl rfl) rfl) ?_
      refine Lo u76 (W5k rfl rfl rfl) ?_
      refine Lo u76 (v_move (.inr rfl) rfl) ?_
      refine L_nil ?_
      refine K_loop (mk 76 75557863725914323418125) (env' := u76) rfl ⟨⟨s + 1, _⟩, ?_, rfl, ?_⟩
      ·first | omega | (simp only []; omega)
      ·first | exact ⟨⟨by omega, by rw [allS_step (by omega), ← hb, (show b = true by assumption), Bool.true_and]⟩, rfl⟩ | exact ⟨⟨by omega, by rw [allS_step (by omega), ← hb, (show b = false by simp_all), Bool.false_and]⟩, rfl⟩
     ·try simp only [qB, qN] at hg5
      refine Lf u76 ?_
      refine Lf u76 ?_
      refine Lf u76 ?_
      refine Lf u76 ?_
      refine Lf u76 ?_
      refine Lf u76 ?_
      refine Lf u76 ?_
      refine Lf u76 ?_
      refine Lf u76 ?_
      refine Lf u76 ?_
      refine Lf u76 ?_
      refine Lo u76 (v_pickFC (VVal.bool false) rfl rfl rfl) ?_
      refine Lo u76 (v_move (.inr rfl) rfl) ?_
      refine L_nil (K_blk (K_seq (B_region ?_)))
      refine Lo u76 (v_move (.inl rfl) rfl) ?_
      refine Lo u76 (W5k rfl rfl rfl) ?_
      refine Lo u76 (v_move (.inr rfl) rfl) ?_
      refine L_nil ?_
      refine K_loop (mk 76 75557863725914323418125) (env' := u76) rfl ⟨⟨s + 1, _⟩, ?_, rfl, ?_⟩
      ·first | omega | (simp only []; omega)
      ·first | exact ⟨⟨by omega, by rw [allS_step (by omega), ← hb, (show b = true by assumption), Bool.true_and]⟩, rfl⟩ | exact ⟨⟨by omega, by rw [allS_step (by omega), ← hb, (show b = false by simp_all), Bool.false_and]⟩, rfl⟩
    ·try simp only [qB, qN] at hc4
     refine B_exit (K_seqX (K_loopX (K_blkX (K_seq (B_seq (B_region ?_))))))
     refine Lo u76 (v_move (.inl rfl) rfl) ?_
     refine L_nil (K_seq ?_)
     refine B_cond _ rfl (fun hc6 => ?_) (fun hc6 => ?_)
     ·try simp only [qB, qN] at hc6
      refine B_region ?_
      refine Lo u76 (v_move (.inl rfl) rfl) ?_
      refine Lo u76 (rfl) ?_
      refine Lo u76 (W5i rfl rfl rfl rfl) ?_
      refine Lo u76 (v_move (.inl rfl) rfl) ?_
      refine Lo u76 (W5j rfl rfl rfl rfl rfl rfl rfl) ?_
      refine Lo u76 (W5g rfl rfl rfl rfl rfl) ?_
      refine Lo u76 (v_buildSlice rfl rfl (by decide) rfl) ?_
      refine L_opX rfl rfl (v_appXh rfl rfl rfl rfl rfl rfl rfl (by simp) hl rfl rfl (by decide) (by have h9 := List.length_filter_le (fewR m) ((q.rules).take k); rw [List.length_take] at h9; show (_ + 1) * 40 ≤ _ ∧ _ + 1 ≤ _; omega) (by decide)) ?_
      rintro _ _ ⟨Y1, rfl, rfl, hY1, hY2, hY3⟩
      refine Le u76 ?_
      refine Lo u76 (v_move (.inr rfl) rfl) ?_
      refine L_nil (K_blk (K_seq (B_region ?_)))
      refine Lo u76 (v_move (.inl rfl) rfl) ?_
      refine Lo u76 (W5k rfl rfl rfl) ?_
      refine Lo u76 (v_move (.inr rfl) rfl) ?_
      refine L_nil ?_
      obtain rfl : s = (q.rules.getD k r0).steps.length := by omega
      rw [List.take_length] at hb
      refine K_loop (mk 76 75557863725914323418893) (env' := u76) rfl ⟨⟨k + 1, _⟩, ?_, rfl, ?_⟩
      ·first | omega | (simp only []; omega)
      ·first | exact ⟨by omega, _, rfl, by rw [fewR_step (by omega), if_pos (show fewR m (q.rules.getD k r0) = true from hb.symm.trans (by assumption))]; exact LV.pushF hY3⟩ | exact ⟨by omega, _, rfl, by rw [fewR_step (by omega), if_neg (fun e => by rw [show fewR m (q.rules.getD k r0) = b from hb.symm] at e; rw [(by assumption : b = false)] at e; cases e), List.append_nil]; exact hl⟩
     ·try simp only [qB, qN] at hc6
      refine B_skip (K_blk (K_seq (B_region ?_)))
      refine Lo u76 (v_move (.inl rfl) rfl) ?_
      refine Lo u76 (W5k rfl rfl rfl) ?_
      refine Lo u76 (v_move (.inr rfl) rfl) ?_
      refine L_nil ?_
      obtain rfl : s = (q.rules.getD k r0).steps.length := by omega
      rw [List.take_length] at hb
      refine K_loop (mk 76 75557863725914323418893) (env' := u76) rfl ⟨⟨k + 1, _⟩, ?_, rfl, ?_⟩
      ·first | omega | (simp only []; omega)
      ·first | exact ⟨by omega, _, rfl, by rw [fewR_step (by omega), if_pos (show fewR m (q.rules.getD k r0) = true from hb.symm.trans (by assumption))]; exact LV.pushF hY3⟩ | exact ⟨by omega, _, rfl, by rw [fewR_step (by omega), if_neg (fun e => by rw [show fewR m (q.rules.getD k r0) = b from hb.symm] at e; rw [(by assumption : b = false)] at e; cases e), List.append_nil]; exact hl⟩
   ·try simp only [qB, qN] at hc3
    refine B_exit (K_seqX (K_loopX (K_blkX (K_seq (B_seq ?_)))))
    obtain rfl : k = q.rules.length := by omega
    rw [List.take_length] at hl
    refine B_ghLVh (env' := u76) 6 hl (by simp) rfl rfl fun X4 hX4 hF4 => ?_
    refine B_heap (List.append_assoc _ _ _) ?_
    refine B_region ?_
    refine Lo u76 (v_move (.inl rfl) rfl) ?_
    refine Lo u76 (rfl) ?_
    refine Lo u76 (W5h rfl rfl rfl rfl rfl rfl rfl) ?_
    refine L_nil (K_seq (B_seq (B_region ?_)))
    refine Lo u76 (W5g rfl rfl rfl rfl rfl) ?_
    refine Lo u76 (W5h rfl rfl rfl rfl rfl rfl rfl) ?_
    refine L_nil (K_seq (B_ret ?_))
    refine W5l (.inr rfl) (vres_cellA rfl rfl rfl rfl (by first | exact get_app rfl rfl | exact get_out (by assumption) | exact getE0 rfl rfl | exact get_out (get_app rfl rfl) | exact get_app rfl (by assumption) | assumption | (simp only [List.append_assoc, List.singleton_append, List.cons_append, List.nil_append]; refine getE (i := 0) rfl ?_ rfl; simp; done) | (simp only [List.append_assoc, List.singleton_append, List.cons_append, List.nil_append]; refine getE (i := 1) rfl ?_ rfl; simp; done) | (simp only [List.append_assoc, List.singleton_append, List.cons_append, List.nil_append]; refine getE (i := 2) rfl ?_ rfl; simp; done) | (simp only [List.append_assoc, List.singleton_append, List.cons_append, List.nil_append]; refine getE (i := 3) rfl ?_ rfl; simp; done) | (simp [*]; done)) (by first | rfl | assumption | exact fgetN (α := BitVec 64) 0 (by omega) | exact fgetN (α := Int) 0 (by omega) | exact rul_at (by omega) | exact rul_f2 (by omega) | exact rul_f0 (by omega) | exact rul_f1 (by omega))) ?_
    exact ⟨rfl, rfl⟩
theorem Few_spec {x : SW} (H : VHeap) (p : Pb) (m : Nat) (hu : -9223372036854775808 ≤ p.users ∧ p.users < 9223372036854775808) : F (psys x) 20 [.agg (pbB p), iI (m : Nat)] H fun v G => v = .agg (pbB (fewP p m)) ∧ G = H := Few_q H p m hu _ rfl
end Go.Proofs.YtnbihdflnjpinaaDoor.VT

set_option autoImplicit false
set_option linter.unusedVariables false
set_option linter.unusedSimpArgs false
set_option maxHeartbeats 4000000
set_option maxRecDepth 100000
namespace Go.Proofs.YtnbihdflnjpinaaDoor.VT
open Go Go.V Go.RowKit
abbrev u34 {a0 a1 a2 a3 a4 a5 a6 a7 a8 a9 a10 a11 a12 a13 a14 a15 a16 a17 a18 a19 a20 a21 a22 a23 a24 a25 a26 a27 a28 a29 a30 a31 a32 a33 : VVal} : VEnv := a0 :: a1 :: a2 :: a3 :: a4 :: a5 :: a6 :: a7 :: a8 :: a9 :: a10 :: a11 :: a12 :: a13 :: a14 :: a15 :: a16 :: a17 :: a18 :: a19 :: a20 :: a21 :: a22 :: a23 :: a24 :: a25 :: a26 :: a27 :: a28 :: a29 :: a30 :: a31 :: a32 :: a33 :: []
theorem W5m {T : TypeId → Option VTy} {H : VHeap} {op : Op} {ρ : Operand → VVal} {t : TypeId} {a : Operand} {y : VTy} {p v : VVal} (ho : op = .load t a) (ha : ρ a = p) (hy : T t = some y) (hd : isAggDesc y.desc = false) (h : LdOk H p v := by first | exact .inl ⟨_, _, rfl, by first | rfl | assumption | exact fgetN (α := BitVec 64) 0 (by omega) | exact fgetN (α := Int) 0 (by omega) | exact rul_at (by omega) | exact rul_f2 (by omega) | exact rul_f0 (by omega) | exact rul_f1 (by omega)⟩ | exact .inr ⟨_, _, _, _, rfl, by first | exact get_app rfl rfl | exact get_out (by assumption) | exact getE0 rfl rfl | exact get_out (get_app rfl rfl) | exact get_app rfl (by assumption) | assumption | (simp only [List.append_assoc, List.singleton_append, List.cons_append, List.nil_append]; refine getE (i := 0) rfl ?_ rfl; simp; done) | (simp only [List.append_assoc, List.singleton_append, List.cons_append, List.nil_append]; refine getE (i := 1) rfl ?_ rfl; simp; done) | (simp only [List.append_assoc, List.singleton_append, List.cons_append, List.nil_append]; refine getE (i := 2) rfl ?_ rfl; simp; done) | (simp only [List.append_assoc, List.singleton_append, List.cons_append, List.nil_append]; refine getE (i := 3) rfl ?_ rfl; simp; done) | (simp [*]; done), by first | rfl | assumption | exact fgetN (α := BitVec 64) 0 (by omega) | exact fgetN (α := Int) 0 (by omega) | exact rul_at (by omega) | exact rul_f2 (by omega) | exact rul_f0 (by omega) | exact rul_f1 (by omega)⟩) : vop T ρ H op = some (v, H) := v_ld ho ha hy hd h
theorem W5n {T : TypeId → Option VTy} {H : VHeap} {op : Op} {ρ : VEnv} {H' : VHeap} {t : TypeId} {a : Operand} {i : Nat} {v : VVal} {y : VTy} {b off : Nat} {cs new : List VVal} (ho : op = .store t a (.tmp i)) (hv : ρ[i]? = some v) (ha : ρ.eval a = .ptr (some (b, off))) (hy : T t = some y) (hx : v.cells = some new) (hn : new.length = y.size) (h1 : new.all VVal.one = true) (hb : H[b]? = some (.cells cs true) := by first | exact get_app rfl rfl | exact get_out (by assumption) | exact getE0 rfl rfl | exact get_out (get_app rfl rfl) | exact get_app rfl (by assumption) | assumption | (simp only [List.append_assoc, List.singleton_append, List.cons_append, List.nil_append]; refine getE (i := 0) rfl ?_ rfl; simp; done) | (simp only [List.append_assoc, List.singleton_append, List.cons_append, List.nil_append]; refine getE (i := 1) rfl ?_ rfl; simp; done) | (simp only [List.append_assoc, List.singleton_append, List.cons_append, List.nil_append]; refine getE (i := 2) rfl ?_ rfl; simp; done) | (simp only [List.append_assoc, List.singleton_append, List.cons_append, List.nil_append]; refine getE (i := 3) rfl ?_ rfl; simp; done) | (simp [*]; done)) (hl : off + new.length ≤ cs.length := by first | exact Nat.le_of_ble_eq_true rfl | (simp only [List.length_map, List.length_cons, List.length_nil]; omega) | omega | (simp; done) | (simp; omega)) (hH : H.set b (.cells (splice cs off new) true) = H' := by first | exact setE0 rfl rfl | (simp only [List.append_assoc, List.singleton_append, List.cons_append, List.nil_append]; refine setE (i := 0) rfl ?_; simp; done) | (simp only [List.append_assoc, List.singleton_append, List.cons_append, List.nil_append]; refine setE (i := 1) rfl ?_; simp; done) | (simp only [List.append_assoc, List.singleton_append, List.cons_append, List.nil_append]; refine setE (i := 2) rfl ?_; simp; done) | (simp only [List.append_assoc, List.singleton_append, List.cons_append, List.nil_append]; refine setE (i := 3) rfl ?_; simp; done) | (refine setB rfl ?_; simp; done) | exact set_app rfl | exact set_out (lt_of_get (by assumption)) | rfl) : vop T ρ.eval H op = some (.skip, H') := v_storeT ho hv ha hy hx hn h1 hb hl hH
theorem W5o {T : TypeId → Option VTy} {H : VHeap} {op : Op} {ρ : Operand → VVal} {t e : TypeId} {x i : Operand} {y z : VTy} {k : IntKind} {n : Int} {p v : VVal} {es : Nat} (ho : op = .indexAddr t x i) (hx : ρ x = p) (hi : ρ i = .int k n) (hy : T t = some y) (hd : y.desc = .slice e) (hz : T e = some z) (hs : z.size = es) (h : IxOk p es n v := by first | exact .inl ⟨_, _, _, rfl, by first | assumption | omega | (simp [*]; done) | (simp at *; omega), rfl⟩ | exact .inr ⟨_, _, _, _, _, rfl, by first | assumption | omega | (simp [*]; done) | (simp at *; omega), rfl⟩) : vop T ρ H op = some (v, H) := v_ix ho hx hi hy hd hz hs h
theorem W5p {T : TypeId → Option VTy} {H : VHeap} {op : Op} {ρ : Operand → VVal} {t : TypeId} {a : Operand} {y : VTy} {p : VVal} {n : Nat} {vs : List VVal} (ho : op = .load t a) (ha : ρ a = p) (hy : T t = some y) (hd : isAggDesc y.desc = true) (hn : y.size = n) (h : LdOkA H p n vs := by first | exact .inl ⟨_, _, rfl, by first | rfl | assumption | exact fgetN (α := BitVec 64) 0 (by omega) | exact fgetN (α := Int) 0 (by omega) | exact rul_at (by omega) | exact rul_f2 (by omega) | exact rul_f0 (by omega) | exact rul_f1 (by omega)⟩ | exact .inr ⟨_, _, _, _, rfl, by first | exact get_app rfl rfl | exact get_out (by assumption) | exact getE0 rfl rfl | exact get_out (get_app rfl rfl) | exact get_app rfl (by assumption) | assumption | (simp only [List.append_assoc, List.singleton_append, List.cons_append, List.nil_append]; refine getE (i := 0) rfl ?_ rfl; simp; done) | (simp only [List.append_assoc, List.singleton_append, List.cons_append, List.nil_append]; refine getE (i := 1) rfl ?_ rfl; simp; done) | (simp only [List.append_assoc, List.singleton_append, List.cons_append, List.nil_append]; refine getE (i := 2) rfl ?_ rfl; simp; done) | (simp only [List.append_assoc, List.singleton_append, List.cons_append, List.nil_append]; refine getE (i := 3) rfl ?_ rfl; simp; done) | (simp [*]; done), by first | rfl | assumption | exact fgetN (α := BitVec 64) 0 (by omega) | exact fgetN (α := Int) 0 (by omega) | exact rul_at (by omega) | exact rul_f2 (by omega) | exact rul_f0 (by omega) | exact rul_f1 (by omega)⟩) : vop T ρ H op = some (.agg vs, H) := v_ldA ho ha hy hd hn h
theorem W5q {T : TypeId → Option VTy} {H : VHeap} {op : Op} {ρ : Operand → VVal} {t ty : TypeId} {x y : Operand} {n m : Int} (ho : op = .binOp .add t x y ty) (hx : ρ x = .int .i64 n) (hy : ρ y = .int .i64 m) (h : -9223372036854775808 ≤ n + m ∧ n + m < 9223372036854775808 := by first | assumption | omega | (simp [*]; done) | (simp at *; omega)) : vop T ρ H op = some (.int .i64 (n + m), H) := v_addI ho hx hy h
theorem CloI_emp {x : SW} (H : VHeap) : F (psys x) 88 [.slice none 0 0 false 0] H fun v G => v = .fsl [] 0 1 false ∧ G = H := by
 refine F_body Tryd.func88 rfl u8 rfl ?_
 refine B_seq (B_region ?_)
 refine Lo u8 (v_const (VVal.slice none 0 0 true 0) (.inr rfl) rfl) ?_
 refine L_nil (K_seq (B_seq (B_seq (B_region ?_))))
 refine Lo u8 (v_move (.inl rfl) rfl) ?_
 refine Lo u8 (rfl) ?_
 refine L_nil (K_seq ?_)
 refine B_false rfl rfl ?_
 refine B_skip (K_seq (B_seq (B_region ?_)))
 refine Lo u8 (v_buildSlice rfl rfl (by decide) rfl) ?_
 refine Lo u8 (v_move (.inl rfl) rfl) ?_
 refine Lo u8 (v_appIn rfl rfl rfl rfl rfl rfl rfl (get_app rfl rfl) rfl rfl rfl rfl (by decide) (by decide) (by decide)) ?_
 refine L_heap (H' := H ++ [.cells [] true]) (by rw [set_app rfl]; rfl) ?_
 refine Lo u8 (v_move (.inr rfl) rfl) ?_
 refine L_nil (K_seq (B_ret ?_))
 refine E_gh (.inr rfl) (vres_tmp rfl rfl) (Gh.fsl (j := 0) (off := 0) (len := 0) (l := []) (BaseOk.refl _) rfl rfl (Nat.le_refl _) rfl) ?_
 exact ⟨rfl, rfl⟩
theorem CloI_c {x : SW} (H : VHeap) (l : List Int) (hne : l ≠ []) (hl : l.length ≤ 1000000) : F (psys x) 88 [fzI l] H fun v G => v = .slice (some (H.length, 0)) l.length l.length (decide (l.length = 0)) 1 ∧ G = H ++ [.cells (l.map iI) true] := by
 refine F_body Tryd.func88 rfl u8 rfl ?_
 refine B_seq (B_region ?_)
 refine Lo u8 (v_const (VVal.slice none 0 0 true 0) (.inr rfl) rfl) ?_
 refine L_nil (K_seq (B_seq (B_seq (B_region ?_))))
 refine Lo u8 (v_move (.inl rfl) rfl) ?_
 refine Lo u8 (v_eqNilC rfl rfl rfl rfl rfl (fun e => hne (List.eq_nil_of_length_eq_zero e))) ?_
 refine L_nil (K_seq ?_)
 refine B_false rfl rfl ?_
 refine B_skip (K_seq (B_seq (B_region ?_)))
 refine Lo u8 (v_buildSlice rfl rfl (by decide) rfl) ?_
 refine Lo u8 (v_move (.inl rfl) rfl) ?_
 refine L_opX rfl rfl (v_appE rfl rfl rfl rfl rfl rfl rfl rfl (by rw [List.length_map]; exact (Nat.mul_one _).symm) (mapI_one _) (by decide) (by show l.length * 8 ≤ _ ∧ l.length ≤ _; omega)) ?_
 rintro _ _ ⟨Z, i, rfl, rfl, hi⟩
 refine Le u8 ?_
 refine Lo u8 (v_move (.inr rfl) rfl) ?_
 refine L_nil (K_seq (B_ret ?_))
 refine E_gh (.inr rfl) (vres_tmp rfl rfl) (Gh.pack (BaseOk.refl _) hi (mapI_under _ _)) ?_
 exact ⟨rfl, rfl⟩
theorem CloWf {x : SW} (H : VHeap) (l : List (BitVec 64)) (hl : l.length ≤ 1000000) : F (psys x) 87 [fzW l] H fun v G => v = fzW l ∧ G = H := by
  by_cases h : l = []
  · subst h; exact CloW_0 H
  · exact F.gh (CloW_c H l h hl) fun v G h => by
      obtain ⟨rfl, rfl⟩ := h
      exact ⟨_, _, Gh.fsl (j := 0) (BaseOk.refl H) rfl wApp_c (Nat.le_refl _) (mapW_under _ _), rfl, rfl⟩
theorem CloIf {x : SW} (H : VHeap) (l : List Int) (hl : l.length ≤ 1000000) : F (psys x) 88 [fzI l] H fun v G => v = fzI l ∧ G = H := by
  by_cases h : l = []
  · subst h; exact F_split0 (CloI_nil H) (CloI_emp H)
  · exact F.gh (CloI_c H l h hl) fun v G h => by
      obtain ⟨rfl, rfl⟩ := h
      exact ⟨_, _, Gh.fsl (j := 0) (BaseOk.refl H) rfl map_all (Nat.le_refl _) (mapI_under _ _), rfl, rfl⟩
theorem CloI_L {x : SW} (H L : VHeap) (l : List Int) (hne : l ≠ []) (hl : l.length ≤ 1000000) : F (psys x) 88 [fzI l] (H ++ L) fun v G => v = .slice (some (H.length + L.length, 0)) l.length l.length (decide (l.length = 0)) 1 ∧ G = H ++ (L ++ [.cells (l.map iI) true]) := by
  have := CloI_c (x := x) (H ++ L) l hne hl
  rw [List.length_append, List.append_assoc] at this
  exact this
def CpR (H : VHeap) (p : Pb) (v : VVal) (G : VHeap) : Prop := ∃ Y j, v = .agg [iI p.users, fzW p.who, .slice (some (H.length + j, 0)) p.fixed.length p.fixed.length false 1, fzR p.rules] ∧ G = H ++ Y ∧ Y[j]? = some (.cells (p.fixed.map iI) true)
theorem Copy_spec {x : SW} (H : VHeap) (p : Pb) (hp : PbL p) (hne : p.fixed ≠ []) : F (psys x) 57 [.agg (pbB p)] H (CpR H p) := by
 have h1 := hp.w; have h2 := hp.f; have h3 := hp.r; have h4 := hp.s
 have hd : decide (p.fixed.length = 0) = false := decide_eq_false fun e => hne (List.eq_nil_of_length_eq_zero e)
 refine F_body Tryd.func57 rfl u34 rfl ?_
 refine B_seq (B_region ?_)
 refine Lo u34 (v_boxT rfl rfl rfl) ?_
 refine Lo u34 (v_alloc rfl rfl) ?_
 refine L_nil (K_seq (B_seq ?_))
 refine B_gh (Gh.freezePtrL (cs := pbB p) 1 0 rfl rfl rfl) ?_
 refine B_draw [0, 1, 2, 3, 5, 6, 9, 4, 7, 8, 10] #[0, 1, 0, 4, 12, 0, 32, 124, 255, 0, 1023] (by kernel_rfl) (by kernel_rfl) (by kernel_rfl) ?_
 refine Oo u34 .calm rfl (rfl) ?_
 refine O_opI (env' := u34) (x := .look _ _) rfl rfl rfl (W5m rfl rfl rfl rfl) rfl rfl rfl ?_
 refine Oo u34 .calm rfl (rfl) ?_
 refine Oo u34 .look rfl (W5m rfl rfl rfl rfl) ?_
 refine Oo u34 .calm rfl (rfl) ?_
 refine O_opI (env' := u34) (x := .look _ _) rfl rfl rfl (W5m rfl rfl rfl rfl) rfl rfl rfl ?_
 refine O_opI (env' := u34) (x := .grow _) rfl rfl rfl (v_alloc rfl rfl) rfl rfl rfl ?_
 refine O_call (env' := u34) rfl rfl rfl rfl rfl (by exact CloWf _ _ h1) (by first | exact Nat.le_refl _ | simp) rfl rfl ?_
 refine O_call (env' := u34) rfl rfl rfl rfl rfl (by exact CloI_L _ _ _ hne h2) (by first | exact Nat.le_refl _ | simp) rfl rfl ?_
 refine Oo u34 .calm rfl (rfl) ?_
 refine Oo u34 .turn rfl (W5n rfl rfl rfl rfl rfl rfl rfl) ?_
 refine O_nil [_, _, _, _, _] (by rfl) (And.intro (And.intro (W5m rfl rfl rfl rfl) (W5m rfl rfl rfl rfl)) (And.intro (And.intro (W5m rfl rfl rfl rfl) (W5m rfl rfl rfl rfl)) (And.intro (And.intro (W5m rfl rfl rfl rfl) (W5m rfl rfl rfl rfl)) (And.intro ((by first | exact rfl | simp)) (And.intro ((by simp [V.fine])) trivial))))) ?_
 refine K_seq (B_seq (B_seq (B_region ?_)))
 refine Lo u34 (rfl) ?_
 refine Lo u34 (W5m rfl rfl rfl rfl) ?_
 refine Lo u34 (rfl) ?_
 refine Lo u34 (v_const (VVal.int .i64 0) (.inl rfl) rfl) ?_
 refine L_nil (K_seq (B_block ?_))
 refine B_clear (mk 34 17179410419) (env' := u34) rfl ?_
 refine B_loopE (fun (k : Nat) => p.rules.length - k) (fun (k : Nat) => [(18, iI (k : Nat))]) (fun (k : Nat) G => (k ≤ p.rules.length) ∧ ∃ lv X, G = (H ++ [.dead, pqB 0 nilS nilS nilS, .cells [iI p.users, fzW p.who, .slice (some (H.length + 3, 0)) p.fixed.length p.fixed.length (decide (p.fixed.length = 0)) 1, lv] true, .cells (p.fixed.map iI) true]) ++ X ∧ LV (H.length + 4) 3 X lv ((p.rules.take k).flatMap rlB) (p.rules.take k).length) 0 rfl ?_ ?_
 ·refine ⟨?_, ⟨_, [], by rw [List.append_nil]; rfl, LV.nil _ _ _⟩⟩
  exact Nat.zero_le _
 rintro k _ ⟨hk, ⟨lv, X, rfl, hl⟩⟩
 refine B_env (env' := u34) rfl ?_
 refine B_seq (B_region ?_)
 refine Lo u34 (rfl) ?_
 refine L_nil (K_seq (B_seq ?_))
 refine B_cond _ rfl (fun hc1 => ?_) (fun hc1 => ?_)
 ·try simp only [qB, qN] at hc1
  refine B_skip (K_seq (B_seq (B_block (B_seq (B_region ?_)))))
  refine Lo u34 (W5o rfl rfl rfl rfl rfl rfl rfl) ?_
  refine Lo u34 (W5p rfl rfl rfl rfl rfl) ?_
  refine Lo u34 (v_alloc rfl rfl) ?_
  refine Lo u34 (W5n rfl rfl rfl rfl rfl rfl rfl) ?_
  refine L_nil (K_seq (B_seq (B_region ?_)))
  refine Lo u34 (rfl) ?_
  refine Lo u34 (W5m rfl rfl rfl rfl) ?_
  refine L_call rfl rfl rfl (by exact CloIf _ _ (h4 _ (rul_mem (by omega)))) ?_
  rintro _ _ ⟨rfl, rfl⟩
  refine Le u34 ?_
  refine Lo u34 (rfl) ?_
  refine Lo u34 (W5n rfl rfl rfl rfl rfl rfl rfl) ?_
  refine L_nil (K_seq (B_region ?_))
  refine Lo u34 (rfl) ?_
  refine Lo u34 (W5m rfl rfl rfl rfl) ?_
  refine Lo u34 (W5p rfl rfl rfl rfl rfl) ?_
  refine Lo u34 (v_buildSlice rfl rfl (by decide) rfl) ?_
  refine L_opX rfl rfl (v_appXh rfl rfl rfl rfl rfl rfl rfl (by simp) (hl.app _) rfl rfl (by decide) (by rw [List.length_take]; show (_ + 1) * 40 ≤ _ ∧ _ + 1 ≤ _; omega) (by decide)) ?_
  rintro _ _ ⟨Y1, rfl, rfl, hY1, hY2, hY3⟩
  refine Le u34 ?_
  refine Lo u34 (rfl) ?_
  refine Lo u34 (W5n rfl rfl rfl rfl rfl rfl rfl) ?_
  refine L_nil (K_blk (K_seq (B_region ?_)))
  refine Lo u34 (W5q rfl rfl rfl) ?_
  refine Lo u34 (v_move (.inl rfl) rfl) ?_
  refine L_nil ?_
  refine K_loop (mk 34 17179410419) (env' := u34) rfl ⟨k + 1, ?_, rfl, ?_⟩
  ·first | omega | (simp only []; omega)
  ·exact ⟨by omega, _, _, rfl, by rw [take_at (d := r0) (by omega)]; exact LV.pushF hY3⟩
 ·try simp only [qB, qN] at hc1
  refine B_exit (K_seqX (K_loopX (K_blkX (K_seq (B_seq ?_)))))
  obtain rfl : k = p.rules.length := by omega
  rw [List.take_length] at hl
  refine B_ghCell 2 3 hl rfl rfl (by simp) fun X5 _ _ => ?_
  refine B_heap (List.append_assoc _ _ _) ?_
  refine B_region ?_
  refine Lo u34 (W5p rfl rfl rfl rfl rfl) ?_
  refine Lo u34 (W5n rfl rfl rfl rfl rfl rfl rfl) ?_
  refine L_nil (K_seq (B_ret ?_))
  refine E_keep (.inr rfl) (vres_cellA rfl rfl rfl rfl (by first | exact get_app rfl rfl | exact get_out (by assumption) | exact getE0 rfl rfl | exact get_out (get_app rfl rfl) | exact get_app rfl (by assumption) | assumption | (simp only [List.append_assoc, List.singleton_append, List.cons_append, List.nil_append]; refine getE (i := 0) rfl ?_ rfl; simp; done) | (simp only [List.append_assoc, List.singleton_append, List.cons_append, List.nil_append]; refine getE (i := 1) rfl ?_ rfl; simp; done) | (simp only [List.append_assoc, List.singleton_append, List.cons_append, List.nil_append]; refine getE (i := 2) rfl ?_ rfl; simp; done) | (simp only [List.append_assoc, List.singleton_append, List.cons_append, List.nil_append]; refine getE (i := 3) rfl ?_ rfl; simp; done) | (simp [*]; done)) (by first | rfl | assumption | exact fgetN (α := BitVec 64) 0 (by omega) | exact fgetN (α := Int) 0 (by omega) | exact rul_at (by omega) | exact rul_f2 (by omega) | exact rul_f0 (by omega) | exact rul_f1 (by omega))) ?_
  exact ⟨_, 3, (show VVal.agg [iI p.users, fzW p.who, .slice (some (H.length + 3, 0)) p.fixed.length p.fixed.length (decide (p.fixed.length = 0)) 1, fzR p.rules] = _ from by rw [hd]), rfl, rfl⟩
end Go.Proofs.YtnbihdflnjpinaaDoor.VT

set_option autoImplicit false
set_option linter.unusedVariables false
set_option linter.unusedSimpArgs false
set_option maxHeartbeats 4000000
set_option maxRecDepth 100000
namespace Go.Proofs.YtnbihdflnjpinaaDoor.VT
open Go Go.V Go.RowKit
abbrev u56 {a0 a1 a2 a3 a4 a5 a6 a7 a8 a9 a10 a11 a12 a13 a14 a15 a16 a17 a18 a19 a20 a21 a22 a23 a24 a25 a26 a27 a28 a29 a30 a31 a32 a33 a34 a35 a36 a37 a38 a39 a40 a41 a42 a43 a44 a45 a46 a47 a48 a49 a50 a51 a52 a53 a54 a55 : VVal} : VEnv := a0 :: a1 :: a2 :: a3 :: a4 :: a5 :: a6 :: a7 :: a8 :: a9 :: a10 :: a11 :: a12 :: a13 :: a14 :: a15 :: a16 :: a17 :: a18 :: a19 :: a20 :: a21 :: a22 :: a23 :: a24 :: a25 :: a26 :: a27 :: a28 :: a29 :: a30 :: a31 :: a32 :: a33 :: a34 :: a35 :: a36 :: a37 :: a38 :: a39 :: a40 :: a41 :: a42 :: a43 :: a44 :: a45 :: a46 :: a47 :: a48 :: a49 :: a50 :: a51 :: a52 :: a53 :: a54 :: a55 :: []
theorem W5r {T : TypeId → Option VTy} {H : VHeap} {op : Op} {ρ : Operand → VVal} {t : TypeId} {a : Operand} {y : VTy} {p v : VVal} (ho : op = .load t a) (ha : ρ a = p) (hy : T t = some y) (hd : isAggDesc y.desc = false) (h : LdOk H p v := by first | exact .inl ⟨_, _, rfl, by first | rfl | assumption | exact fgetN (α := BitVec 64) 0 (by omega) | exact fgetN (α := Int) 0 (by omega) | exact rul_at (by omega) | exact rul_f2 (by omega) | exact rul_f0 (by omega) | exact rul_f1 (by omega)⟩ | exact .inr ⟨_, _, _, _, rfl, by first | exact get_app rfl rfl | exact get_out (by assumption) | exact getE0 rfl rfl | exact get_out (get_app rfl rfl) | exact get_app rfl (by assumption) | assumption | (simp only [List.append_assoc, List.singleton_append, List.cons_append, List.nil_append]; refine getE (i := 0) rfl ?_ rfl; simp; done) | (simp only [List.append_assoc, List.singleton_append, List.cons_append, List.nil_append]; refine getE (i := 1) rfl ?_ rfl; simp; done) | (simp only [List.append_assoc, List.singleton_append, List.cons_append, List.nil_append]; refine getE (i := 2) rfl ?_ rfl; simp; done) | (simp only [List.append_assoc, List.singleton_append, List.cons_append, List.nil_append]; refine getE (i := 3) rfl ?_ rfl; simp; done) | (simp [*]; done), by first | rfl | assumption | exact fgetN (α := BitVec 64) 0 (by omega) | exact fgetN (α := Int) 0 (by omega) | exact rul_at (by omega) | exact rul_f2 (by omega) | exact rul_f0 (by omega) | exact rul_f1 (by omega)⟩) : vop T ρ H op = some (v, H) := v_ld ho ha hy hd h
theorem W5s {T : TypeId → Option VTy} {H : VHeap} {op : Op} {ρ : VEnv} {H' : VHeap} {t : TypeId} {a : Operand} {i : Nat} {v : VVal} {y : VTy} {b off : Nat} {cs new : List VVal} (ho : op = .store t a (.tmp i)) (hv : ρ[i]? = some v) (ha : ρ.eval a = .ptr (some (b, off))) (hy : T t = some y) (hx : v.cells = some new) (hn : new.length = y.size) (h1 : new.all VVal.one = true) (hb : H[b]? = some (.cells cs true) := by first | exact get_app rfl rfl | exact get_out (by assumption) | exact getE0 rfl rfl | exact get_out (get_app rfl rfl) | exact get_app rfl (by assumption) | assumption | (simp only [List.append_assoc, List.singleton_append, List.cons_append, List.nil_append]; refine getE (i := 0) rfl ?_ rfl; simp; done) | (simp only [List.append_assoc, List.singleton_append, List.cons_append, List.nil_append]; refine getE (i := 1) rfl ?_ rfl; simp; done) | (simp only [List.append_assoc, List.singleton_append, List.cons_append, List.nil_append]; refine getE (i := 2) rfl ?_ rfl; simp; done) | (simp only [List.append_assoc, List.singleton_append, List.cons_append, List.nil_append]; refine getE (i := 3) rfl ?_ rfl; simp; done) | (simp [*]; done)) (hl : off + new.length ≤ cs.length := by first | exact Nat.le_of_ble_eq_true rfl | (simp only [List.length_map, List.length_cons, List.length_nil]; omega) | omega | (simp; done) | (simp; omega)) (hH : H.set b (.cells (splice cs off new) true) = H' := by first | exact setE0 rfl rfl | (simp only [List.append_assoc, List.singleton_append, List.cons_append, List.nil_append]; refine setE (i := 0) rfl ?_; simp; done) | (simp only [List.append_assoc, List.singleton_append, List.cons_append, List.nil_append]; refine setE (i := 1) rfl ?_; simp; done) | (simp only [List.append_assoc, List.singleton_append, List.cons_append, List.nil_append]; refine setE (i := 2) rfl ?_; simp; done) | (simp only [List.append_assoc, List.singleton_append, List.cons_append, List.nil_append]; refine setE (i := 3) rfl ?_; simp; done) | (refine setB rfl ?_; simp; done) | exact set_app rfl | exact set_out (lt_of_get (by assumption)) | rfl) : vop T ρ.eval H op = some (.skip, H') := v_storeT ho hv ha hy hx hn h1 hb hl hH
theorem W5t {T : TypeId → Option VTy} {H : VHeap} {op : Op} {ρ : Operand → VVal} {t e : TypeId} {x i : Operand} {y z : VTy} {k : IntKind} {n : Int} {p v : VVal} {es : Nat} (ho : op = .indexAddr t x i) (hx : ρ x = p) (hi : ρ i = .int k n) (hy : T t = some y) (hd : y.desc = .slice e) (hz : T e = some z) (hs : z.size = es) (h : IxOk p es n v := by first | exact .inl ⟨_, _, _, rfl, by first | assumption | omega | (simp [*]; done) | (simp at *; omega), rfl⟩ | exact .inr ⟨_, _, _, _, _, rfl, by first | assumption | omega | (simp [*]; done) | (simp at *; omega), rfl⟩) : vop T ρ H op = some (v, H) := v_ix ho hx hi hy hd hz hs h
theorem W5u {T : TypeId → Option VTy} {H : VHeap} {op : Op} {ρ : Operand → VVal} {t ty : TypeId} {x y : Operand} {n m : Int} (ho : op = .binOp .add t x y ty) (hx : ρ x = .int .i64 n) (hy : ρ y = .int .i64 m) (h : -9223372036854775808 ≤ n + m ∧ n + m < 9223372036854775808 := by first | assumption | omega | (simp [*]; done) | (simp at *; omega)) : vop T ρ H op = some (.int .i64 (n + m), H) := v_addI ho hx hy h
theorem W5v {T : TypeId → Option VTy} {H : VHeap} {op : Op} {ρ : Operand → VVal} {t : TypeId} {a : Operand} {y : VTy} {p : VVal} {n : Nat} {vs : List VVal} (ho : op = .load t a) (ha : ρ a = p) (hy : T t = some y) (hd : isAggDesc y.desc = true) (hn : y.size = n) (h : LdOkA H p n vs := by first | exact .inl ⟨_, _, rfl, by first | rfl | assumption | exact fgetN (α := BitVec 64) 0 (by omega) | exact fgetN (α := Int) 0 (by omega) | exact rul_at (by omega) | exact rul_f2 (by omega) | exact rul_f0 (by omega) | exact rul_f1 (by omega)⟩ | exact .inr ⟨_, _, _, _, rfl, by first | exact get_app rfl rfl | exact get_out (by assumption) | exact getE0 rfl rfl | exact get_out (get_app rfl rfl) | exact get_app rfl (by assumption) | assumption | (simp only [List.append_assoc, List.singleton_append, List.cons_append, List.nil_append]; refine getE (i := 0) rfl ?_ rfl; simp; done) | (simp only [List.append_assoc, List.singleton_append, List.cons_append, List.nil_append]; refine getE (i := 1) rfl ?_ rfl; simp; done) | (simp only [List.append_assoc, List.singleton_append, List.cons_append, List.nil_append]; refine getE (i := 2) rfl ?_ rfl; simp; done) | (simp only [List.append_assoc, List.singleton_append, List.cons_append, List.nil_append]; refine getE (i := 3) rfl ?_ rfl; simp; done) | (simp [*]; done), by first | rfl | assumption | exact fgetN (α := BitVec 64) 0 (by omega) | exact fgetN (α := Int) 0 (by omega) | exact rul_at (by omega) | exact rul_f2 (by omega) | exact rul_f0 (by omega) | exact rul_f1 (by omega)⟩) : vop T ρ H op = some (.agg vs, H) := v_ldA ho ha hy hd hn h
theorem Twin_spec {x : SW} (H : VHeap) (p : Pb) (hp : PbL p) (hne : 0 < p.fixed.length) (hnw : 0 < p.who.length) (hst : ∀ r, r ∈ p.rules → 0 < r.steps.length) : F (psys x) 58 [.agg (pbB p)] H (CpR H p) := by
 have h1 := hp.w; have h2 := hp.f; have h3 := hp.r; have h4 := hp.s
 refine F_body Tryd.func58 rfl u56 rfl ?_
 refine B_seq (B_region ?_)
 refine Lo u56 (v_boxT rfl rfl rfl) ?_
 refine Lo u56 (v_alloc rfl rfl) ?_
 refine L_nil (K_seq (B_seq ?_))
 refine B_gh (Gh.freezePtrL (cs := pbB p) 1 0 rfl rfl rfl) ?_
 refine B_region ?_
 refine Lo u56 (rfl) ?_
 refine Lo u56 (W5r rfl rfl rfl rfl) ?_
 refine Lo u56 (rfl) ?_
 refine Lo u56 (v_alloc rfl rfl) ?_
 refine Lo u56 (W5s rfl rfl rfl rfl rfl rfl rfl) ?_
 refine L_nil (K_seq (B_seq (B_region ?_)))
 refine Lo u56 (rfl) ?_
 refine Lo u56 (W5r rfl rfl rfl rfl) ?_
 refine Lo u56 (rfl) ?_
 refine Lo u56 (W5r rfl rfl rfl rfl) ?_
 refine Lo u56 (v_appNF rfl rfl rfl rfl rfl rfl rfl (by rw [List.length_map]; exact (Nat.mul_one _).symm) (mapW_one _) (by decide) hnw (by show p.who.length * 8 ≤ _ ∧ _; omega)) ?_
 refine Lo u56 (rfl) ?_
 refine Lo u56 (W5s rfl rfl rfl rfl rfl rfl rfl) ?_
 refine L_nil (K_seq (B_seq ?_))
 refine B_gh (Gh.cellL (l := p.who.map iW) 2 1 3 rfl rfl (by decide) rfl wApp_c (Nat.le_refl _)) ?_
 refine B_region ?_
 refine Lo u56 (rfl) ?_
 refine Lo u56 (W5r rfl rfl rfl rfl) ?_
 refine Lo u56 (rfl) ?_
 refine Lo u56 (W5r rfl rfl rfl rfl) ?_
 refine Lo u56 (v_appNF rfl rfl rfl rfl rfl rfl rfl (by rw [List.length_map]; exact (Nat.mul_one _).symm) (mapI_one _) (by decide) hne (by show p.fixed.length * 8 ≤ _ ∧ _; omega)) ?_
 refine Lo u56 (rfl) ?_
 refine Lo u56 (W5s rfl rfl rfl rfl rfl rfl rfl) ?_
 refine L_nil (K_seq (B_seq (B_seq (B_region ?_))))
 refine Lo u56 (v_const (VVal.int .i64 0) (.inr rfl) rfl) ?_
 refine L_nil (K_seq (B_block ?_))
 refine B_clear (mk 56 72057594037927905) (env' := u56) rfl ?_
 refine B_loopE (fun (k : Nat) => p.rules.length - k) (fun (k : Nat) => [(4, iI (k : Nat))]) (fun (k : Nat) G => (k ≤ p.rules.length) ∧ ∃ lv X, G = (H ++ [.dead, pqB 0 nilS nilS nilS, .cells [iI p.users, fzW p.who, .slice (some (H.length + 4, 0)) p.fixed.length p.fixed.length false 1, lv] true, .dead, .cells (p.fixed.map iI) true]) ++ X ∧ LV (H.length + 5) 3 X lv ((p.rules.take k).flatMap rlB) (p.rules.take k).length) 0 rfl ?_ ?_
 ·refine ⟨?_, ⟨_, [], by rw [List.append_nil]; rfl, LV.nil _ _ _⟩⟩
  exact Nat.zero_le _
 rintro k _ ⟨hk, ⟨lv, X, rfl, hl⟩⟩
 refine B_env (env' := u56) rfl ?_
 refine B_seq (B_seq (B_region ?_))
 refine Lo u56 (v_move (.inl rfl) rfl) ?_
 refine Lo u56 (rfl) ?_
 refine Lo u56 (W5r rfl rfl rfl rfl) ?_
 refine Lo u56 (rfl) ?_
 refine Lo u56 (rfl) ?_
 refine L_nil (K_seq ?_)
 refine B_cond _ rfl (fun hc1 => ?_) (fun hc1 => ?_)
 ·try simp only [qB, qN] at hc1
  refine B_skip (K_seq (B_seq (B_block (B_seq (B_region ?_)))))
  refine Lo u56 (v_const (VVal.slice none 0 0 true 0) (.inr rfl) rfl) ?_
  refine L_nil (K_seq (B_seq ?_))
  have hr1 := rul_mem (l := p.rules) (k := k) (by omega)
  have hs1 := h4 _ hr1
  have hs2 := hst _ hr1
  refine B_region ?_
  refine Lo u56 (v_move (.inl rfl) rfl) ?_
  refine Lo u56 (rfl) ?_
  refine Lo u56 (W5r rfl rfl rfl rfl) ?_
  refine Lo u56 (v_move (.inl rfl) rfl) ?_
  refine Lo u56 (W5t rfl rfl rfl rfl rfl rfl rfl) ?_
  refine Lo u56 (rfl) ?_
  refine Lo u56 (W5r rfl rfl rfl rfl) ?_
  refine Lo u56 (v_appNF rfl rfl rfl rfl rfl rfl rfl (by rw [List.length_map]; exact (Nat.mul_one _).symm) (mapI_one _) (by decide) hs2 (by show (p.rules.getD k r0).steps.length * 8 ≤ _ ∧ _; omega)) ?_
  refine Lo u56 (v_move (.inr rfl) rfl) ?_
  refine L_nil (K_seq ?_)
  refine B_gh (Gh.freezeL (l := (p.rules.getD k r0).steps.map iI) 5 X.length rfl get_end map_all (Nat.le_refl _) rfl) ?_
  rw [set_end]
  refine B_draw [0, 1, 2, 3, 4, 5, 6, 7, 8, 9, 10, 11, 12, 13, 14, 15, 16, 17, 18, 19] #[0, 1, 0, 4, 0, 28, 60, 124, 0, 256, 0, 1792, 3840, 7936, 0, 32764, 65532, 131071, 262143, 524287] (by kernel_rfl) (by kernel_rfl) (by kernel_rfl) ?_
  refine Oo u56 .calm rfl (rfl) ?_
  refine Oo u56 .look rfl (W5r rfl rfl rfl rfl) ?_
  refine Oo u56 .calm rfl (rfl) ?_
  refine Oo u56 .look rfl (W5r rfl rfl rfl rfl) ?_
  refine Oo u56 .calm rfl (v_move (.inl rfl) rfl) ?_
  refine Oo u56 .calm rfl (W5t rfl rfl rfl rfl rfl rfl rfl) ?_
  refine Oo u56 .calm rfl (rfl) ?_
  refine Oo u56 .look rfl (W5r rfl rfl rfl rfl) ?_
  refine Oo u56 .calm rfl (rfl) ?_
  refine Oo u56 .look rfl (W5r rfl rfl rfl rfl) ?_
  refine Oo u56 .calm rfl (v_move (.inl rfl) rfl) ?_
  refine Oo u56 .calm rfl (W5t rfl rfl rfl rfl rfl rfl rfl) ?_
  refine Oo u56 .calm rfl (rfl) ?_
  refine Oo u56 .look rfl (W5r rfl rfl rfl rfl) ?_
  refine Oo u56 .calm rfl (v_move (.inl rfl) rfl) ?_
  refine Oo u56 .calm rfl (rfl) ?_
  refine Oo u56 .grow rfl (v_buildSlice rfl rfl (by decide) rfl) ?_
  refine O_opX .turn rfl rfl rfl (v_appXh rfl rfl rfl rfl rfl rfl rfl (by simp) (hl.app _) rfl rfl (by decide) (by rw [List.length_take]; show (_ + 1) * 40 ≤ _ ∧ _ + 1 ≤ _; omega) (by decide)) rfl rfl ?_
  rintro _ _ ⟨Y1, rfl, rfl, hY1, hY2, hY3⟩
  refine O_env (env' := u56) rfl ?_
  refine Oo u56 .calm rfl (rfl) ?_
  refine Oo u56 .turn rfl (W5s rfl rfl rfl rfl rfl rfl rfl) ?_
  refine O_nil [] (by kernel_rfl) (trivial) ?_
  refine K_blk (K_seq (B_region ?_))
  refine Lo u56 (v_move (.inl rfl) rfl) ?_
  refine Lo u56 (W5u rfl rfl rfl) ?_
  refine Lo u56 (v_move (.inr rfl) rfl) ?_
  refine L_nil ?_
  refine K_loop (mk 56 72057594037927905) (env' := u56) rfl ⟨k + 1, ?_, rfl, ?_⟩
  ·first | omega | (simp only []; omega)
  ·exact ⟨by omega, _, _, rfl, by rw [take_at (d := r0) (by omega)]; exact LV.pushF hY3⟩
 ·try simp only [qB, qN] at hc1
  refine B_exit (K_seqX (K_loopX (K_blkX (K_seq (B_seq ?_)))))
  obtain rfl : k = p.rules.length := by omega
  rw [List.take_length] at hl
  refine B_ghCell 2 3 hl rfl rfl (by simp) fun X5 _ _ => ?_
  refine B_heap (List.append_assoc _ _ _) ?_
  refine B_region ?_
  refine Lo u56 (W5v rfl rfl rfl rfl rfl) ?_
  refine Lo u56 (W5s rfl rfl rfl rfl rfl rfl rfl) ?_
  refine L_nil (K_seq (B_ret ?_))
  refine E_keep (.inr rfl) (vres_cellA rfl rfl rfl rfl (by first | exact get_app rfl rfl | exact get_out (by assumption) | exact getE0 rfl rfl | exact get_out (get_app rfl rfl) | exact get_app rfl (by assumption) | assumption | (simp only [List.append_assoc, List.singleton_append, List.cons_append, List.nil_append]; refine getE (i := 0) rfl ?_ rfl; simp; done) | (simp only [List.append_assoc, List.singleton_append, List.cons_append, List.nil_append]; refine getE (i := 1) rfl ?_ rfl; simp; done) | (simp only [List.append_assoc, List.singleton_append, List.cons_append, List.nil_append]; refine getE (i := 2) rfl ?_ rfl; simp; done) | (simp only [List.append_assoc, List.singleton_append, List.cons_append, List.nil_append]; refine getE (i := 3) rfl ?_ rfl; simp; done) | (simp [*]; done)) (by first | rfl | assumption | exact fgetN (α := BitVec 64) 0 (by omega) | exact fgetN (α := Int) 0 (by omega) | exact rul_at (by omega) | exact rul_f2 (by omega) | exact rul_f0 (by omega) | exact rul_f1 (by omega))) ?_
  exact ⟨_, 4, rfl, rfl, rfl⟩
end Go.Proofs.YtnbihdflnjpinaaDoor.VT

set_option autoImplicit false
set_option linter.unusedVariables false
set_option linter.unusedSimpArgs false
set_option maxHeartbeats 4000000
set_option maxRecDepth 100000
namespace Go.Proofs.YtnbihdflnjpinaaDoor.VT
open Go Go.V Go.RowKit
theorem W5w {T : TypeId → Option VTy} {H : VHeap} {op : Op} {ρ : Operand → VVal} {t : TypeId} {a : Operand} {y : VTy} {p : VVal} {n : Nat} {vs : List VVal} (ho : op = .load t a) (ha : ρ a = p) (hy : T t = some y) (hd : isAggDesc y.desc = true) (hn : y.size = n) (h : LdOkA H p n vs := by first | exact .inl ⟨_, _, rfl, by first | rfl | assumption | exact fgetN (α := BitVec 64) 0 (by omega) | exact fgetN (α := Int) 0 (by omega) | exact rul_at (by omega) | exact rul_f2 (by omega) | exact rul_f0 (by omega) | exact rul_f1 (by omega)⟩ | exact .inr ⟨_, _, _, _, rfl, by first | exact get_app rfl rfl | exact get_out (by assumption) | exact getE0 rfl rfl | exact get_out (get_app rfl rfl) | exact get_app rfl (by assumption) | assumption | (simp only [List.append_assoc, List.singleton_append, List.cons_append, List.nil_append]; refine getE (i := 0) rfl ?_ rfl; simp; done) | (simp only [List.append_assoc, List.singleton_append, List.cons_append, List.nil_append]; refine getE (i := 1) rfl ?_ rfl; simp; done) | (simp only [List.append_assoc, List.singleton_append, List.cons_append, List.nil_append]; refine getE (i := 2) rfl ?_ rfl; simp; done) | (simp only [List.append_assoc, List.singleton_append, List.cons_append, List.nil_append]; refine getE (i := 3) rfl ?_ rfl; simp; done) | (simp [*]; done), by first | rfl | assumption | exact fgetN (α := BitVec 64) 0 (by omega) | exact fgetN (α := Int) 0 (by omega) | exact rul_at (by omega) | exact rul_f2 (by omega) | exact rul_f0 (by omega) | exact rul_f1 (by omega)⟩) : vop T ρ H op = some (.agg vs, H) := v_ldA ho ha hy hd hn h
theorem W5x {T : TypeId → Option VTy} {H : VHeap} {op : Op} {ρ : VEnv} {H' : VHeap} {t : TypeId} {a : Operand} {i : Nat} {v : VVal} {y : VTy} {b off : Nat} {cs new : List VVal} (ho : op = .store t a (.tmp i)) (hv : ρ[i]? = some v) (ha : ρ.eval a = .ptr (some (b, off))) (hy : T t = some y) (hx : v.cells = some new) (hn : new.length = y.size) (h1 : new.all VVal.one = true) (hb : H[b]? = some (.cells cs true) := by first | exact get_app rfl rfl | exact get_out (by assumption) | exact getE0 rfl rfl | exact get_out (get_app rfl rfl) | exact get_app rfl (by assumption) | assumption | (simp only [List.append_assoc, List.singleton_append, List.cons_append, List.nil_append]; refine getE (i := 0) rfl ?_ rfl; simp; done) | (simp only [List.append_assoc, List.singleton_append, List.cons_append, List.nil_append]; refine getE (i := 1) rfl ?_ rfl; simp; done) | (simp only [List.append_assoc, List.singleton_append, List.cons_append, List.nil_append]; refine getE (i := 2) rfl ?_ rfl; simp; done) | (simp only [List.append_assoc, List.singleton_append, List.cons_append, List.nil_append]; refine getE (i := 3) rfl ?_ rfl; simp; done) | (simp [*]; done)) (hl : off + new.length ≤ cs.length := by first | exact Nat.le_of_ble_eq_true rfl | (simp only [List.length_map, List.length_cons, List.length_nil]; omega) | omega | (simp; done) | (simp; omega)) (hH : H.set b (.cells (splice cs off new) true) = H' := by first | exact setE0 rfl rfl | (simp only [List.append_assoc, List.singleton_append, List.cons_append, List.nil_append]; refine setE (i := 0) rfl ?_; simp; done) | (simp only [List.append_assoc, List.singleton_append, List.cons_append, List.nil_append]; refine setE (i := 1) rfl ?_; simp; done) | (simp only [List.append_assoc, List.singleton_append, List.cons_append, List.nil_append]; refine setE (i := 2) rfl ?_; simp; done) | (simp only [List.append_assoc, List.singleton_append, List.cons_append, List.nil_append]; refine setE (i := 3) rfl ?_; simp; done) | (refine setB rfl ?_; simp; done) | exact set_app rfl | exact set_out (lt_of_get (by assumption)) | rfl) : vop T ρ.eval H op = some (.skip, H') := v_storeT ho hv ha hy hx hn h1 hb hl hH
theorem W5y {S : V.Sys} {H : VHeap} {fn : Func} {ex : Exit} {env : VEnv} {B L : VHeap} {v : VVal} {R : VVal → VHeap → Prop} (hx : ex = .normal ∨ ex = .ret) (hv : vresults S.C.T env (B ++ L) fn.results = some v) (h : R v B) (hB : BaseOk H B := by first | exact BaseOk.refl _ | exact BaseOk.set (BaseOk.refl _) _ rfl) (hu : v.under H.length = true := by first | exact (show ((VVal.agg (pbB z0P)).under H.length && (true && true)) = true by rw [pb_under]; rfl) | exact (show ((VVal.agg (pbB (p.users, p.who, p.fixed.set s.toNat u, p.rules, ()))).under H.length && (true && true)) = true by rw [pb_under]; rfl)) : fnK S fn H R ex env (B ++ L) := E_app hx hv hB hu h
theorem W5z {P : Prop} (h : P := by first | exact ⟨by rw [fxP_ok hE, hE]; show _ = VVal.tuple [.agg [iI p.users, fzW p.who, .fsl ((p.fixed.set s.toNat u).map iI) (p.fixed.set s.toNat u).length 1 false, fzR p.rules], iI 0]; rw [List.length_set]; rfl, rfl⟩ | exact ⟨by have h9 : ¬ fxE p s u = 0 := (fun e => by have := fxE_ok.1 e; omega); rw [fxP_no h9]; unfold fxE; rw [if_neg (fun e => e (by assumption)), if_pos (by omega)]; rfl, rfl⟩ | exact ⟨by have h9 : ¬ fxE p s u = 0 := (fun e => absurd (pck_good.2 (fxE_ok.1 e).1) (by assumption)); rw [fxP_no h9]; unfold fxE; rw [if_pos (by assumption)]; rfl, rfl⟩) : P := h
theorem W60 {T : TypeId → Option VTy} {H : VHeap} {op : Op} {ρ : Operand → VVal} {t : TypeId} {a : Operand} {y : VTy} {p v : VVal} (ho : op = .load t a) (ha : ρ a = p) (hy : T t = some y) (hd : isAggDesc y.desc = false) (h : LdOk H p v := by first | exact .inl ⟨_, _, rfl, by first | rfl | assumption | exact fgetN (α := BitVec 64) 0 (by omega) | exact fgetN (α := Int) 0 (by omega) | exact rul_at (by omega) | exact rul_f2 (by omega) | exact rul_f0 (by omega) | exact rul_f1 (by omega)⟩ | exact .inr ⟨_, _, _, _, rfl, by first | exact get_app rfl rfl | exact get_out (by assumption) | exact getE0 rfl rfl | exact get_out (get_app rfl rfl) | exact get_app rfl (by assumption) | assumption | (simp only [List.append_assoc, List.singleton_append, List.cons_append, List.nil_append]; refine getE (i := 0) rfl ?_ rfl; simp; done) | (simp only [List.append_assoc, List.singleton_append, List.cons_append, List.nil_append]; refine getE (i := 1) rfl ?_ rfl; simp; done) | (simp only [List.append_assoc, List.singleton_append, List.cons_append, List.nil_append]; refine getE (i := 2) rfl ?_ rfl; simp; done) | (simp only [List.append_assoc, List.singleton_append, List.cons_append, List.nil_append]; refine getE (i := 3) rfl ?_ rfl; simp; done) | (simp [*]; done), by first | rfl | assumption | exact fgetN (α := BitVec 64) 0 (by omega) | exact fgetN (α := Int) 0 (by omega) | exact rul_at (by omega) | exact rul_f2 (by omega) | exact rul_f0 (by omega) | exact rul_f1 (by omega)⟩) : vop T ρ H op = some (v, H) := v_ld ho ha hy hd h
theorem W61 {T : TypeId → Option VTy} {H : VHeap} {op : Op} {ρ : Operand → VVal} {t e : TypeId} {x i : Operand} {y z : VTy} {k : IntKind} {n : Int} {p v : VVal} {es : Nat} (ho : op = .indexAddr t x i) (hx : ρ x = p) (hi : ρ i = .int k n) (hy : T t = some y) (hd : y.desc = .slice e) (hz : T e = some z) (hs : z.size = es) (h : IxOk p es n v := by first | exact .inl ⟨_, _, _, rfl, by first | assumption | omega | (simp [*]; done) | (simp at *; omega), rfl⟩ | exact .inr ⟨_, _, _, _, _, rfl, by first | assumption | omega | (simp [*]; done) | (simp at *; omega), rfl⟩) : vop T ρ H op = some (v, H) := v_ix ho hx hi hy hd hz hs h
theorem W62 {T : TypeId → Option VTy} {H : VHeap} {op : Op} {ρ : VEnv} {H' : VHeap} {t : TypeId} {a : Operand} {i : Nat} {v : VVal} {y : VTy} {b off : Nat} {cs new : List VVal} (ho : op = .store t a (.tmp i)) (hv : ρ[i]? = some v) (ha : ρ.eval a = .ptr (some (b, off))) (hy : T t = some y) (hx : v.cells = some new) (hn : new.length = y.size) (h1 : new.all VVal.one = true) (hb : H[b]? = some (.cells cs true) := by exact get_app rfl (get_append hY)) (hl : off + new.length ≤ cs.length := by show 0 + s.toNat * 1 + 1 ≤ _; rw [List.length_map]; omega) (hH : H.set b (.cells (splice cs off new) true) = H' := by exact (set_app rfl).trans (by rw [set_out (lt_of_get hY)])) : vop T ρ.eval H op = some (.skip, H') := v_storeT ho hv ha hy hx hn h1 hb hl hH
theorem W63 {T : TypeId → Option VTy} {H : VHeap} {op : Op} {ρ : Operand → VVal} {t : TypeId} {a : Operand} {y : VTy} {p : VVal} {n : Nat} {vs : List VVal} (ho : op = .load t a) (ha : ρ a = p) (hy : T t = some y) (hd : isAggDesc y.desc = true) (hn : y.size = n) (h : LdOkA H p n vs := by first | exact .inl ⟨_, _, rfl, by first | rfl | assumption | exact fgetN (α := BitVec 64) 0 (by omega) | exact fgetN (α := Int) 0 (by omega) | exact rul_at (by omega) | exact rul_f2 (by omega) | exact rul_f0 (by omega) | exact rul_f1 (by omega)⟩ | exact .inr ⟨_, _, _, _, rfl, by exact get_app rfl (List.getElem?_set_self (by simp)), by first | rfl | assumption | exact fgetN (α := BitVec 64) 0 (by omega) | exact fgetN (α := Int) 0 (by omega) | exact rul_at (by omega) | exact rul_f2 (by omega) | exact rul_f0 (by omega) | exact rul_f1 (by omega)⟩) : vop T ρ H op = some (.agg vs, H) := v_ldA ho ha hy hd hn h
theorem W64 {T : TypeId → Option VTy} {H : VHeap} {op : Op} {ρ : VEnv} {H' : VHeap} {t : TypeId} {a : Operand} {i : Nat} {v : VVal} {y : VTy} {b off : Nat} {cs new : List VVal} (ho : op = .store t a (.tmp i)) (hv : ρ[i]? = some v) (ha : ρ.eval a = .ptr (some (b, off))) (hy : T t = some y) (hx : v.cells = some new) (hn : new.length = y.size) (h1 : new.all VVal.one = true) (hb : H[b]? = some (.cells cs true) := by exact getB rfl rfl) (hl : off + new.length ≤ cs.length := by first | exact Nat.le_of_ble_eq_true rfl | (simp only [List.length_map, List.length_cons, List.length_nil]; omega) | omega | (simp; done) | (simp; omega)) (hH : H.set b (.cells (splice cs off new) true) = H' := by exact setB rfl (show 1 < 2 by decide)) : vop T ρ.eval H op = some (.skip, H') := v_storeT ho hv ha hy hx hn h1 hb hl hH
def fxE (p : Pb) (s u : Int) : Int := if pck p ≠ 0 then pck p else if s < 0 ∨ (p.who.length : Int) ≤ s ∨ u < 0 ∨ p.users ≤ u then 1 else 0
def z0P : Pb := (0, [], [], [], ())
def fxP (p : Pb) (s u : Int) : Pb := if fxE p s u = 0 then (p.users, p.who, p.fixed.set s.toNat u, p.rules, ()) else z0P
theorem fxE_ok {p : Pb} {s u : Int} : fxE p s u = 0 ↔ Go.V.Good p ∧ (0 ≤ s ∧ s < p.who.length) ∧ 0 ≤ u ∧ u < p.users := by
  unfold fxE
  constructor
  · intro h
    split at h
    · rename_i h1; exact absurd h h1
    · rename_i h1
      split at h
      · cases h
      · exact ⟨pck_good.1 (Decidable.of_not_not h1), by omega, by omega⟩
  · rintro ⟨g, h1, h2⟩
    rw [if_neg (fun e => e (pck_good.2 g)), if_neg (by omega)]
theorem fxP_ok {p : Pb} {s u : Int} (h : fxE p s u = 0) : fxP p s u = (p.users, p.who, p.fixed.set s.toNat u, p.rules, ()) := if_pos h
theorem fxP_no {p : Pb} {s u : Int} (h : ¬ fxE p s u = 0) : fxP p s u = z0P := if_neg h
theorem spl_I {l : List Int} {k : Nat} {w : Int} (h : k < l.length) : splice (l.map iI) (0 + k * 1) [iI w] = (l.set k w).map iI := by
  rw [show 0 + k * 1 = k by omega]
  unfold splice
  rw [List.map_set, List.set_eq_take_append_cons_drop, if_pos (by rw [List.length_map]; exact h)]; simp
theorem Fix_spec {x : SW} (H : VHeap) (p : Pb) (s u : Int) (hp : PbL p) : F (psys x) 30 [.agg (pbB p), iI s, iI u] H fun v G => v = .tuple [.agg (pbB (fxP p s u)), iI (fxE p s u)] ∧ G = H := by
 refine F_body Tryd.func30 rfl u44 rfl ?_
 refine B_seq (B_region ?_)
 refine Lo u44 (v_boxT rfl rfl rfl) ?_
 refine Lo u44 (v_alloc rfl rfl) ?_
 refine Lo u44 (v_const (VVal.int .i64 0) (.inr rfl) rfl) ?_
 refine L_nil (K_seq (B_seq (B_seq ?_)))
 refine B_gh (Gh.freezePtrL (cs := pbB p) 3 0 rfl rfl rfl) ?_
 refine B_region ?_
 refine Lo u44 (W5w rfl rfl rfl rfl rfl) ?_
 refine L_call rfl rfl rfl (by exact sCheck_spec _ _ hp) ?_
 rintro _ _ ⟨rfl, rfl⟩
 refine Le u44 ?_
 refine Lo u44 (v_move (.inr rfl) rfl) ?_
 refine L_nil (K_seq (B_seq (B_region ?_)))
 refine Lo u44 (v_move (.inl rfl) rfl) ?_
 refine Lo u44 (rfl) ?_
 refine L_nil (K_seq ?_)
 refine B_cond _ rfl (fun hc1 => ?_) (fun hc1 => ?_)
 ·try simp only [qB, qN] at hc1
  refine B_seq (B_region ?_)
  refine Lo u44 (rfl) ?_
  refine Lo u44 (v_move (.inl rfl) rfl) ?_
  refine Lo u44 (W5x rfl rfl rfl rfl rfl rfl rfl) ?_
  refine Lo u44 (v_move (.inr rfl) rfl) ?_
  refine L_nil (K_seq ?_)
  refine B_gh (Gh.cellNilL 1 1 (es' := 1) rfl rfl) ?_
  refine B_gh (Gh.cellNilL 1 2 (es' := 1) rfl rfl) ?_
  refine B_gh (Gh.cellNilL 1 3 (es' := 3) rfl rfl) ?_
  refine B_ret (K_seqR ?_)
  refine W5y (.inr rfl) (vres_cAt rfl rfl rfl rfl (by first | exact get_app rfl rfl | exact getB rfl rfl) (by first | rfl | assumption | exact fgetN (α := BitVec 64) 0 (by omega) | exact fgetN (α := Int) 0 (by omega) | exact rul_at (by omega) | exact rul_f2 (by omega) | exact rul_f0 (by omega) | exact rul_f1 (by omega)) rfl) ?_
  exact W5z
 ·try simp only [qB, qN] at hc1
  refine B_skip (K_seq (B_seq (B_seq (B_region ?_))))
  refine Lo u44 (v_move (.inl rfl) rfl) ?_
  refine Lo u44 (rfl) ?_
  refine Lo u44 (v_move (.inl rfl) rfl) ?_
  refine L_split 18 (env1 := u44) (env2 := u44) rfl rfl rfl (fun hg2 => ?_) (fun hg2 => ?_)
  ·try simp only [qB, qN] at hg2
   refine Lf u44 ?_
   refine Lf u44 ?_
   refine Lf u44 ?_
   refine Lf u44 ?_
   refine Lf u44 ?_
   refine Lo u44 (v_pickTC (VVal.bool true) rfl rfl rfl) ?_
   refine Lo u44 (v_move (.inl rfl) rfl) ?_
   refine Lf u44 ?_
   refine Lf u44 ?_
   refine Lo u44 (v_pickTC (VVal.bool true) rfl rfl rfl) ?_
   refine Lo u44 (v_move (.inl rfl) rfl) ?_
   refine Lf u44 ?_
   refine Lf u44 ?_
   refine Lf u44 ?_
   refine Lf u44 ?_
   refine Lo u44 (v_pickTC (VVal.bool true) rfl rfl rfl) ?_
   refine L_nil (K_seq ?_)
   refine B_true rfl rfl ?_
   refine B_seq (B_region ?_)
   refine Lo u44 (rfl) ?_
   refine Lo u44 (W5x rfl rfl rfl rfl rfl rfl rfl) ?_
   refine Lo u44 (v_const (VVal.int .i64 1) (.inr rfl) rfl) ?_
   refine L_nil (K_seq ?_)
   refine B_gh (Gh.cellNilL 1 1 (es' := 1) rfl rfl) ?_
   refine B_gh (Gh.cellNilL 1 2 (es' := 1) rfl rfl) ?_
   refine B_gh (Gh.cellNilL 1 3 (es' := 3) rfl rfl) ?_
   refine B_ret (K_seqR ?_)
   refine W5y (.inr rfl) (vres_cAt rfl rfl rfl rfl (by first | exact get_app rfl rfl | exact getB rfl rfl) (by first | rfl | assumption | exact fgetN (α := BitVec 64) 0 (by omega) | exact fgetN (α := Int) 0 (by omega) | exact rul_at (by omega) | exact rul_f2 (by omega) | exact rul_f0 (by omega) | exact rul_f1 (by omega)) rfl) ?_
   exact W5z
  ·try simp only [qB, qN] at hg2
   refine Lo u44 (v_move (.inl rfl) rfl) ?_
   refine Lo u44 (rfl) ?_
   refine Lo u44 (W60 rfl rfl rfl rfl) ?_
   refine Lo u44 (rfl) ?_
   refine Lo u44 (rfl) ?_
   refine Lo u44 (v_pickF rfl rfl rfl) ?_
   refine Lo u44 (v_move (.inl rfl) rfl) ?_
   refine L_split 25 (env1 := u44) (env2 := u44) rfl rfl rfl (fun hg3 => ?_) (fun hg3 => ?_)
   ·try simp only [qB, qN] at hg3
    refine Lf u44 ?_
    refine Lf u44 ?_
    refine Lo u44 (v_pickTC (VVal.bool true) rfl rfl rfl) ?_
    refine Lo u44 (v_move (.inl rfl) rfl) ?_
    refine Lf u44 ?_
    refine Lf u44 ?_
    refine Lf u44 ?_
    refine Lf u44 ?_
    refine Lo u44 (v_pickTC (VVal.bool true) rfl rfl rfl) ?_
    refine L_nil (K_seq ?_)
    refine B_true rfl rfl ?_
    refine B_seq (B_region ?_)
    refine Lo u44 (rfl) ?_
    refine Lo u44 (W5x rfl rfl rfl rfl rfl rfl rfl) ?_
    refine Lo u44 (v_const (VVal.int .i64 1) (.inr rfl) rfl) ?_
    refine L_nil (K_seq ?_)
    refine B_gh (Gh.cellNilL 1 1 (es' := 1) rfl rfl) ?_
    refine B_gh (Gh.cellNilL 1 2 (es' := 1) rfl rfl) ?_
    refine B_gh (Gh.cellNilL 1 3 (es' := 3) rfl rfl) ?_
    refine B_ret (K_seqR ?_)
    refine W5y (.inr rfl) (vres_cAt rfl rfl rfl rfl (by first | exact get_app rfl rfl | exact getB rfl rfl) (by first | rfl | assumption | exact fgetN (α := BitVec 64) 0 (by omega) | exact fgetN (α := Int) 0 (by omega) | exact rul_at (by omega) | exact rul_f2 (by omega) | exact rul_f0 (by omega) | exact rul_f1 (by omega)) rfl) ?_
    exact W5z
   ·try simp only [qB, qN] at hg3
    refine Lo u44 (v_move (.inl rfl) rfl) ?_
    refine Lo u44 (rfl) ?_
    refine Lo u44 (v_pickF rfl rfl rfl) ?_
    refine Lo u44 (v_move (.inl rfl) rfl) ?_
    refine L_split 29 (env1 := u44) (env2 := u44) rfl rfl rfl (fun hg4 => ?_) (fun hg4 => ?_)
    ·try simp only [qB, qN] at hg4
     refine Lf u44 ?_
     refine Lf u44 ?_
     refine Lf u44 ?_
     refine Lf u44 ?_
     refine Lo u44 (v_pickTC (VVal.bool true) rfl rfl rfl) ?_
     refine L_nil (K_seq ?_)
     refine B_true rfl rfl ?_
     refine B_seq (B_region ?_)
     refine Lo u44 (rfl) ?_
     refine Lo u44 (W5x rfl rfl rfl rfl rfl rfl rfl) ?_
     refine Lo u44 (v_const (VVal.int .i64 1) (.inr rfl) rfl) ?_
     refine L_nil (K_seq ?_)
     refine B_gh (Gh.cellNilL 1 1 (es' := 1) rfl rfl) ?_
     refine B_gh (Gh.cellNilL 1 2 (es' := 1) rfl rfl) ?_
     refine B_gh (Gh.cellNilL 1 3 (es' := 3) rfl rfl) ?_
     refine B_ret (K_seqR ?_)
     refine W5y (.inr rfl) (vres_cAt rfl rfl rfl rfl (by first | exact get_app rfl rfl | exact getB rfl rfl) (by first | rfl | assumption | exact fgetN (α := BitVec 64) 0 (by omega) | exact fgetN (α := Int) 0 (by omega) | exact rul_at (by omega) | exact rul_f2 (by omega) | exact rul_f0 (by omega) | exact rul_f1 (by omega)) rfl) ?_
     exact W5z
    ·try simp only [qB, qN] at hg4
     refine Lo u44 (v_move (.inl rfl) rfl) ?_
     refine Lo u44 (rfl) ?_
     refine Lo u44 (W60 rfl rfl rfl rfl) ?_
     refine Lo u44 (rfl) ?_
     refine Lo u44 (v_pickF rfl rfl rfl) ?_
     refine L_nil (K_seq ?_)
     refine B_cond _ rfl (fun hc5 => ?_) (fun hc5 => ?_)
     ·try simp only [qB, qN] at hc5
      refine B_seq (B_region ?_)
      refine Lo u44 (rfl) ?_
      refine Lo u44 (W5x rfl rfl rfl rfl rfl rfl rfl) ?_
      refine Lo u44 (v_const (VVal.int .i64 1) (.inr rfl) rfl) ?_
      refine L_nil (K_seq ?_)
      refine B_gh (Gh.cellNilL 1 1 (es' := 1) rfl rfl) ?_
      refine B_gh (Gh.cellNilL 1 2 (es' := 1) rfl rfl) ?_
      refine B_gh (Gh.cellNilL 1 3 (es' := 3) rfl rfl) ?_
      refine B_ret (K_seqR ?_)
      refine W5y (.inr rfl) (vres_cAt rfl rfl rfl rfl (by first | exact get_app rfl rfl | exact getB rfl rfl) (by first | rfl | assumption | exact fgetN (α := BitVec 64) 0 (by omega) | exact fgetN (α := Int) 0 (by omega) | exact rul_at (by omega) | exact rul_f2 (by omega) | exact rul_f0 (by omega) | exact rul_f1 (by omega)) rfl) ?_
      exact W5z
     ·try simp only [qB, qN] at hc5
      refine B_skip (K_seq (B_seq ?_))
      have hE : fxE p s u = 0 := fxE_ok.2 ⟨pck_good.1 (by assumption), by omega, by omega⟩
      have g := (fxE_ok.1 hE).1
      have g5 := g.fx
      have hs9 := (fxE_ok.1 hE).2.1
      refine B_region ?_
      refine Lo u44 (W5w rfl rfl rfl rfl rfl) ?_
      refine L_call rfl rfl rfl (by exact Copy_spec _ p hp (fun e => by rw [e] at g5; simp at g5; omega)) ?_
      rintro _ _ ⟨Y, j, rfl, rfl, hY⟩
      refine Le u44 ?_
      refine Lo u44 (v_alloc rfl rfl) ?_
      refine Lo u44 (W5x rfl rfl rfl rfl rfl rfl rfl) ?_
      refine L_nil (K_seq (B_seq (B_region ?_)))
      refine Lo u44 (rfl) ?_
      refine Lo u44 (W60 rfl rfl rfl rfl) ?_
      refine Lo u44 (v_move (.inl rfl) rfl) ?_
      refine Lo u44 (v_move (.inl rfl) rfl) ?_
      refine Lo u44 (W61 rfl rfl rfl rfl rfl rfl rfl) ?_
      refine Lo u44 (W62 rfl rfl rfl rfl rfl rfl rfl) ?_
      refine L_nil (K_seq (B_seq ?_))
      have hj := lt_of_get hY
      refine B_gh (Gh.cellL (H := H ++ [.dead, .cells _ true]) (cs := (p.fixed.set s.toNat u).map iI) (l := (p.fixed.set s.toNat u).map iI) Y.length 2 j (by rw [List.getElem?_append_right (by rw [List.length_set]; exact Nat.le_refl _), List.length_set, Nat.sub_self]; rfl) rfl (by omega) (by rw [get_append (List.getElem?_set_self hj)]; show some (VBlk.cells (splice (p.fixed.map iI) (0 + s.toNat * 1) [iI u]) true) = _; rw [spl_I (by omega)]) (cellsAt_all (by rw [List.length_map, List.length_set])) (Nat.le_refl _)) ?_
      refine B_region ?_
      refine Lo u44 (W63 rfl rfl rfl rfl rfl) ?_
      refine Lo u44 (W64 rfl rfl rfl rfl rfl rfl rfl) ?_
      refine Lo u44 (v_const (VVal.int .i64 0) (.inr rfl) rfl) ?_
      refine L_nil (K_seq ?_)
      refine B_heap (List.append_assoc _ _ _) ?_
      refine B_ret ?_
      refine W5y (.inr rfl) (vres_cAt rfl rfl rfl rfl (by first | exact get_app rfl rfl | exact getB rfl rfl) (by first | rfl | assumption | exact fgetN (α := BitVec 64) 0 (by omega) | exact fgetN (α := Int) 0 (by omega) | exact rul_at (by omega) | exact rul_f2 (by omega) | exact rul_f0 (by omega) | exact rul_f1 (by omega)) rfl) ?_
      exact W5z
theorem fFix_spec {x : SW} (H : VHeap) (p : Pb) (s u : Int) (hp : PbL p) : F (psys x) 31 [.agg (pbB p), iI s, iI u] H fun v G => v = .tuple [.agg (pbB (fxP p s u)), iI (fxE p s u)] ∧ G = H := by
 refine F_body Tryd.func31 rfl u44 rfl ?_
 refine B_seq (B_region ?_)
 refine Lo u44 (v_boxT rfl rfl rfl) ?_
 refine Lo u44 (v_alloc rfl rfl) ?_
 refine Lo u44 (v_const (VVal.int .i64 0) (.inr rfl) rfl) ?_
 refine L_nil (K_seq (B_seq ?_))
 refine B_gh (Gh.freezePtrL (cs := pbB p) 3 0 rfl rfl rfl) ?_
 refine B_region ?_
 refine Lo u44 (W5w rfl rfl rfl rfl rfl) ?_
 refine L_call rfl rfl rfl (by exact fpCheck_spec _ _ hp) ?_
 rintro _ _ ⟨rfl, rfl⟩
 refine Le u44 ?_
 refine Lo u44 (v_move (.inr rfl) rfl) ?_
 refine L_nil (K_seq (B_seq (B_seq (B_region ?_))))
 refine Lo u44 (v_move (.inl rfl) rfl) ?_
 refine Lo u44 (rfl) ?_
 refine L_nil (K_seq ?_)
 refine B_cond _ rfl (fun hc1 => ?_) (fun hc1 => ?_)
 ·try simp only [qB, qN] at hc1
  refine B_seq (B_region ?_)
  refine Lo u44 (rfl) ?_
  refine Lo u44 (v_move (.inl rfl) rfl) ?_
  refine Lo u44 (W5x rfl rfl rfl rfl rfl rfl rfl) ?_
  refine Lo u44 (v_move (.inr rfl) rfl) ?_
  refine L_nil (K_seq ?_)
  refine B_gh (Gh.cellNilL 1 1 (es' := 1) rfl rfl) ?_
  refine B_gh (Gh.cellNilL 1 2 (es' := 1) rfl rfl) ?_
  refine B_gh (Gh.cellNilL 1 3 (es' := 3) rfl rfl) ?_
  refine B_ret (K_seqR ?_)
  refine W5y (.inr rfl) (vres_cAt rfl rfl rfl rfl (by first | exact get_app rfl rfl | exact getB rfl rfl) (by first | rfl | assumption | exact fgetN (α := BitVec 64) 0 (by omega) | exact fgetN (α := Int) 0 (by omega) | exact rul_at (by omega) | exact rul_f2 (by omega) | exact rul_f0 (by omega) | exact rul_f1 (by omega)) rfl) ?_
  exact W5z
 ·try simp only [qB, qN] at hc1
  refine B_skip (K_seq (B_seq (B_seq (B_region ?_))))
  refine Lo u44 (v_move (.inl rfl) rfl) ?_
  refine Lo u44 (rfl) ?_
  refine Lo u44 (v_move (.inl rfl) rfl) ?_
  refine L_split 18 (env1 := u44) (env2 := u44) rfl rfl rfl (fun hg2 => ?_) (fun hg2 => ?_)
  ·try simp only [qB, qN] at hg2
   refine Lf u44 ?_
   refine Lf u44 ?_
   refine Lf u44 ?_
   refine Lf u44 ?_
   refine Lf u44 ?_
   refine Lo u44 (v_pickTC (VVal.bool true) rfl rfl rfl) ?_
   refine Lo u44 (v_move (.inl rfl) rfl) ?_
   refine Lf u44 ?_
   refine Lf u44 ?_
   refine Lo u44 (v_pickTC (VVal.bool true) rfl rfl rfl) ?_
   refine Lo u44 (v_move (.inl rfl) rfl) ?_
   refine Lf u44 ?_
   refine Lf u44 ?_
   refine Lf u44 ?_
   refine Lf u44 ?_
   refine Lo u44 (v_pickTC (VVal.bool true) rfl rfl rfl) ?_
   refine L_nil (K_seq ?_)
   refine B_true rfl rfl ?_
   refine B_seq (B_region ?_)
   refine Lo u44 (rfl) ?_
   refine Lo u44 (W5x rfl rfl rfl rfl rfl rfl rfl) ?_
   refine Lo u44 (v_const (VVal.int .i64 1) (.inr rfl) rfl) ?_
   refine L_nil (K_seq ?_)
   refine B_gh (Gh.cellNilL 1 1 (es' := 1) rfl rfl) ?_
   refine B_gh (Gh.cellNilL 1 2 (es' := 1) rfl rfl) ?_
   refine B_gh (Gh.cellNilL 1 3 (es' := 3) rfl rfl) ?_
   refine B_ret (K_seqR ?_)
   refine W5y (.inr rfl) (vres_cAt rfl rfl rfl rfl (by first | exact get_app rfl rfl | exact getB rfl rfl) (by first | rfl | assumption | exact fgetN (α := BitVec 64) 0 (by omega) | exact fgetN (α := Int) 0 (by omega) | exact rul_at (by omega) | exact rul_f2 (by omega) | exact rul_f0 (by omega) | exact rul_f1 (by omega)) rfl) ?_
   exact W5z
  ·try simp only [qB, qN] at hg2
   refine Lo u44 (v_move (.inl rfl) rfl) ?_
   refine Lo u44 (rfl) ?_
   refine Lo u44 (W60 rfl rfl rfl rfl) ?_
   refine Lo u44 (rfl) ?_
   refine Lo u44 (rfl) ?_
   refine Lo u44 (v_pickF rfl rfl rfl) ?_
   refine Lo u44 (v_move (.inl rfl) rfl) ?_
   refine L_split 25 (env1 := u44) (env2 := u44) rfl rfl rfl (fun hg3 => ?_) (fun hg3 => ?_)
   ·try simp only [qB, qN] at hg3
    refine Lf u44 ?_
    refine Lf u44 ?_
    refine Lo u44 (v_pickTC (VVal.bool true) rfl rfl rfl) ?_
    refine Lo u44 (v_move (.inl rfl) rfl) ?_
    refine Lf u44 ?_
    refine Lf u44 ?_
    refine Lf u44 ?_
    refine Lf u44 ?_
    refine Lo u44 (v_pickTC (VVal.bool true) rfl rfl rfl) ?_
    refine L_nil (K_seq ?_)
    refine B_true rfl rfl ?_
    refine B_seq (B_region ?_)
    refine Lo u44 (rfl) ?_
    refine Lo u44 (W5x rfl rfl rfl rfl rfl rfl rfl) ?_
    refine Lo u44 (v_const (VVal.int .i64 1) (.inr rfl) rfl) ?_
    refine L_nil (K_seq ?_)
    refine B_gh (Gh.cellNilL 1 1 (es' := 1) rfl rfl) ?_
    refine B_gh (Gh.cellNilL 1 2 (es' := 1) rfl rfl) ?_
    refine B_gh (Gh.cellNilL 1 3 (es' := 3) rfl rfl) ?_
    refine B_ret (K_seqR ?_)
    refine W5y (.inr rfl) (vres_cAt rfl rfl rfl rfl (by first | exact get_app rfl rfl | exact getB rfl rfl) (by first | rfl | assumption | exact fgetN (α := BitVec 64) 0 (by omega) | exact fgetN (α := Int) 0 (by omega) | exact rul_at (by omega) | exact rul_f2 (by omega) | exact rul_f0 (by omega) | exact rul_f1 (by omega)) rfl) ?_
    exact W5z
   ·try simp only [qB, qN] at hg3
    refine Lo u44 (v_move (.inl rfl) rfl) ?_
    refine Lo u44 (rfl) ?_
    refine Lo u44 (v_pickF rfl rfl rfl) ?_
    refine Lo u44 (v_move (.inl rfl) rfl) ?_
    refine L_split 29 (env1 := u44) (env2 := u44) rfl rfl rfl (fun hg4 => ?_) (fun hg4 => ?_)
    ·try simp only [qB, qN] at hg4
     refine Lf u44 ?_
     refine Lf u44 ?_
     refine Lf u44 ?_
     refine Lf u44 ?_
     refine Lo u44 (v_pickTC (VVal.bool true) rfl rfl rfl) ?_
     refine L_nil (K_seq ?_)
     refine B_true rfl rfl ?_
     refine B_seq (B_region ?_)
     refine Lo u44 (rfl) ?_
     refine Lo u44 (W5x rfl rfl rfl rfl rfl rfl rfl) ?_
     refine Lo u44 (v_const (VVal.int .i64 1) (.inr rfl) rfl) ?_
     refine L_nil (K_seq ?_)
     refine B_gh (Gh.cellNilL 1 1 (es' := 1) rfl rfl) ?_
     refine B_gh (Gh.cellNilL 1 2 (es' := 1) rfl rfl) ?_
     refine B_gh (Gh.cellNilL 1 3 (es' := 3) rfl rfl) ?_
     refine B_ret (K_seqR ?_)
     refine W5y (.inr rfl) (vres_cAt rfl rfl rfl rfl (by first | exact get_app rfl rfl | exact getB rfl rfl) (by first | rfl | assumption | exact fgetN (α := BitVec 64) 0 (by omega) | exact fgetN (α := Int) 0 (by omega) | exact rul_at (by omega) | exact rul_f2 (by omega) | exact rul_f0 (by omega) | exact rul_f1 (by omega)) rfl) ?_
     exact W5z
    ·try simp only [qB, qN] at hg4
     refine Lo u44 (v_move (.inl rfl) rfl) ?_
     refine Lo u44 (rfl) ?_
     refine Lo u44 (W60 rfl rfl rfl rfl) ?_
     refine Lo u44 (rfl) ?_
     refine Lo u44 (v_pickF rfl rfl rfl) ?_
     refine L_nil (K_seq ?_)
     refine B_cond _ rfl (fun hc5 => ?_) (fun hc5 => ?_)
     ·try simp only [qB, qN] at hc5
      refine B_seq (B_region ?_)
      refine Lo u44 (rfl) ?_
      refine Lo u44 (W5x rfl rfl rfl rfl rfl rfl rfl) ?_
      refine Lo u44 (v_const (VVal.int .i64 1) (.inr rfl) rfl) ?_
      refine L_nil (K_seq ?_)
      refine B_gh (Gh.cellNilL 1 1 (es' := 1) rfl rfl) ?_
      refine B_gh (Gh.cellNilL 1 2 (es' := 1) rfl rfl) ?_
      refine B_gh (Gh.cellNilL 1 3 (es' := 3) rfl rfl) ?_
      refine B_ret (K_seqR ?_)
      refine W5y (.inr rfl) (vres_cAt rfl rfl rfl rfl (by first | exact get_app rfl rfl | exact getB rfl rfl) (by first | rfl | assumption | exact fgetN (α := BitVec 64) 0 (by omega) | exact fgetN (α := Int) 0 (by omega) | exact rul_at (by omega) | exact rul_f2 (by omega) | exact rul_f0 (by omega) | exact rul_f1 (by omega)) rfl) ?_
      exact W5z
     ·try simp only [qB, qN] at hc5
      refine B_skip (K_seq (B_seq ?_))
      have hE : fxE p s u = 0 := fxE_ok.2 ⟨pck_good.1 (by assumption), by omega, by omega⟩
      have g := (fxE_ok.1 hE).1
      have g5 := g.fx
      have hs9 := (fxE_ok.1 hE).2.1
      refine B_region ?_
      refine Lo u44 (W5w rfl rfl rfl rfl rfl) ?_
      refine L_call rfl rfl rfl (by exact Twin_spec _ p hp (by omega) (by omega) (fun r hr => List.length_pos_iff.2 (rck_steps (g.ru r hr)).1)) ?_
      rintro _ _ ⟨Y, j, rfl, rfl, hY⟩
      refine Le u44 ?_
      refine Lo u44 (v_alloc rfl rfl) ?_
      refine Lo u44 (W5x rfl rfl rfl rfl rfl rfl rfl) ?_
      refine L_nil (K_seq (B_seq (B_region ?_)))
      refine Lo u44 (rfl) ?_
      refine Lo u44 (W60 rfl rfl rfl rfl) ?_
      refine Lo u44 (v_move (.inl rfl) rfl) ?_
      refine Lo u44 (v_move (.inl rfl) rfl) ?_
      refine Lo u44 (W61 rfl rfl rfl rfl rfl rfl rfl) ?_
      refine Lo u44 (W62 rfl rfl rfl rfl rfl rfl rfl) ?_
      refine L_nil (K_seq (B_seq ?_))
      have hj := lt_of_get hY
      refine B_gh (Gh.cellL (H := H ++ [.dead, .cells _ true]) (cs := (p.fixed.set s.toNat u).map iI) (l := (p.fixed.set s.toNat u).map iI) Y.length 2 j (by rw [List.getElem?_append_right (by rw [List.length_set]; exact Nat.le_refl _), List.length_set, Nat.sub_self]; rfl) rfl (by omega) (by rw [get_append (List.getElem?_set_self hj)]; show some (VBlk.cells (splice (p.fixed.map iI) (0 + s.toNat * 1) [iI u]) true) = _; rw [spl_I (by omega)]) (cellsAt_all (by rw [List.length_map, List.length_set])) (Nat.le_refl _)) ?_
      refine B_region ?_
      refine Lo u44 (W63 rfl rfl rfl rfl rfl) ?_
      refine Lo u44 (W64 rfl rfl rfl rfl rfl rfl rfl) ?_
      refine Lo u44 (v_const (VVal.int .i64 0) (.inr rfl) rfl) ?_
      refine L_nil (K_seq ?_)
      refine B_heap (List.append_assoc _ _ _) ?_
      refine B_ret ?_
      refine W5y (.inr rfl) (vres_cAt rfl rfl rfl rfl (by first | exact get_app rfl rfl | exact getB rfl rfl) (by first | rfl | assumption | exact fgetN (α := BitVec 64) 0 (by omega) | exact fgetN (α := Int) 0 (by omega) | exact rul_at (by omega) | exact rul_f2 (by omega) | exact rul_f0 (by omega) | exact rul_f1 (by omega)) rfl) ?_
      exact W5z
end Go.Proofs.YtnbihdflnjpinaaDoor.VT

set_option autoImplicit false
set_option linter.unusedVariables false
set_option linter.unusedSimpArgs false
set_option maxHeartbeats 4000000
set_option maxRecDepth 100000
namespace Go.Proofs.YtnbihdflnjpinaaDoor.VT
open Go Go.V Go.RowKit
theorem brk_none {rs : List Rul} {l : List Int} : brk rs l = [] ↔ ∀ r, r ∈ rs → hld r l = true := by
  refine rev_ind (P := fun rs => brk rs l = [] ↔ ∀ r, r ∈ rs → hld r l = true) ⟨fun _ r h => (by cases h), fun _ => rfl⟩ (fun rs r ih => ?_) rs
  rw [brk_app, List.append_eq_nil_iff, ih]
  constructor
  · rintro ⟨h1, h2⟩ x hx
    rcases List.mem_append.1 hx with hx | hx
    · exact h1 x hx
    · rw [List.mem_singleton] at hx; subst hx
      by_cases e : hld x l = true
      · exact e
      · rw [if_neg e] at h2; cases h2
  · intro h
    exact ⟨fun x hx => h x (List.mem_append_left _ hx), by rw [if_pos (h r (by simp))]⟩
theorem flU_none {p : Pb} {l : List Int} : ∀ {n : Nat}, flU p l n = [] ↔ ∀ i, i < n → flk p.users (p.fixed.getD i 0) (p.who.getD i 0) (l.getD i 0) = 0
  | 0 => ⟨fun _ i h => absurd h (by omega), fun _ => rfl⟩
  | n + 1 => by
    rw [flU_succ, List.append_eq_nil_iff, flU_none]
    constructor
    · rintro ⟨h1, h2⟩ i hi
      by_cases e : i = n
      · subst e
        by_cases e2 : flk p.users (p.fixed.getD i 0) (p.who.getD i 0) (l.getD i 0) = 0
        · exact e2
        · rw [if_neg e2] at h2; cases h2
      · exact h1 i (by omega)
    · intro h; exact ⟨fun i hi => h i (by omega), by rw [if_pos (h n (by omega))]⟩
theorem hld_erl {r : Rul} {l : List Int} {n : Int} (h : (l.length : Int) = n) : hld r l = erl r n l := by
  subst h; unfold hld erl; rw [decide_eq_true (Int.le_refl _), Bool.true_and]
theorem hds_iff {p : Pb} {us : List Int} : hds p us = true ↔ Go.V.Good p ∧ us.length = p.who.length ∧ (∀ i, i < p.who.length → myB p i (us.getD i 0) = true) ∧ ∀ r, r ∈ p.rules → erl r p.who.length us = true := by
  unfold hds
  rw [Bool.and_eq_true, decide_eq_true_eq, decide_eq_true_eq, pck_good]
  constructor
  · rintro ⟨g, h⟩
    by_cases hl : us.length = p.who.length
    · rw [flw_in hl] at h
      have h1 := List.append_eq_nil_iff.1 h
      have h2 : brk p.rules us = [] := by
        have := h1.2; unfold flR at this; exact List.map_eq_nil_iff.1 this
      refine ⟨g, hl, fun i hi => ?_, fun r hr => by rw [← hld_erl (by rw [hl])]; exact brk_none.1 h2 r hr⟩
      have := flU_none.1 h1.1 i (by omega)
      show (decide _ && _) = true
      rw [has_flk g hi, decide_eq_true this]
    · rw [flw_len hl] at h; cases h
  · rintro ⟨g, hl, h1, h2⟩
    refine ⟨g, ?_⟩
    rw [flw_in hl, brk_none.2 fun r hr => by rw [hld_erl (n := p.who.length) (by rw [hl])]; exact h2 r hr]
    rw [show flR [] = [] from rfl, List.append_nil]
    refine flU_none.2 fun i hi => ?_
    have h3 : (decide _ && _) = true := h1 i (by omega)
    rw [has_flk g (by omega)] at h3
    exact of_decide_eq_true h3
theorem wsP_get {p : Pb} {i : Nat} (h : i < p.who.length) : (wsP p).getD i 0 = wrd p i := by
  unfold wsP; simp [List.getD_eq_getElem?_getD, h]
theorem zI_get {ns : List Nat} {i : Nat} (h : i < ns.length) : (zI ns).getD i 0 = (ns.getD i 0 : Nat) := by
  unfold zI; simp [List.getD_eq_getElem?_getD, h]
theorem myB_nat {p : Pb} {i n : Nat} : myB p i (n : Nat) = true ↔ (wrd p i).getLsbD n = true := by
  unfold myB
  rw [Bool.and_eq_true, decide_eq_true_eq, Int.toNat_natCast]
  exact ⟨fun h => h.2, fun h => ⟨by have := BitVec.lt_of_getLsbD h; omega, h⟩⟩
theorem hds_plan {p : Pb} {ns : List Nat} : hds p (zI ns) = true ↔ Go.V.Good p ∧ PlanN (wsP p) p.rules ns := by
  rw [hds_iff, zI_len]
  constructor
  · rintro ⟨g, hl, h1, h2⟩
    refine ⟨g, by rw [wsP_len]; exact hl, fun i hi => ?_, fun r hr => by rw [wsP_len]; exact h2 r hr⟩
    rw [wsP_len] at hi
    have := h1 i hi
    rw [zI_get (by omega), myB_nat] at this
    rw [wsP_get hi]; exact this
  · rintro ⟨g, h⟩
    have hl := h.len
    rw [wsP_len] at hl
    refine ⟨g, hl, fun i hi => ?_, fun r hr => by have := h.rul r hr; rw [wsP_len] at this; exact this⟩
    have := h.may i (by rw [wsP_len]; exact hi)
    rw [wsP_get hi] at this
    rw [zI_get (by omega), myB_nat]; exact this
theorem hds_nat {p : Pb} {us : List Int} (h : hds p us = true) : us = zI (us.map Int.toNat) := by
  obtain ⟨g, hl, h1, _⟩ := hds_iff.1 h
  unfold zI
  rw [List.map_map]
  apply List.ext_getElem (by simp)
  intro i h2 h3
  have := h1 i (by omega)
  unfold myB at this
  rw [Bool.and_eq_true, decide_eq_true_eq, List.getD_eq_getElem?_getD, List.getElem?_eq_getElem h2] at this
  have h4 : 0 ≤ us[i] := this.1.1
  simp only [List.getElem_map, Function.comp]; omega
theorem leA_some {p : Pb} {l : List Nat} (h : leA p = some l) : hds p (zI l) = true := by
  unfold leA at h
  split at h
  · rename_i hp
    have g := pck_good.1 hp
    refine hds_plan.2 ⟨g, ?_⟩
    unfold rssP at h
    rw [← wsP_len] at h
    exact fd_some (fun r hr => by rw [wsP_len]; exact g.ru r hr) h
  · cases h
theorem leA_none {p : Pb} (h : leA p = none) (us : List Int) : hds p us = false := by
  rw [Bool.eq_false_iff]
  intro hd
  have hn := hds_nat hd
  rw [hn] at hd
  obtain ⟨g, hp⟩ := hds_plan.1 hd
  unfold leA at h
  rw [if_pos (pck_good.2 g)] at h
  unfold rssP at h
  rw [← wsP_len] at h
  exact fd_none (fun r hr => by rw [wsP_len]; exact g.ru r hr) h _ hp
theorem leA_can {p : Pb} {us : List Int} (h : hds p us = true) : (leA p).isSome = true := by
  cases e : leA p with
  | some l => rfl
  | none => rw [leA_none e us] at h; cases h
theorem fx_good {q : Pb} {s u : Int} (h : fxE q s u = 0) : Go.V.Good (fxP q s u) := by
  obtain ⟨g, h1, h2⟩ := fxE_ok.1 h
  rw [fxP_ok h]
  have g5 := g.fx
  refine ⟨g.n12, g.u64, g.r32, g.u0, ?_, fun i hi => ?_, g.ru⟩
  · show (q.fixed.set _ _).length = _; rw [List.length_set]; exact g5
  · show okW q.users ((q.fixed.set s.toNat u).getD i 0) (q.who.getD i 0) = true
    have hi : i < q.who.length := hi
    have ok := okW_in g hi
    unfold okW
    rw [getD_setL, Bool.and_eq_true, decide_eq_true_eq, decide_eq_true_eq]
    refine ⟨?_, ok.2⟩
    split
    · omega
    · exact ok.1
theorem fx_hds {q : Pb} {s u : Int} (h : fxE q s u = 0) (hm : myB q s.toNat u = true) {us : List Int} (hd : hds (fxP q s u) us = true) : hds q us = true ∧ us.getD s.toNat 0 = u := by
  obtain ⟨g, h1, h2⟩ := fxE_ok.1 h
  have gx := fx_good h
  have g5 := g.fx
  obtain ⟨_, hl, h3, h4⟩ := hds_iff.1 hd
  have ex := fxP_ok h
  rw [ex] at hl h3 h4 gx
  have hl : us.length = q.who.length := hl
  have hs : s.toNat < q.who.length := by omega
  have hfx : ∀ i, i < q.who.length → i ≠ s.toNat → myB q i (us.getD i 0) = true := fun i hi hne => by
    have h5 := h3 i hi
    have hw : wrd (q.users, q.who, q.fixed.set s.toNat u, q.rules, ()) i = wrd q i := by
      have hg : (q.fixed.set s.toNat u).getD i 0 = q.fixed.getD i 0 := by rw [getD_setL, if_neg (fun e : i = s.toNat ∧ _ => hne e.1)]
      show (if 0 ≤ (q.fixed.set s.toNat u).getD i 0 then 1#64 <<< ((q.fixed.set s.toNat u).getD i 0).toNat else q.who.getD i 0) = _
      rw [hg]; rfl
    unfold myB at h5 ⊢
    rw [hw] at h5; exact h5
  have hus : us.getD s.toNat 0 = u := by
    have h5 := h3 s.toNat hs
    rw [myB_f gx hs (by show 0 ≤ (q.fixed.set s.toNat u).getD s.toNat 0; rw [getD_setL, if_pos ⟨rfl, by omega⟩]; omega), decide_eq_true_eq] at h5
    have h6 : us.getD s.toNat 0 = (q.fixed.set s.toNat u).getD s.toNat 0 := h5
    rw [h6, getD_setL, if_pos ⟨rfl, by omega⟩]
  refine ⟨hds_iff.2 ⟨g, hl, fun i hi => ?_, h4⟩, hus⟩
  by_cases e : i = s.toNat
  · subst e; rw [hus]; exact hm
  · exact hfx i hi e
end Go.Proofs.YtnbihdflnjpinaaDoor.VT
