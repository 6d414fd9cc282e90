/- Proved: Rows.PlanBackSaid, the statement PlanBack, of the given program at the commit; no conditions beyond those in the statement. -/
import Derived.Test.YtbngdhlmggdaaaaC4x11
set_option autoImplicit false
set_option linter.unusedVariables false
set_option linter.unusedSimpArgs false
set_option maxHeartbeats 4000000
set_option maxRecDepth 100000
namespace Go.Proofs.Ytbngdhlmggdaaaa.VT
open Go Go.V Go.RowKit

abbrev uS5n6 {a0 a1 a2 a3 a4 a5 : VVal} : VEnv := a0 :: a1 :: a2 :: a3 :: a4 :: a5 :: []
abbrev uS5n7 {a0 a1 a2 a3 a4 a5 a6 : VVal} : VEnv := a0 :: a1 :: a2 :: a3 :: a4 :: a5 :: a6 :: []
abbrev uS5n25 {a0 a1 a2 a3 a4 a5 a6 a7 a8 a9 a10 a11 a12 a13 a14 a15 a16 a17 a18 a19 a20 a21 a22 a23 a24 : VVal} : VEnv := a0 :: a1 :: a2 :: a3 :: a4 :: a5 :: a6 :: a7 :: a8 :: a9 :: a10 :: a11 :: a12 :: a13 :: a14 :: a15 :: a16 :: a17 :: a18 :: a19 :: a20 :: a21 :: a22 :: a23 :: a24 :: []
abbrev uS5n79 {a0 a1 a2 a3 a4 a5 a6 a7 a8 a9 a10 a11 a12 a13 a14 a15 a16 a17 a18 a19 a20 a21 a22 a23 a24 a25 a26 a27 a28 a29 a30 a31 a32 a33 a34 a35 a36 a37 a38 a39 a40 a41 a42 a43 a44 a45 a46 a47 a48 a49 a50 a51 a52 a53 a54 a55 a56 a57 a58 a59 a60 a61 a62 a63 a64 a65 a66 a67 a68 a69 a70 a71 a72 a73 a74 a75 a76 a77 a78 : VVal} : VEnv := a0 :: a1 :: a2 :: a3 :: a4 :: a5 :: a6 :: a7 :: a8 :: a9 :: a10 :: a11 :: a12 :: a13 :: a14 :: a15 :: a16 :: a17 :: a18 :: a19 :: a20 :: a21 :: a22 :: a23 :: a24 :: a25 :: a26 :: a27 :: a28 :: a29 :: a30 :: a31 :: a32 :: a33 :: a34 :: a35 :: a36 :: a37 :: a38 :: a39 :: a40 :: a41 :: a42 :: a43 :: a44 :: a45 :: a46 :: a47 :: a48 :: a49 :: a50 :: a51 :: a52 :: a53 :: a54 :: a55 :: a56 :: a57 :: a58 :: a59 :: a60 :: a61 :: a62 :: a63 :: a64 :: a65 :: a66 :: a67 :: a68 :: a69 :: a70 :: a71 :: a72 :: a73 :: a74 :: a75 :: a76 :: a77 :: a78 :: []

theorem wS5n0 {T : TypeId → Option VTy} {H : VHeap} {op : Op} {ρ : Operand → VVal} {t ty : TypeId} {x y : Operand} {n m : Int} (ho : op = .binOp .add t x y ty) (hx : ρ x = .int .i64 n) (hy : ρ y = .int .i64 m) (h : -9223372036854775808 ≤ n + m ∧ n + m < 9223372036854775808 := by first | assumption | omega | (simp [*]; done) | (simp at *; omega)) : vop T ρ H op = some (.int .i64 (n + m), H) := v_addI ho hx hy h
theorem wS5n1 {T : TypeId → Option VTy} {H : VHeap} {op : Op} {ρ : Operand → VVal} {t ty : TypeId} {x y : Operand} {n m : Int} (ho : op = .binOp .add t x y ty) (hx : ρ x = .int .i64 n) (hy : ρ y = .int .i64 m) (h : -9223372036854775808 ≤ n + m ∧ n + m < 9223372036854775808 := by exact ⟨by omega, Int.lt_of_le_of_lt (Int.add_le_add (by decide : _ ≤ (100 : Int)) (Int.ofNat_le.2 (ln_64 _))) (by decide)⟩) : vop T ρ H op = some (.int .i64 (n + m), H) := v_addI ho hx hy h
theorem wS5n2 {S : V.Sys} {H : VHeap} {fn : Func} {ex : Exit} {env : VEnv} {B L : VHeap} {v : VVal} {R : VVal → VHeap → Prop} (hx : ex = .normal ∨ ex = .ret) (hv : vresults S.C.T env (B ++ L) fn.results = some v) (h : R v B) (hB : BaseOk H B := by first | exact BaseOk.refl _ | exact BaseOk.set (BaseOk.refl _) _ rfl) (hu : v.under H.length = true := by first | rfl | simp [VVal.under, VVal.underL, *]) : fnK S fn H R ex env (B ++ L) := E_app hx hv hB hu h
theorem wS5n3 {P : Prop} (h : P := by first | omega | (have := e1 (by omega); have := e3 (by omega); have := e7 (by omega); omega)) : P := h
theorem wS5n4 {T : TypeId → Option VTy} {H : VHeap} {op : Op} {ρ : Operand → VVal} {t : TypeId} {a : Operand} {y : VTy} {p v : VVal} (ho : op = .load t a) (ha : ρ a = p) (hy : T t = some y) (hd : isAggDesc y.desc = false) (h : LdOk H p v := by first | exact .inl ⟨_, _, rfl, by first | rfl | assumption | exact fget (α := BitVec 64) 0 (by omega) | exact fget (α := Int) 0 (by omega) | exact fget0 (α := BitVec 64) 0 (by omega) | exact fget0 (α := Int) 0 (by omega) | exact fget (α := Bool) false (by omega) | exact fget0 (α := Bool) false (by omega) | (simp [*]; done)⟩ | exact .inr ⟨_, _, _, _, rfl, by first | exact get_app rfl rfl | exact get_out (by assumption) | exact getE0 rfl rfl | exact get_out (get_app rfl rfl) | exact get_app rfl (by assumption) | assumption | (simp only [List.append_assoc, List.singleton_append, List.cons_append, List.nil_append]; refine getE (i := 0) rfl ?_ rfl; simp; done) | (simp only [List.append_assoc, List.singleton_append, List.cons_append, List.nil_append]; refine getE (i := 1) rfl ?_ rfl; simp; done) | (simp only [List.append_assoc, List.singleton_append, List.cons_append, List.nil_append]; refine getE (i := 2) rfl ?_ rfl; simp; done) | (simp only [List.append_assoc, List.singleton_append, List.cons_append, List.nil_append]; refine getE (i := 3) rfl ?_ rfl; simp; done) | (simp [*]; done), by first | rfl | assumption | exact fget (α := BitVec 64) 0 (by omega) | exact fget (α := Int) 0 (by omega) | exact fget0 (α := BitVec 64) 0 (by omega) | exact fget0 (α := Int) 0 (by omega) | exact fget (α := Bool) false (by omega) | exact fget0 (α := Bool) false (by omega) | (simp [*]; done)⟩) : vop T ρ H op = some (v, H) := v_ld ho ha hy hd h
theorem wS5n5 {T : TypeId → Option VTy} {H : VHeap} {op : Op} {ρ : Operand → VVal} {t ty : TypeId} {x y : Operand} {n m : Int} (ho : op = .binOp .sub t x y ty) (hx : ρ x = .int .i64 n) (hy : ρ y = .int .i64 m) (h : -9223372036854775808 ≤ n - m ∧ n - m < 9223372036854775808 := by have h9 := ln_64 w; omega) : vop T ρ H op = some (.int .i64 (n - m), H) := v_subI ho hx hy h
theorem wS5n6 {T : TypeId → Option VTy} {H : VHeap} {op : Op} {ρ : VEnv} {H' : VHeap} {t : TypeId} {a : Operand} {i : Nat} {v : VVal} {y : VTy} {b off : Nat} {cs new : List VVal} (ho : op = .store t a (.tmp i)) (hv : ρ[i]? = some v) (ha : ρ.eval a = .ptr (some (b, off))) (hy : T t = some y) (hx : v.cells = some new) (hn : new.length = y.size) (h1 : new.all VVal.one = true) (hb : H[b]? = some (.cells cs true) := by first | exact get_app rfl rfl | exact get_out (by assumption) | exact getE0 rfl rfl | exact get_out (get_app rfl rfl) | exact get_app rfl (by assumption) | assumption | (simp only [List.append_assoc, List.singleton_append, List.cons_append, List.nil_append]; refine getE (i := 0) rfl ?_ rfl; simp; done) | (simp only [List.append_assoc, List.singleton_append, List.cons_append, List.nil_append]; refine getE (i := 1) rfl ?_ rfl; simp; done) | (simp only [List.append_assoc, List.singleton_append, List.cons_append, List.nil_append]; refine getE (i := 2) rfl ?_ rfl; simp; done) | (simp only [List.append_assoc, List.singleton_append, List.cons_append, List.nil_append]; refine getE (i := 3) rfl ?_ rfl; simp; done) | (simp [*]; done)) (hl : off + new.length ≤ cs.length := by first | exact Nat.le_of_ble_eq_true rfl | (simp only [List.length_map, List.length_cons, List.length_nil]; omega) | omega | (simp; done) | (simp; omega)) (hH : H.set b (.cells (splice cs off new) true) = H' := by first | exact setE0 rfl rfl | (simp only [List.append_assoc, List.singleton_append, List.cons_append, List.nil_append]; refine setE (i := 0) rfl ?_; simp; done) | (simp only [List.append_assoc, List.singleton_append, List.cons_append, List.nil_append]; refine setE (i := 1) rfl ?_; simp; done) | (simp only [List.append_assoc, List.singleton_append, List.cons_append, List.nil_append]; refine setE (i := 2) rfl ?_; simp; done) | (simp only [List.append_assoc, List.singleton_append, List.cons_append, List.nil_append]; refine setE (i := 3) rfl ?_; simp; done) | (refine setB rfl ?_; simp; done) | exact set_app rfl | exact set_out (lt_of_get (by assumption)) | rfl) : vop T ρ.eval H op = some (.skip, H') := v_storeT ho hv ha hy hx hn h1 hb hl hH
theorem wS5n7 {T : TypeId → Option VTy} {H : VHeap} {op : Op} {ρ : Operand → VVal} {t : TypeId} {a : Operand} {y : VTy} {p v : VVal} (ho : op = .load t a) (ha : ρ a = p) (hy : T t = some y) (hd : isAggDesc y.desc = false) (h : LdOk H p v := by first | exact .inl ⟨_, _, rfl, by first | rfl | assumption | exact fgetN (α := BitVec 64) 0 (by omega) | exact fgetN (α := Int) 0 (by omega) | exact rul_at (by omega)⟩ | exact .inr ⟨_, _, _, _, rfl, by first | exact get_app rfl rfl | exact get_out (by assumption) | exact getE0 rfl rfl | exact get_out (get_app rfl rfl) | exact get_app rfl (by assumption) | assumption | (simp only [List.append_assoc, List.singleton_append, List.cons_append, List.nil_append]; refine getE (i := 0) rfl ?_ rfl; simp; done) | (simp only [List.append_assoc, List.singleton_append, List.cons_append, List.nil_append]; refine getE (i := 1) rfl ?_ rfl; simp; done) | (simp only [List.append_assoc, List.singleton_append, List.cons_append, List.nil_append]; refine getE (i := 2) rfl ?_ rfl; simp; done) | (simp only [List.append_assoc, List.singleton_append, List.cons_append, List.nil_append]; refine getE (i := 3) rfl ?_ rfl; simp; done) | (simp [*]; done), by first | rfl | assumption | exact fgetN (α := BitVec 64) 0 (by omega) | exact fgetN (α := Int) 0 (by omega) | exact rul_at (by omega)⟩) : vop T ρ H op = some (v, H) := v_ld ho ha hy hd h
theorem wS5n8 {P : Prop} (h : P := by first | exact ⟨by rw [pck_2 (by omega)], rfl⟩ | exact ⟨by rw [pck_1 (by omega) (by omega)], rfl⟩ | exact ⟨by rw [pck_1w (i := k) hn1 hn2 (by omega) (okW_bad (by omega) (by omega))], rfl⟩ | exact ⟨by rw [pck_1r (i := m) hn1 hn2 (by omega) (fun e => by have := rcE_eq.2 e; omega)], rfl⟩ | exact ⟨by rw [pck_0 hn1 hn2 (fun i hi => hw i (by omega)) (fun i hi => hr i (by omega))], rfl⟩) : P := h
theorem wS5n9 {T : TypeId → Option VTy} {H : VHeap} {op : Op} {ρ : Operand → VVal} {t e : TypeId} {x i : Operand} {y z : VTy} {k : IntKind} {n : Int} {p v : VVal} {es : Nat} (ho : op = .indexAddr t x i) (hx : ρ x = p) (hi : ρ i = .int k n) (hy : T t = some y) (hd : y.desc = .slice e) (hz : T e = some z) (hs : z.size = es) (h : IxOk p es n v := by first | exact .inl ⟨_, _, _, rfl, by first | assumption | omega | (simp [*]; done) | (simp at *; omega), rfl⟩ | exact .inr ⟨_, _, _, _, _, rfl, by first | assumption | omega | (simp [*]; done) | (simp at *; omega), rfl⟩) : vop T ρ H op = some (v, H) := v_ix ho hx hi hy hd hz hs h
theorem wS5n10 {T : TypeId → Option VTy} {H : VHeap} {op : Op} {ρ : Operand → VVal} {t ty : TypeId} {x y : Operand} {n m : Int} (ho : op = .binOp .add t x y ty) (hx : ρ x = .int .i64 n) (hy : ρ y = .int .i64 m) (h : -9223372036854775808 ≤ n + m ∧ n + m < 9223372036854775808 := by omega) : vop T ρ H op = some (.int .i64 (n + m), H) := v_addI ho hx hy h
theorem wS5n11 {T : TypeId → Option VTy} {H : VHeap} {op : Op} {ρ : Operand → VVal} {t : TypeId} {a : Operand} {y : VTy} {p : VVal} {n : Nat} {vs : List VVal} (ho : op = .load t a) (ha : ρ a = p) (hy : T t = some y) (hd : isAggDesc y.desc = true) (hn : y.size = n) (h : LdOkA H p n vs := by first | exact .inl ⟨_, _, rfl, by first | rfl | assumption | exact fgetN (α := BitVec 64) 0 (by omega) | exact fgetN (α := Int) 0 (by omega) | exact rul_at (by omega)⟩ | exact .inr ⟨_, _, _, _, rfl, by first | exact get_app rfl rfl | exact get_out (by assumption) | exact getE0 rfl rfl | exact get_out (get_app rfl rfl) | exact get_app rfl (by assumption) | assumption | (simp only [List.append_assoc, List.singleton_append, List.cons_append, List.nil_append]; refine getE (i := 0) rfl ?_ rfl; simp; done) | (simp only [List.append_assoc, List.singleton_append, List.cons_append, List.nil_append]; refine getE (i := 1) rfl ?_ rfl; simp; done) | (simp only [List.append_assoc, List.singleton_append, List.cons_append, List.nil_append]; refine getE (i := 2) rfl ?_ rfl; simp; done) | (simp only [List.append_assoc, List.singleton_append, List.cons_append, List.nil_append]; refine getE (i := 3) rfl ?_ rfl; simp; done) | (simp [*]; done), by first | rfl | assumption | exact fgetN (α := BitVec 64) 0 (by omega) | exact fgetN (α := Int) 0 (by omega) | exact rul_at (by omega)⟩) : vop T ρ H op = some (.agg vs, H) := v_ldA ho ha hy hd hn h

theorem Len64_spec {x : SW} (H : VHeap) (w : BitVec 64) : F (psys x) 64 [iW w] H fun v G => v = iI (ln w : Nat) ∧ G = H := by
 have hw := w.isLt; have d1 : (w >>> 32).toNat = w.toNat / 4294967296 := by rw [BitVec.toNat_ushiftRight, Nat.shiftRight_eq_div_pow]
 have d2 : (w >>> 16).toNat = w.toNat / 65536 := by rw [BitVec.toNat_ushiftRight, Nat.shiftRight_eq_div_pow]
 have d3 : (w >>> 8).toNat = w.toNat / 256 := by rw [BitVec.toNat_ushiftRight, Nat.shiftRight_eq_div_pow]
 have d4 : (w >>> 32 >>> 16).toNat = (w >>> 32).toNat / 65536 := by rw [BitVec.toNat_ushiftRight, Nat.shiftRight_eq_div_pow]
 have d5 : (w >>> 32 >>> 8).toNat = (w >>> 32).toNat / 256 := by rw [BitVec.toNat_ushiftRight, Nat.shiftRight_eq_div_pow]
 have d6 : (w >>> 16 >>> 8).toNat = (w >>> 16).toNat / 256 := by rw [BitVec.toNat_ushiftRight, Nat.shiftRight_eq_div_pow]
 have d7 : (w >>> 32 >>> 16 >>> 8).toNat = (w >>> 32 >>> 16).toNat / 256 := by rw [BitVec.toNat_ushiftRight, Nat.shiftRight_eq_div_pow]
 refine F_body Try.func64 rfl uS5n25 rfl ?_
 refine B_seq (B_region ?_)
 refine Lo uS5n25 (v_const (VVal.int .i64 0) (.inr rfl) rfl) ?_
 refine L_nil (K_seq (B_seq (B_seq (B_region ?_))))
 refine Lo uS5n25 (v_move (.inl rfl) rfl) ?_
 refine Lo uS5n25 (rfl) ?_
 refine L_nil (K_seq ?_)
 refine B_cond _ rfl (fun hc1 => ?_) (fun hc1 => ?_)
 ·try simp only [qB] at hc1
  refine B_seq (B_region ?_)
  refine Lo uS5n25 (v_move (.inl rfl) rfl) ?_
  refine Lo uS5n25 (v_shrN 32 rfl rfl rfl) ?_
  refine Lo uS5n25 (v_move (.inr rfl) rfl) ?_
  refine L_nil (K_seq (B_region ?_))
  refine Lo uS5n25 (v_const (VVal.int .i64 32) (.inr rfl) rfl) ?_
  refine L_nil (K_seq (B_seq (B_seq (B_region ?_))))
  refine Lo uS5n25 (v_move (.inl rfl) rfl) ?_
  refine Lo uS5n25 (rfl) ?_
  refine L_nil (K_seq ?_)
  refine B_cond _ rfl (fun hc2 => ?_) (fun hc2 => ?_)
  ·try simp only [qB] at hc2
   refine B_seq (B_region ?_)
   refine Lo uS5n25 (v_move (.inl rfl) rfl) ?_
   refine Lo uS5n25 (v_shrN 16 rfl rfl rfl) ?_
   refine Lo uS5n25 (v_move (.inr rfl) rfl) ?_
   refine L_nil (K_seq (B_region ?_))
   refine Lo uS5n25 (v_move (.inl rfl) rfl) ?_
   refine Lo uS5n25 (wS5n0 rfl rfl rfl) ?_
   refine Lo uS5n25 (v_move (.inr rfl) rfl) ?_
   refine L_nil (K_seq (B_seq (B_seq (B_region ?_))))
   refine Lo uS5n25 (v_move (.inl rfl) rfl) ?_
   refine Lo uS5n25 (rfl) ?_
   refine L_nil (K_seq ?_)
   refine B_cond _ rfl (fun hc3 => ?_) (fun hc3 => ?_)
   ·try simp only [qB] at hc3
    refine B_seq (B_region ?_)
    refine Lo uS5n25 (v_move (.inl rfl) rfl) ?_
    refine Lo uS5n25 (v_shrN 8 rfl rfl rfl) ?_
    refine Lo uS5n25 (v_move (.inr rfl) rfl) ?_
    refine L_nil (K_seq (B_region ?_))
    refine Lo uS5n25 (v_move (.inl rfl) rfl) ?_
    refine Lo uS5n25 (wS5n0 rfl rfl rfl) ?_
    refine Lo uS5n25 (v_move (.inr rfl) rfl) ?_
    refine L_nil (K_seq (B_seq (B_region ?_)))
    refine Lo uS5n25 (v_move (.inl rfl) rfl) ?_
    refine Lo uS5n25 (v_move (.inl rfl) rfl) ?_
    refine Lo uS5n25 (rfl) ?_
    refine Lo uS5n25 (v_l8 rfl rfl (by kernel_rfl) rfl rfl rfl (by omega)) ?_
    refine Lo uS5n25 (v_cvI rfl rfl rfl rfl rfl (by have h9 := ln_64 w; exact ⟨by omega, Int.lt_of_le_of_lt (Int.ofNat_le.2 (ln_64 _)) (by decide)⟩)) ?_
    refine Lo uS5n25 (wS5n1 rfl rfl rfl) ?_
    refine Lo uS5n25 (v_move (.inr rfl) rfl) ?_
    refine L_nil (K_seq (B_ret ?_))
    refine wS5n2 (.inr rfl) (vres_tmp rfl rfl) ?_
    have e1 := fun h => @ln_shr w 32 h
    have e2 := fun h => @ln_shr w 16 h
    have e3 := fun h => @ln_shr (w >>> 32) 16 h
    have e4 := fun h => @ln_shr w 8 h
    have e5 := fun h => @ln_shr (w >>> 32) 8 h
    have e6 := fun h => @ln_shr (w >>> 16) 8 h
    have e7 := fun h => @ln_shr (w >>> 32 >>> 16) 8 h
    simp only [show (2 : Nat) ^ 32 = 4294967296 from rfl, show (2 : Nat) ^ 16 = 65536 from rfl, show (2 : Nat) ^ 8 = 256 from rfl] at e1 e2 e3 e4 e5 e6 e7
    refine ⟨congrArg iI ?_, rfl⟩
    exact wS5n3
   ·try simp only [qB] at hc3
    refine B_skip (K_seq (B_seq (B_region ?_)))
    refine Lo uS5n25 (v_move (.inl rfl) rfl) ?_
    refine Lo uS5n25 (v_move (.inl rfl) rfl) ?_
    refine Lo uS5n25 (rfl) ?_
    refine Lo uS5n25 (v_l8 rfl rfl (by kernel_rfl) rfl rfl rfl (by omega)) ?_
    refine Lo uS5n25 (v_cvI rfl rfl rfl rfl rfl (by have h9 := ln_64 w; exact ⟨by omega, Int.lt_of_le_of_lt (Int.ofNat_le.2 (ln_64 _)) (by decide)⟩)) ?_
    refine Lo uS5n25 (wS5n1 rfl rfl rfl) ?_
    refine Lo uS5n25 (v_move (.inr rfl) rfl) ?_
    refine L_nil (K_seq (B_ret ?_))
    refine wS5n2 (.inr rfl) (vres_tmp rfl rfl) ?_
    have e1 := fun h => @ln_shr w 32 h
    have e2 := fun h => @ln_shr w 16 h
    have e3 := fun h => @ln_shr (w >>> 32) 16 h
    have e4 := fun h => @ln_shr w 8 h
    have e5 := fun h => @ln_shr (w >>> 32) 8 h
    have e6 := fun h => @ln_shr (w >>> 16) 8 h
    have e7 := fun h => @ln_shr (w >>> 32 >>> 16) 8 h
    simp only [show (2 : Nat) ^ 32 = 4294967296 from rfl, show (2 : Nat) ^ 16 = 65536 from rfl, show (2 : Nat) ^ 8 = 256 from rfl] at e1 e2 e3 e4 e5 e6 e7
    refine ⟨congrArg iI ?_, rfl⟩
    exact wS5n3
  ·try simp only [qB] at hc2
   refine B_skip (K_seq (B_seq (B_seq (B_region ?_))))
   refine Lo uS5n25 (v_move (.inl rfl) rfl) ?_
   refine Lo uS5n25 (rfl) ?_
   refine L_nil (K_seq ?_)
   refine B_cond _ rfl (fun hc4 => ?_) (fun hc4 => ?_)
   ·try simp only [qB] at hc4
    refine B_seq (B_region ?_)
    refine Lo uS5n25 (v_move (.inl rfl) rfl) ?_
    refine Lo uS5n25 (v_shrN 8 rfl rfl rfl) ?_
    refine Lo uS5n25 (v_move (.inr rfl) rfl) ?_
    refine L_nil (K_seq (B_region ?_))
    refine Lo uS5n25 (v_move (.inl rfl) rfl) ?_
    refine Lo uS5n25 (wS5n0 rfl rfl rfl) ?_
    refine Lo uS5n25 (v_move (.inr rfl) rfl) ?_
    refine L_nil (K_seq (B_seq (B_region ?_)))
    refine Lo uS5n25 (v_move (.inl rfl) rfl) ?_
    refine Lo uS5n25 (v_move (.inl rfl) rfl) ?_
    refine Lo uS5n25 (rfl) ?_
    refine Lo uS5n25 (v_l8 rfl rfl (by kernel_rfl) rfl rfl rfl (by omega)) ?_
    refine Lo uS5n25 (v_cvI rfl rfl rfl rfl rfl (by have h9 := ln_64 w; exact ⟨by omega, Int.lt_of_le_of_lt (Int.ofNat_le.2 (ln_64 _)) (by decide)⟩)) ?_
    refine Lo uS5n25 (wS5n1 rfl rfl rfl) ?_
    refine Lo uS5n25 (v_move (.inr rfl) rfl) ?_
    refine L_nil (K_seq (B_ret ?_))
    refine wS5n2 (.inr rfl) (vres_tmp rfl rfl) ?_
    have e1 := fun h => @ln_shr w 32 h
    have e2 := fun h => @ln_shr w 16 h
    have e3 := fun h => @ln_shr (w >>> 32) 16 h
    have e4 := fun h => @ln_shr w 8 h
    have e5 := fun h => @ln_shr (w >>> 32) 8 h
    have e6 := fun h => @ln_shr (w >>> 16) 8 h
    have e7 := fun h => @ln_shr (w >>> 32 >>> 16) 8 h
    simp only [show (2 : Nat) ^ 32 = 4294967296 from rfl, show (2 : Nat) ^ 16 = 65536 from rfl, show (2 : Nat) ^ 8 = 256 from rfl] at e1 e2 e3 e4 e5 e6 e7
    refine ⟨congrArg iI ?_, rfl⟩
    exact wS5n3
   ·try simp only [qB] at hc4
    refine B_skip (K_seq (B_seq (B_region ?_)))
    refine Lo uS5n25 (v_move (.inl rfl) rfl) ?_
    refine Lo uS5n25 (v_move (.inl rfl) rfl) ?_
    refine Lo uS5n25 (rfl) ?_
    refine Lo uS5n25 (v_l8 rfl rfl (by kernel_rfl) rfl rfl rfl (by omega)) ?_
    refine Lo uS5n25 (v_cvI rfl rfl rfl rfl rfl (by have h9 := ln_64 w; exact ⟨by omega, Int.lt_of_le_of_lt (Int.ofNat_le.2 (ln_64 _)) (by decide)⟩)) ?_
    refine Lo uS5n25 (wS5n1 rfl rfl rfl) ?_
    refine Lo uS5n25 (v_move (.inr rfl) rfl) ?_
    refine L_nil (K_seq (B_ret ?_))
    refine wS5n2 (.inr rfl) (vres_tmp rfl rfl) ?_
    have e1 := fun h => @ln_shr w 32 h
    have e2 := fun h => @ln_shr w 16 h
    have e3 := fun h => @ln_shr (w >>> 32) 16 h
    have e4 := fun h => @ln_shr w 8 h
    have e5 := fun h => @ln_shr (w >>> 32) 8 h
    have e6 := fun h => @ln_shr (w >>> 16) 8 h
    have e7 := fun h => @ln_shr (w >>> 32 >>> 16) 8 h
    simp only [show (2 : Nat) ^ 32 = 4294967296 from rfl, show (2 : Nat) ^ 16 = 65536 from rfl, show (2 : Nat) ^ 8 = 256 from rfl] at e1 e2 e3 e4 e5 e6 e7
    refine ⟨congrArg iI ?_, rfl⟩
    exact wS5n3
 ·try simp only [qB] at hc1
  refine B_skip (K_seq (B_seq (B_seq (B_region ?_))))
  refine Lo uS5n25 (v_move (.inl rfl) rfl) ?_
  refine Lo uS5n25 (rfl) ?_
  refine L_nil (K_seq ?_)
  refine B_cond _ rfl (fun hc5 => ?_) (fun hc5 => ?_)
  ·try simp only [qB] at hc5
   refine B_seq (B_region ?_)
   refine Lo uS5n25 (v_move (.inl rfl) rfl) ?_
   refine Lo uS5n25 (v_shrN 16 rfl rfl rfl) ?_
   refine Lo uS5n25 (v_move (.inr rfl) rfl) ?_
   refine L_nil (K_seq (B_region ?_))
   refine Lo uS5n25 (v_move (.inl rfl) rfl) ?_
   refine Lo uS5n25 (wS5n0 rfl rfl rfl) ?_
   refine Lo uS5n25 (v_move (.inr rfl) rfl) ?_
   refine L_nil (K_seq (B_seq (B_seq (B_region ?_))))
   refine Lo uS5n25 (v_move (.inl rfl) rfl) ?_
   refine Lo uS5n25 (rfl) ?_
   refine L_nil (K_seq ?_)
   refine B_cond _ rfl (fun hc6 => ?_) (fun hc6 => ?_)
   ·try simp only [qB] at hc6
    refine B_seq (B_region ?_)
    refine Lo uS5n25 (v_move (.inl rfl) rfl) ?_
    refine Lo uS5n25 (v_shrN 8 rfl rfl rfl) ?_
    refine Lo uS5n25 (v_move (.inr rfl) rfl) ?_
    refine L_nil (K_seq (B_region ?_))
    refine Lo uS5n25 (v_move (.inl rfl) rfl) ?_
    refine Lo uS5n25 (wS5n0 rfl rfl rfl) ?_
    refine Lo uS5n25 (v_move (.inr rfl) rfl) ?_
    refine L_nil (K_seq (B_seq (B_region ?_)))
    refine Lo uS5n25 (v_move (.inl rfl) rfl) ?_
    refine Lo uS5n25 (v_move (.inl rfl) rfl) ?_
    refine Lo uS5n25 (rfl) ?_
    refine Lo uS5n25 (v_l8 rfl rfl (by kernel_rfl) rfl rfl rfl (by omega)) ?_
    refine Lo uS5n25 (v_cvI rfl rfl rfl rfl rfl (by have h9 := ln_64 w; exact ⟨by omega, Int.lt_of_le_of_lt (Int.ofNat_le.2 (ln_64 _)) (by decide)⟩)) ?_
    refine Lo uS5n25 (wS5n1 rfl rfl rfl) ?_
    refine Lo uS5n25 (v_move (.inr rfl) rfl) ?_
    refine L_nil (K_seq (B_ret ?_))
    refine wS5n2 (.inr rfl) (vres_tmp rfl rfl) ?_
    have e1 := fun h => @ln_shr w 32 h
    have e2 := fun h => @ln_shr w 16 h
    have e3 := fun h => @ln_shr (w >>> 32) 16 h
    have e4 := fun h => @ln_shr w 8 h
    have e5 := fun h => @ln_shr (w >>> 32) 8 h
    have e6 := fun h => @ln_shr (w >>> 16) 8 h
    have e7 := fun h => @ln_shr (w >>> 32 >>> 16) 8 h
    simp only [show (2 : Nat) ^ 32 = 4294967296 from rfl, show (2 : Nat) ^ 16 = 65536 from rfl, show (2 : Nat) ^ 8 = 256 from rfl] at e1 e2 e3 e4 e5 e6 e7
    refine ⟨congrArg iI ?_, rfl⟩
    exact wS5n3
   ·try simp only [qB] at hc6
    refine B_skip (K_seq (B_seq (B_region ?_)))
    refine Lo uS5n25 (v_move (.inl rfl) rfl) ?_
    refine Lo uS5n25 (v_move (.inl rfl) rfl) ?_
    refine Lo uS5n25 (rfl) ?_
    refine Lo uS5n25 (v_l8 rfl rfl (by kernel_rfl) rfl rfl rfl (by omega)) ?_
    refine Lo uS5n25 (v_cvI rfl rfl rfl rfl rfl (by have h9 := ln_64 w; exact ⟨by omega, Int.lt_of_le_of_lt (Int.ofNat_le.2 (ln_64 _)) (by decide)⟩)) ?_
    refine Lo uS5n25 (wS5n1 rfl rfl rfl) ?_
    refine Lo uS5n25 (v_move (.inr rfl) rfl) ?_
    refine L_nil (K_seq (B_ret ?_))
    refine wS5n2 (.inr rfl) (vres_tmp rfl rfl) ?_
    have e1 := fun h => @ln_shr w 32 h
    have e2 := fun h => @ln_shr w 16 h
    have e3 := fun h => @ln_shr (w >>> 32) 16 h
    have e4 := fun h => @ln_shr w 8 h
    have e5 := fun h => @ln_shr (w >>> 32) 8 h
    have e6 := fun h => @ln_shr (w >>> 16) 8 h
    have e7 := fun h => @ln_shr (w >>> 32 >>> 16) 8 h
    simp only [show (2 : Nat) ^ 32 = 4294967296 from rfl, show (2 : Nat) ^ 16 = 65536 from rfl, show (2 : Nat) ^ 8 = 256 from rfl] at e1 e2 e3 e4 e5 e6 e7
    refine ⟨congrArg iI ?_, rfl⟩
    exact wS5n3
  ·try simp only [qB] at hc5
   refine B_skip (K_seq (B_seq (B_seq (B_region ?_))))
   refine Lo uS5n25 (v_move (.inl rfl) rfl) ?_
   refine Lo uS5n25 (rfl) ?_
   refine L_nil (K_seq ?_)
   refine B_cond _ rfl (fun hc7 => ?_) (fun hc7 => ?_)
   ·try simp only [qB] at hc7
    refine B_seq (B_region ?_)
    refine Lo uS5n25 (v_move (.inl rfl) rfl) ?_
    refine Lo uS5n25 (v_shrN 8 rfl rfl rfl) ?_
    refine Lo uS5n25 (v_move (.inr rfl) rfl) ?_
    refine L_nil (K_seq (B_region ?_))
    refine Lo uS5n25 (v_move (.inl rfl) rfl) ?_
    refine Lo uS5n25 (wS5n0 rfl rfl rfl) ?_
    refine Lo uS5n25 (v_move (.inr rfl) rfl) ?_
    refine L_nil (K_seq (B_seq (B_region ?_)))
    refine Lo uS5n25 (v_move (.inl rfl) rfl) ?_
    refine Lo uS5n25 (v_move (.inl rfl) rfl) ?_
    refine Lo uS5n25 (rfl) ?_
    refine Lo uS5n25 (v_l8 rfl rfl (by kernel_rfl) rfl rfl rfl (by omega)) ?_
    refine Lo uS5n25 (v_cvI rfl rfl rfl rfl rfl (by have h9 := ln_64 w; exact ⟨by omega, Int.lt_of_le_of_lt (Int.ofNat_le.2 (ln_64 _)) (by decide)⟩)) ?_
    refine Lo uS5n25 (wS5n1 rfl rfl rfl) ?_
    refine Lo uS5n25 (v_move (.inr rfl) rfl) ?_
    refine L_nil (K_seq (B_ret ?_))
    refine wS5n2 (.inr rfl) (vres_tmp rfl rfl) ?_
    have e1 := fun h => @ln_shr w 32 h
    have e2 := fun h => @ln_shr w 16 h
    have e3 := fun h => @ln_shr (w >>> 32) 16 h
    have e4 := fun h => @ln_shr w 8 h
    have e5 := fun h => @ln_shr (w >>> 32) 8 h
    have e6 := fun h => @ln_shr (w >>> 16) 8 h
    have e7 := fun h => @ln_shr (w >>> 32 >>> 16) 8 h
    simp only [show (2 : Nat) ^ 32 = 4294967296 from rfl, show (2 : Nat) ^ 16 = 65536 from rfl, show (2 : Nat) ^ 8 = 256 from rfl] at e1 e2 e3 e4 e5 e6 e7
    refine ⟨congrArg iI ?_, rfl⟩
    exact wS5n3
   ·try simp only [qB] at hc7
    refine B_skip (K_seq (B_seq (B_region ?_)))
    refine Lo uS5n25 (v_move (.inl rfl) rfl) ?_
    refine Lo uS5n25 (v_move (.inl rfl) rfl) ?_
    refine Lo uS5n25 (rfl) ?_
    refine Lo uS5n25 (v_l8 rfl rfl (by kernel_rfl) rfl rfl rfl (by omega)) ?_
    refine Lo uS5n25 (v_cvI rfl rfl rfl rfl rfl (by have h9 := ln_64 w; exact ⟨by omega, Int.lt_of_le_of_lt (Int.ofNat_le.2 (ln_64 _)) (by decide)⟩)) ?_
    refine Lo uS5n25 (wS5n1 rfl rfl rfl) ?_
    refine Lo uS5n25 (v_move (.inr rfl) rfl) ?_
    refine L_nil (K_seq (B_ret ?_))
    refine wS5n2 (.inr rfl) (vres_tmp rfl rfl) ?_
    have e1 := fun h => @ln_shr w 32 h
    have e2 := fun h => @ln_shr w 16 h
    have e3 := fun h => @ln_shr (w >>> 32) 16 h
    have e4 := fun h => @ln_shr w 8 h
    have e5 := fun h => @ln_shr (w >>> 32) 8 h
    have e6 := fun h => @ln_shr (w >>> 16) 8 h
    have e7 := fun h => @ln_shr (w >>> 32 >>> 16) 8 h
    simp only [show (2 : Nat) ^ 32 = 4294967296 from rfl, show (2 : Nat) ^ 16 = 65536 from rfl, show (2 : Nat) ^ 8 = 256 from rfl] at e1 e2 e3 e4 e5 e6 e7
    refine ⟨congrArg iI ?_, rfl⟩
    exact wS5n3

theorem High_spec {x : SW} (H : VHeap) (w : BitVec 64) : F (psys x) 52 [.agg [iW w]] H fun v G => v = iI ((ln w : Nat) - 1) ∧ G = H := by
 refine F_body Try.func52 rfl uS5n7 rfl ?_
 refine B_seq (B_region ?_)
 refine Lo uS5n7 (v_boxT rfl rfl rfl) ?_
 refine Lo uS5n7 (v_const (VVal.int .i64 0) (.inr rfl) rfl) ?_
 refine L_nil (K_seq (B_seq (B_region ?_)))
 refine Lo uS5n7 (rfl) ?_
 refine Lo uS5n7 (wS5n4 rfl rfl rfl rfl) ?_
 refine L_call rfl rfl rfl (by exact Len64_spec _ _) ?_
 rintro _ _ ⟨rfl, rfl⟩
 refine Le uS5n7 ?_
 refine Lo uS5n7 (wS5n5 rfl rfl rfl) ?_
 refine Lo uS5n7 (v_move (.inr rfl) rfl) ?_
 refine L_nil (K_seq (B_ret ?_))
 refine wS5n2 (.inr rfl) (vres_tmp rfl rfl) ?_
 exact ⟨rfl, rfl⟩

/-- a problem that fits into a memory -/
structure PbL (p : Pb) : Prop where
  u : -9223372036854775808 ≤ p.users ∧ p.users < 9223372036854775808
  w : p.who.length ≤ 1000000
  f : p.fixed.length ≤ 1000000
  r : p.rules.length ≤ 1000000
  s : ∀ r, r ∈ p.rules → r.steps.length ≤ 1000000
theorem okW_bad {u f : Int} {w : BitVec 64} (hu : 0 ≤ u) (h : f < -1 ∨ u ≤ f ∨ u ≤ (ln w : Int) - 1) : okW u f w = false := by
  unfold okW
  rcases h with h | h | h
  · rw [decide_eq_false (by omega), Bool.false_and]
  · rw [decide_eq_false (by omega), Bool.false_and]
  · rw [decide_eq_false ((ln_high hu).1 h), Bool.and_false]
theorem okW_ok {u f : Int} {w : BitVec 64} (hu : 0 ≤ u) (h1 : -1 ≤ f) (h2 : f < u) (h : ¬ u ≤ (ln w : Int) - 1) : okW u f w = true := by
  unfold okW
  rw [decide_eq_true ⟨h1, h2⟩, decide_eq_true (Decidable.of_not_not fun e => h ((ln_high hu).2 e))]; rfl
theorem pck_2 {p : Pb} (h : 12 < p.who.length ∨ 64 < p.users ∨ 32 < p.rules.length) : pck p = 2 := if_pos h
theorem pck_1 {p : Pb} (h : ¬ (12 < p.who.length ∨ 64 < p.users ∨ 32 < p.rules.length)) (h2 : p.users < 0 ∨ p.fixed.length ≠ p.who.length) : pck p = 1 := by unfold pck; rw [if_neg h, if_pos h2]
theorem pck_1w {p : Pb} (h : ¬ (12 < p.who.length ∨ 64 < p.users ∨ 32 < p.rules.length)) (h2 : ¬ (p.users < 0 ∨ p.fixed.length ≠ p.who.length)) {i : Nat} (hi : i < p.who.length) (h3 : okW p.users (p.fixed.getD i 0) (p.who.getD i 0) = false) : pck p = 1 := by
  unfold pck; rw [if_neg h, if_neg h2, if_neg]
  intro e
  rw [Bool.and_eq_true, List.all_eq_true] at e
  have := e.1 i (List.mem_range.2 hi); rw [h3] at this; cases this
theorem pck_1r {p : Pb} (h : ¬ (12 < p.who.length ∨ 64 < p.users ∨ 32 < p.rules.length)) (h2 : ¬ (p.users < 0 ∨ p.fixed.length ≠ p.who.length)) {i : Nat} (hi : i < p.rules.length) (h3 : ¬ rck p.who.length (p.rules.getD i r0) = true) : pck p = 1 := by
  unfold pck; rw [if_neg h, if_neg h2, if_neg]
  intro e
  rw [Bool.and_eq_true, List.all_eq_true, List.all_eq_true] at e
  exact h3 (e.2 _ (rul_mem hi))
theorem all_at {rs : List Rul} {f : Rul → Bool} (h : ∀ i, i < rs.length → f (rs.getD i r0) = true) : ∀ r, r ∈ rs → f r = true := fun r hr => by
  obtain ⟨i, hi, e⟩ := List.getElem_of_mem hr
  have := h i hi
  rw [List.getD_eq_getElem?_getD, List.getElem?_eq_getElem hi] at this
  simpa [e] using this
theorem pck_0 {p : Pb} (h : ¬ (12 < p.who.length ∨ 64 < p.users ∨ 32 < p.rules.length)) (h2 : ¬ (p.users < 0 ∨ p.fixed.length ≠ p.who.length)) (h3 : ∀ i, i < p.who.length → okW p.users (p.fixed.getD i 0) (p.who.getD i 0) = true) (h4 : ∀ i, i < p.rules.length → rck p.who.length (p.rules.getD i r0) = true) : pck p = 0 :=
  pck_good.2 ⟨by omega, by omega, by omega, by omega, by omega, h3, all_at h4⟩
theorem pb_under {n : Nat} {p : Pb} : (VVal.agg (pbB p)).under n = true := by
  simp [VVal.under, VVal.underL, fzR, fzI_under, fzW_under, fm_under (f := rlB) (fun a => by simp [VVal.underL, VVal.under, fzI_under])]
theorem pbB_under {n : Nat} {p : Pb} : VVal.underL n (pbB p) = true := pb_under
theorem flR_under {n : Nat} {l : List Rul} : VVal.underL n (l.flatMap rlB) = true := fm_under (f := rlB) (fun a => by simp [VVal.underL, VVal.under, fzI_under]) l

theorem sset_spec {x : SW} (H : VHeap) (w : BitVec 64) : F (psys x) 50 [iW w] H fun v G => v = .agg [iW w] ∧ G = H := by
 refine F_body Try.func50 rfl uS5n6 rfl ?_
 refine B_seq (B_region ?_)
 refine Lo uS5n6 (v_alloc rfl rfl) ?_
 refine L_nil (K_seq (B_seq (B_region ?_)))
 refine Lo uS5n6 (rfl) ?_
 refine Lo uS5n6 (v_move (.inl rfl) rfl) ?_
 refine L_call rfl rfl rfl (by exact Of_spec _ 0#64 _) ?_
 rintro _ _ ⟨rfl, rfl⟩
 refine Le uS5n6 ?_
 refine Lo uS5n6 (wS5n6 rfl rfl rfl rfl rfl rfl rfl) ?_
 refine L_nil (K_seq (B_ret ?_))
 refine wS5n2 (.inr rfl) (vres_cellA rfl rfl rfl rfl (by first | exact get_app rfl rfl | exact get_out (by assumption) | exact getE0 rfl rfl | exact get_out (get_app rfl rfl) | exact get_app rfl (by assumption) | assumption | (simp only [List.append_assoc, List.singleton_append, List.cons_append, List.nil_append]; refine getE (i := 0) rfl ?_ rfl; simp; done) | (simp only [List.append_assoc, List.singleton_append, List.cons_append, List.nil_append]; refine getE (i := 1) rfl ?_ rfl; simp; done) | (simp only [List.append_assoc, List.singleton_append, List.cons_append, List.nil_append]; refine getE (i := 2) rfl ?_ rfl; simp; done) | (simp only [List.append_assoc, List.singleton_append, List.cons_append, List.nil_append]; refine getE (i := 3) rfl ?_ rfl; simp; done) | (simp [*]; done)) (by first | rfl | assumption | exact fget (α := BitVec 64) 0 (by omega) | exact fget (α := Int) 0 (by omega) | exact fget0 (α := BitVec 64) 0 (by omega) | exact fget0 (α := Int) 0 (by omega) | exact fget (α := Bool) false (by omega) | exact fget0 (α := Bool) false (by omega) | (simp [*]; done))) ?_
 exact ⟨rfl, rfl⟩

theorem sCheck_spec {x : SW} (H : VHeap) (p : Pb) (hp : PbL p) : F (psys x) 31 [.agg (pbB p)] H fun v G => v = iI (pck p) ∧ G = H := by
 have hp1 := hp.u; have hp2 := hp.w; have hp3 := hp.f; have hp4 := hp.r
 refine F_body Try.func31 rfl uS5n79 rfl ?_
 refine B_seq (B_region ?_)
 refine Lo uS5n79 (v_boxT rfl rfl rfl) ?_
 refine Lo uS5n79 (v_const (VVal.int .i64 0) (.inr rfl) rfl) ?_
 refine L_nil (K_seq (B_seq (B_region ?_)))
 refine Lo uS5n79 (rfl) ?_
 refine Lo uS5n79 (wS5n7 rfl rfl rfl rfl) ?_
 refine Lo uS5n79 (rfl) ?_
 refine Lo uS5n79 (v_move (.inr rfl) rfl) ?_
 refine L_nil (K_seq (B_seq (B_block (B_seq (B_region ?_)))))
 refine Lo uS5n79 (v_move (.inl rfl) rfl) ?_
 refine Lo uS5n79 (rfl) ?_
 refine Lo uS5n79 (v_move (.inl rfl) rfl) ?_
 refine L_split 15 (env1 := uS5n79) (env2 := uS5n79) rfl rfl rfl (fun hg1 => ?_) (fun hg1 => ?_)
 ·try simp only [qB, qN] at hg1
  refine Lf uS5n79 ?_
  refine Lf uS5n79 ?_
  refine Lf uS5n79 ?_
  refine Lo uS5n79 (v_pickTC (VVal.bool true) rfl rfl rfl) ?_
  refine Lo uS5n79 (v_move (.inl rfl) rfl) ?_
  refine Lf uS5n79 ?_
  refine Lf uS5n79 ?_
  refine Lf uS5n79 ?_
  refine Lf uS5n79 ?_
  refine Lo uS5n79 (v_pickTC (VVal.bool true) rfl rfl rfl) ?_
  refine Lo uS5n79 (v_move (.inr rfl) rfl) ?_
  refine L_nil (K_seq ?_)
  refine B_true rfl rfl ?_
  refine B_seq (B_region ?_)
  refine Lo uS5n79 (v_const (VVal.int .i64 2) (.inr rfl) rfl) ?_
  refine L_nil (K_seq (B_ret (K_blkR (K_seqR ?_))))
  refine wS5n2 (.inr rfl) (vres_tmp rfl rfl) ?_
  exact wS5n8
 ·try simp only [qB, qN] at hg1
  refine Lo uS5n79 (rfl) ?_
  refine Lo uS5n79 (wS5n7 rfl rfl rfl rfl) ?_
  refine Lo uS5n79 (rfl) ?_
  refine Lo uS5n79 (v_pickF rfl rfl rfl) ?_
  refine Lo uS5n79 (v_move (.inl rfl) rfl) ?_
  refine L_split 20 (env1 := uS5n79) (env2 := uS5n79) rfl rfl rfl (fun hg2 => ?_) (fun hg2 => ?_)
  ·try simp only [qB, qN] at hg2
   refine Lf uS5n79 ?_
   refine Lf uS5n79 ?_
   refine Lf uS5n79 ?_
   refine Lf uS5n79 ?_
   refine Lo uS5n79 (v_pickTC (VVal.bool true) rfl rfl rfl) ?_
   refine Lo uS5n79 (v_move (.inr rfl) rfl) ?_
   refine L_nil (K_seq ?_)
   refine B_true rfl rfl ?_
   refine B_seq (B_region ?_)
   refine Lo uS5n79 (v_const (VVal.int .i64 2) (.inr rfl) rfl) ?_
   refine L_nil (K_seq (B_ret (K_blkR (K_seqR ?_))))
   refine wS5n2 (.inr rfl) (vres_tmp rfl rfl) ?_
   exact wS5n8
  ·try simp only [qB, qN] at hg2
   refine Lo uS5n79 (rfl) ?_
   refine Lo uS5n79 (wS5n7 rfl rfl rfl rfl) ?_
   refine Lo uS5n79 (rfl) ?_
   refine Lo uS5n79 (rfl) ?_
   refine Lo uS5n79 (v_pickF rfl rfl rfl) ?_
   refine Lo uS5n79 (v_move (.inr rfl) rfl) ?_
   refine L_nil (K_seq ?_)
   refine B_cond _ rfl (fun hc3 => ?_) (fun hc3 => ?_)
   ·try simp only [qB, qN] at hc3
    refine B_seq (B_region ?_)
    refine Lo uS5n79 (v_const (VVal.int .i64 2) (.inr rfl) rfl) ?_
    refine L_nil (K_seq (B_ret (K_blkR (K_seqR ?_))))
    refine wS5n2 (.inr rfl) (vres_tmp rfl rfl) ?_
    exact wS5n8
   ·try simp only [qB, qN] at hc3
    refine B_seq (B_region ?_)
    refine Lo uS5n79 (rfl) ?_
    refine Lo uS5n79 (wS5n7 rfl rfl rfl rfl) ?_
    refine Lo uS5n79 (rfl) ?_
    refine Lo uS5n79 (v_move (.inl rfl) rfl) ?_
    refine L_split 30 (env1 := uS5n79) (env2 := uS5n79) rfl rfl rfl (fun hg4 => ?_) (fun hg4 => ?_)
    ·try simp only [qB, qN] at hg4
     refine Lf uS5n79 ?_
     refine Lf uS5n79 ?_
     refine Lf uS5n79 ?_
     refine Lf uS5n79 ?_
     refine Lf uS5n79 ?_
     refine Lo uS5n79 (v_pickTC (VVal.bool true) rfl rfl rfl) ?_
     refine Lo uS5n79 (v_move (.inr rfl) rfl) ?_
     refine L_nil (K_seq ?_)
     refine B_true rfl rfl ?_
     refine B_seq (B_region ?_)
     refine Lo uS5n79 (v_const (VVal.int .i64 1) (.inr rfl) rfl) ?_
     refine L_nil (K_seq (B_ret (K_blkR (K_seqR ?_))))
     refine wS5n2 (.inr rfl) (vres_tmp rfl rfl) ?_
     exact wS5n8
    ·try simp only [qB, qN] at hg4
     refine Lo uS5n79 (rfl) ?_
     refine Lo uS5n79 (wS5n7 rfl rfl rfl rfl) ?_
     refine Lo uS5n79 (rfl) ?_
     refine Lo uS5n79 (v_move (.inl rfl) rfl) ?_
     refine Lo uS5n79 (rfl) ?_
     refine Lo uS5n79 (v_pickF rfl rfl rfl) ?_
     refine Lo uS5n79 (v_move (.inr rfl) rfl) ?_
     refine L_nil (K_seq ?_)
     refine B_cond _ rfl (fun hc5 => ?_) (fun hc5 => ?_)
     ·try simp only [qB, qN] at hc5
      refine B_seq (B_region ?_)
      refine Lo uS5n79 (v_const (VVal.int .i64 1) (.inr rfl) rfl) ?_
      refine L_nil (K_seq (B_ret (K_blkR (K_seqR ?_))))
      refine wS5n2 (.inr rfl) (vres_tmp rfl rfl) ?_
      exact wS5n8
     ·try simp only [qB, qN] at hc5
      refine B_skip (K_blk (K_seq (B_seq (B_seq ?_))))
      have hn1 : ¬ (12 < p.who.length ∨ 64 < p.users ∨ 32 < p.rules.length) := by omega
      have hn2 : ¬ (p.users < 0 ∨ p.fixed.length ≠ p.who.length) := by omega
      refine B_region ?_
      refine Lo uS5n79 (rfl) ?_
      refine Lo uS5n79 (wS5n7 rfl rfl rfl rfl) ?_
      refine Lo uS5n79 (rfl) ?_
      refine Lo uS5n79 (v_const (VVal.int .i64 0) (.inl rfl) rfl) ?_
      refine L_nil (K_seq (B_block ?_))
      refine B_clear (mk 79 604462909805390442004469) (env' := uS5n79) rfl ?_
      refine B_loopE (fun (k : Nat) => p.who.length - k) (fun (k : Nat) => [(40, iI (k : Nat))]) (fun (k : Nat) G => (k ≤ p.who.length ∧ ∀ i, i < k → okW p.users (p.fixed.getD i 0) (p.who.getD i 0) = true) ∧ G = H ++ [.cells (pbB p) true]) 0 rfl ?_ ?_
      ·refine ⟨?_, rfl⟩
       exact ⟨Nat.zero_le _, fun i h => by omega⟩
      rintro k _ ⟨⟨hk, hw⟩, rfl⟩
      refine B_env (env' := uS5n79) rfl ?_
      refine B_seq (B_region ?_)
      refine Lo uS5n79 (rfl) ?_
      refine L_nil (K_seq (B_seq ?_))
      refine B_cond _ rfl (fun hc6 => ?_) (fun hc6 => ?_)
      ·try simp only [qB, qN] at hc6
       refine B_skip (K_seq (B_seq (B_block (B_seq (B_region ?_)))))
       refine Lo uS5n79 (v_move (.inl rfl) rfl) ?_
       refine Lo uS5n79 (wS5n9 rfl rfl rfl rfl rfl rfl rfl) ?_
       refine Lo uS5n79 (wS5n7 rfl rfl rfl rfl) ?_
       refine Lo uS5n79 (v_move (.inr rfl) rfl) ?_
       refine Lo uS5n79 (v_move (.inr rfl) rfl) ?_
       refine L_nil (K_seq (B_seq (B_region ?_)))
       refine Lo uS5n79 (rfl) ?_
       refine Lo uS5n79 (wS5n7 rfl rfl rfl rfl) ?_
       refine Lo uS5n79 (v_move (.inl rfl) rfl) ?_
       refine Lo uS5n79 (wS5n9 rfl rfl rfl rfl rfl rfl rfl) ?_
       refine Lo uS5n79 (wS5n7 rfl rfl rfl rfl) ?_
       refine Lo uS5n79 (v_move (.inr rfl) rfl) ?_
       refine L_nil (K_seq (B_seq ?_))
       refine B_draw [0, 1, 2, 3, 4, 5, 6, 7, 8, 9, 12, 13, 10, 11, 14, 15] #[0, 1, 3, 7, 7, 23, 63, 127, 255, 511, 1023, 2047, 511, 4607, 16383, 32767] (by kernel_rfl) (by kernel_rfl) (by kernel_rfl) ?_
       refine Oo uS5n79 .calm rfl (v_move (.inl rfl) rfl) ?_
       refine Oo uS5n79 .calm rfl (rfl) ?_
       refine Oo uS5n79 .calm rfl (v_move (.inl rfl) rfl) ?_
       refine O_split 52 (env1 := uS5n79) (env2 := uS5n79) rfl rfl rfl (fun hg7 => ?_) (fun hg7 => ?_)
       ·try simp only [qB, qN] at hg7
        refine Of uS5n79 rfl ?_
        refine Of uS5n79 rfl ?_
        refine Of uS5n79 rfl ?_
        refine Of uS5n79 rfl ?_
        refine Oo uS5n79 .calm rfl (v_pickTC (VVal.bool true) rfl rfl rfl) ?_
        refine Oo uS5n79 .calm rfl (v_move (.inl rfl) rfl) ?_
        refine Of uS5n79 rfl ?_
        refine Of uS5n79 rfl ?_
        refine Of uS5n79 rfl ?_
        refine Of uS5n79 rfl ?_
        refine Of uS5n79 rfl ?_
        refine Of uS5n79 rfl ?_
        refine Oo uS5n79 .calm rfl (v_pickTC (VVal.bool true) rfl rfl rfl) ?_
        refine O_nil [] (by kernel_rfl) (trivial) ?_
        refine K_seq ?_
        refine B_true rfl rfl ?_
        refine B_seq (B_region ?_)
        refine Lo uS5n79 (v_const (VVal.int .i64 1) (.inr rfl) rfl) ?_
        refine L_nil (K_seq (B_ret (K_blkR (K_seqR (K_loopR (K_blkR (K_seqR ?_)))))))
        refine wS5n2 (.inr rfl) (vres_tmp rfl rfl) ?_
        exact wS5n8
       ·try simp only [qB, qN] at hg7
        refine Oo uS5n79 .calm rfl (v_move (.inl rfl) rfl) ?_
        refine Oo uS5n79 .calm rfl (rfl) ?_
        refine Oo uS5n79 .look rfl (wS5n7 rfl rfl rfl rfl) ?_
        refine Oo uS5n79 .calm rfl (rfl) ?_
        refine Oo uS5n79 .calm rfl (v_pickF rfl rfl rfl) ?_
        refine Oo uS5n79 .calm rfl (v_move (.inl rfl) rfl) ?_
        refine O_split 58 (env1 := uS5n79) (env2 := uS5n79) rfl rfl rfl (fun hg8 => ?_) (fun hg8 => ?_)
        ·try simp only [qB, qN] at hg8
         refine Of uS5n79 rfl ?_
         refine Of uS5n79 rfl ?_
         refine Of uS5n79 rfl ?_
         refine Of uS5n79 rfl ?_
         refine Of uS5n79 rfl ?_
         refine Of uS5n79 rfl ?_
         refine Oo uS5n79 .calm rfl (v_pickTC (VVal.bool true) rfl rfl rfl) ?_
         refine O_nil [] (by kernel_rfl) (trivial) ?_
         refine K_seq ?_
         refine B_true rfl rfl ?_
         refine B_seq (B_region ?_)
         refine Lo uS5n79 (v_const (VVal.int .i64 1) (.inr rfl) rfl) ?_
         refine L_nil (K_seq (B_ret (K_blkR (K_seqR (K_loopR (K_blkR (K_seqR ?_)))))))
         refine wS5n2 (.inr rfl) (vres_tmp rfl rfl) ?_
         exact wS5n8
        ·try simp only [qB, qN] at hg8
         refine Oo uS5n79 .calm rfl (v_move (.inl rfl) rfl) ?_
         refine Oo uS5n79 .calm rfl (rfl) ?_
         refine O_opI (env' := uS5n79) (x := .look _ _) rfl rfl rfl (wS5n7 rfl rfl rfl rfl) rfl rfl rfl ?_
         refine O_call (env' := uS5n79) rfl rfl rfl rfl rfl (by exact sset_spec _ _) (by first | exact Nat.le_refl _ | simp) rfl rfl ?_
         refine O_call (env' := uS5n79) rfl rfl rfl rfl rfl (by exact High_spec _ _) (by first | exact Nat.le_refl _ | simp) rfl rfl ?_
         refine Oo uS5n79 .calm rfl (rfl) ?_
         refine Oo uS5n79 .calm rfl (v_pickF rfl rfl rfl) ?_
         refine O_nil [_, _] (by rfl) (And.intro (And.intro (wS5n7 rfl rfl rfl rfl) (wS5n7 rfl rfl rfl rfl)) (And.intro (And.intro (wS5n7 rfl rfl rfl rfl) (wS5n7 rfl rfl rfl rfl)) trivial)) ?_
         refine K_seq ?_
         refine B_cond _ rfl (fun hc9 => ?_) (fun hc9 => ?_)
         ·try simp only [qB, qN] at hc9
          refine B_seq (B_region ?_)
          refine Lo uS5n79 (v_const (VVal.int .i64 1) (.inr rfl) rfl) ?_
          refine L_nil (K_seq (B_ret (K_blkR (K_seqR (K_loopR (K_blkR (K_seqR ?_)))))))
          refine wS5n2 (.inr rfl) (vres_tmp rfl rfl) ?_
          exact wS5n8
         ·try simp only [qB, qN] at hc9
          refine B_skip (K_blk (K_seq (B_region ?_)))
          refine Lo uS5n79 (wS5n10 rfl rfl rfl) ?_
          refine Lo uS5n79 (v_move (.inl rfl) rfl) ?_
          refine L_nil ?_
          refine K_loop (mk 79 604462909805390442004469) (env' := uS5n79) rfl ⟨k + 1, ?_, rfl, ?_⟩
          ·first | omega | (simp only []; omega)
          ·exact ⟨⟨by omega, fun i hi => by by_cases e : i = k; (subst e; exact okW_ok (by omega) (by omega) (by omega) (by omega)); exact hw i (by omega)⟩, rfl⟩
      ·try simp only [qB, qN] at hc6
       refine B_exit (K_seqX (K_loopX (K_blkX (K_seq (B_seq (B_seq (B_region ?_)))))))
       refine Lo uS5n79 (rfl) ?_
       refine Lo uS5n79 (wS5n7 rfl rfl rfl rfl) ?_
       refine Lo uS5n79 (rfl) ?_
       refine Lo uS5n79 (v_const (VVal.int .i64 0) (.inl rfl) rfl) ?_
       refine L_nil (K_seq (B_block ?_))
       refine B_clear (mk 79 602396874471059117572087) (env' := uS5n79) rfl ?_
       refine B_loopE (fun (m : Nat) => p.rules.length - m) (fun (m : Nat) => [(70, iI (m : Nat))]) (fun (m : Nat) G => (m ≤ p.rules.length ∧ ∀ i, i < m → rck p.who.length (p.rules.getD i r0) = true) ∧ ∃ X, G = H ++ (.cells (pbB p) true :: X)) 0 rfl ?_ ?_
       ·refine ⟨?_, ⟨[], rfl⟩⟩
        exact ⟨Nat.zero_le _, fun i h => by omega⟩
       rintro m _ ⟨⟨hm, hr⟩, ⟨X, rfl⟩⟩
       refine B_env (env' := uS5n79) rfl ?_
       refine B_seq (B_region ?_)
       refine Lo uS5n79 (rfl) ?_
       refine L_nil (K_seq (B_seq ?_))
       refine B_cond _ rfl (fun hc10 => ?_) (fun hc10 => ?_)
       ·try simp only [qB, qN] at hc10
        refine B_skip (K_seq (B_seq (B_block (B_seq (B_region ?_)))))
        refine Lo uS5n79 (wS5n9 rfl rfl rfl rfl rfl rfl rfl) ?_
        refine Lo uS5n79 (wS5n11 rfl rfl rfl rfl rfl) ?_
        refine Lo uS5n79 (v_alloc rfl rfl) ?_
        refine Lo uS5n79 (wS5n6 rfl rfl rfl rfl rfl rfl rfl) ?_
        refine L_nil (K_seq (B_seq (B_region ?_)))
        refine Lo uS5n79 (v_move (.inl rfl) rfl) ?_
        refine Lo uS5n79 (wS5n11 rfl rfl rfl rfl rfl) ?_
        refine L_call rfl rfl rfl (by exact rCheck_spec _ _ _ (hp.s _ (rul_mem (by omega)))) ?_
        rintro _ _ ⟨rfl, rfl⟩
        refine Le uS5n79 ?_
        refine Lo uS5n79 (rfl) ?_
        refine L_nil (K_seq ?_)
        refine B_cond _ rfl (fun hc11 => ?_) (fun hc11 => ?_)
        ·try simp only [qB, qN] at hc11
         refine B_seq (B_region ?_)
         refine Lo uS5n79 (v_const (VVal.int .i64 1) (.inr rfl) rfl) ?_
         refine L_nil (K_seq (B_ret (K_blkR (K_seqR (K_loopR (K_blkR (K_seqR ?_)))))))
         refine wS5n2 (.inr rfl) (vres_tmp rfl rfl) ?_
         exact wS5n8
        ·try simp only [qB, qN] at hc11
         refine B_skip (K_blk (K_seq (B_region ?_)))
         refine Lo uS5n79 (wS5n0 rfl rfl rfl) ?_
         refine Lo uS5n79 (v_move (.inl rfl) rfl) ?_
         refine L_nil ?_
         refine K_loop (mk 79 602396874471059117572087) (env' := uS5n79) rfl ⟨m + 1, ?_, rfl, ?_⟩
         ·first | omega | (simp only []; omega)
         ·exact ⟨⟨by omega, fun i hi => by by_cases e : i = m; (subst e; exact rcE_eq.1 (by assumption)); exact hr i (by omega)⟩, ⟨_, rfl⟩⟩
       ·try simp only [qB, qN] at hc10
        refine B_exit (K_seqX (K_loopX (K_blkX (K_seq (B_seq (B_region ?_))))))
        refine Lo uS5n79 (v_const (VVal.int .i64 0) (.inr rfl) rfl) ?_
        refine L_nil (K_seq (B_ret ?_))
        refine wS5n2 (.inr rfl) (vres_tmp rfl rfl) ?_
        exact wS5n8
end Go.Proofs.Ytbngdhlmggdaaaa.VT

set_option autoImplicit false
set_option linter.unusedVariables false
set_option linter.unusedSimpArgs false
set_option maxHeartbeats 4000000
set_option maxRecDepth 100000
namespace Go.Proofs.Ytbngdhlmggdaaaa.VT
open Go Go.V Go.RowKit

abbrev uS6n16 {a0 a1 a2 a3 a4 a5 a6 a7 a8 a9 a10 a11 a12 a13 a14 a15 : VVal} : VEnv := a0 :: a1 :: a2 :: a3 :: a4 :: a5 :: a6 :: a7 :: a8 :: a9 :: a10 :: a11 :: a12 :: a13 :: a14 :: a15 :: []
abbrev uS6n25 {a0 a1 a2 a3 a4 a5 a6 a7 a8 a9 a10 a11 a12 a13 a14 a15 a16 a17 a18 a19 a20 a21 a22 a23 a24 : VVal} : VEnv := a0 :: a1 :: a2 :: a3 :: a4 :: a5 :: a6 :: a7 :: a8 :: a9 :: a10 :: a11 :: a12 :: a13 :: a14 :: a15 :: a16 :: a17 :: a18 :: a19 :: a20 :: a21 :: a22 :: a23 :: a24 :: []
abbrev uS6n31 {a0 a1 a2 a3 a4 a5 a6 a7 a8 a9 a10 a11 a12 a13 a14 a15 a16 a17 a18 a19 a20 a21 a22 a23 a24 a25 a26 a27 a28 a29 a30 : VVal} : VEnv := a0 :: a1 :: a2 :: a3 :: a4 :: a5 :: a6 :: a7 :: a8 :: a9 :: a10 :: a11 :: a12 :: a13 :: a14 :: a15 :: a16 :: a17 :: a18 :: a19 :: a20 :: a21 :: a22 :: a23 :: a24 :: a25 :: a26 :: a27 :: a28 :: a29 :: a30 :: []
abbrev uS6n35 {a0 a1 a2 a3 a4 a5 a6 a7 a8 a9 a10 a11 a12 a13 a14 a15 a16 a17 a18 a19 a20 a21 a22 a23 a24 a25 a26 a27 a28 a29 a30 a31 a32 a33 a34 : VVal} : VEnv := a0 :: a1 :: a2 :: a3 :: a4 :: a5 :: a6 :: a7 :: a8 :: a9 :: a10 :: a11 :: a12 :: a13 :: a14 :: a15 :: a16 :: a17 :: a18 :: a19 :: a20 :: a21 :: a22 :: a23 :: a24 :: a25 :: a26 :: a27 :: a28 :: a29 :: a30 :: a31 :: a32 :: a33 :: a34 :: []
abbrev uS6n42 {a0 a1 a2 a3 a4 a5 a6 a7 a8 a9 a10 a11 a12 a13 a14 a15 a16 a17 a18 a19 a20 a21 a22 a23 a24 a25 a26 a27 a28 a29 a30 a31 a32 a33 a34 a35 a36 a37 a38 a39 a40 a41 : VVal} : VEnv := a0 :: a1 :: a2 :: a3 :: a4 :: a5 :: a6 :: a7 :: a8 :: a9 :: a10 :: a11 :: a12 :: a13 :: a14 :: a15 :: a16 :: a17 :: a18 :: a19 :: a20 :: a21 :: a22 :: a23 :: a24 :: a25 :: a26 :: a27 :: a28 :: a29 :: a30 :: a31 :: a32 :: a33 :: a34 :: a35 :: a36 :: a37 :: a38 :: a39 :: a40 :: a41 :: []
abbrev uS6n52 {a0 a1 a2 a3 a4 a5 a6 a7 a8 a9 a10 a11 a12 a13 a14 a15 a16 a17 a18 a19 a20 a21 a22 a23 a24 a25 a26 a27 a28 a29 a30 a31 a32 a33 a34 a35 a36 a37 a38 a39 a40 a41 a42 a43 a44 a45 a46 a47 a48 a49 a50 a51 : VVal} : VEnv := a0 :: a1 :: a2 :: a3 :: a4 :: a5 :: a6 :: a7 :: a8 :: a9 :: a10 :: a11 :: a12 :: a13 :: a14 :: a15 :: a16 :: a17 :: a18 :: a19 :: a20 :: a21 :: a22 :: a23 :: a24 :: a25 :: a26 :: a27 :: a28 :: a29 :: a30 :: a31 :: a32 :: a33 :: a34 :: a35 :: a36 :: a37 :: a38 :: a39 :: a40 :: a41 :: a42 :: a43 :: a44 :: a45 :: a46 :: a47 :: a48 :: a49 :: a50 :: a51 :: []
abbrev uS6n106 {a0 a1 a2 a3 a4 a5 a6 a7 a8 a9 a10 a11 a12 a13 a14 a15 a16 a17 a18 a19 a20 a21 a22 a23 a24 a25 a26 a27 a28 a29 a30 a31 a32 a33 a34 a35 a36 a37 a38 a39 a40 a41 a42 a43 a44 a45 a46 a47 a48 a49 a50 a51 a52 a53 a54 a55 a56 a57 a58 a59 a60 a61 a62 a63 a64 a65 a66 a67 a68 a69 a70 a71 a72 a73 a74 a75 a76 a77 a78 a79 a80 a81 a82 a83 a84 a85 a86 a87 a88 a89 a90 a91 a92 a93 a94 a95 a96 a97 a98 a99 a100 a101 a102 a103 a104 a105 : VVal} : VEnv := a0 :: a1 :: a2 :: a3 :: a4 :: a5 :: a6 :: a7 :: a8 :: a9 :: a10 :: a11 :: a12 :: a13 :: a14 :: a15 :: a16 :: a17 :: a18 :: a19 :: a20 :: a21 :: a22 :: a23 :: a24 :: a25 :: a26 :: a27 :: a28 :: a29 :: a30 :: a31 :: a32 :: a33 :: a34 :: a35 :: a36 :: a37 :: a38 :: a39 :: a40 :: a41 :: a42 :: a43 :: a44 :: a45 :: a46 :: a47 :: a48 :: a49 :: a50 :: a51 :: a52 :: a53 :: a54 :: a55 :: a56 :: a57 :: a58 :: a59 :: a60 :: a61 :: a62 :: a63 :: a64 :: a65 :: a66 :: a67 :: a68 :: a69 :: a70 :: a71 :: a72 :: a73 :: a74 :: a75 :: a76 :: a77 :: a78 :: a79 :: a80 :: a81 :: a82 :: a83 :: a84 :: a85 :: a86 :: a87 :: a88 :: a89 :: a90 :: a91 :: a92 :: a93 :: a94 :: a95 :: a96 :: a97 :: a98 :: a99 :: a100 :: a101 :: a102 :: a103 :: a104 :: a105 :: []

theorem wS6n0 {S : V.Sys} {H : VHeap} {fn : Func} {ex : Exit} {env : VEnv} {B L : VHeap} {v : VVal} {R : VVal → VHeap → Prop} (hx : ex = .normal ∨ ex = .ret) (hv : vresults S.C.T env (B ++ L) fn.results = some v) (h : R v B) (hB : BaseOk H B := by first | exact BaseOk.refl _ | exact BaseOk.set (BaseOk.refl _) _ rfl) (hu : v.under H.length = true := by first | rfl | simp [VVal.under, VVal.underL, *]) : fnK S fn H R ex env (B ++ L) := E_app hx hv hB hu h
theorem wS6n1 {P : Prop} (h : P := by first | exact ⟨by rw [rck_fit (by omega)], rfl⟩ | exact ⟨by rw [rck_knd (knd_d (by omega))], rfl⟩ | exact ⟨by rw [rck_r (by omega) hrs, knd_f (by omega) (by omega) hl], rfl⟩ | exact ⟨by rw [rck_rise (rise_bad (k := k) (by omega) (by have h9 := lst1_m hr; first | omega | (have h8 := lst1_prev (l := r.steps) (k := k) (by omega) (by omega); omega)))], rfl⟩ | exact ⟨congrArg VVal.bool (by rw [rck_r (by omega) hrs, knd_a (by omega)]; first | exact decide_eq_decide.2 (by omega) | exact (decide_eq_false (by omega)).symm | exact (decide_eq_true (by omega)).symm), rfl⟩ | exact ⟨congrArg VVal.bool (by rw [rck_r (by omega) hrs, knd_b (by omega)]; first | exact decide_eq_decide.2 (by omega) | exact (decide_eq_false (by omega)).symm | exact (decide_eq_true (by omega)).symm), rfl⟩ | exact ⟨congrArg VVal.bool (by rw [rck_r (by omega) hrs, knd_c (by omega)]; first | exact decide_eq_decide.2 (by omega) | exact (decide_eq_false (by omega)).symm | exact (decide_eq_true (by omega)).symm), rfl⟩) : P := h
theorem wS6n2 {T : TypeId → Option VTy} {H : VHeap} {op : Op} {ρ : Operand → VVal} {t : TypeId} {a : Operand} {y : VTy} {p v : VVal} (ho : op = .load t a) (ha : ρ a = p) (hy : T t = some y) (hd : isAggDesc y.desc = false) (h : LdOk H p v := by first | exact .inl ⟨_, _, rfl, by first | rfl | exact fgetN (α := Int) 0 (by omega) | exact fgetP (α := Int) 0 (by omega) (by omega)⟩ | exact .inr ⟨_, _, _, _, rfl, by first | exact get_app rfl rfl | exact get_out (by assumption) | exact getE0 rfl rfl | exact get_out (get_app rfl rfl) | exact get_app rfl (by assumption) | assumption | (simp only [List.append_assoc, List.singleton_append, List.cons_append, List.nil_append]; refine getE (i := 0) rfl ?_ rfl; simp; done) | (simp only [List.append_assoc, List.singleton_append, List.cons_append, List.nil_append]; refine getE (i := 1) rfl ?_ rfl; simp; done) | (simp only [List.append_assoc, List.singleton_append, List.cons_append, List.nil_append]; refine getE (i := 2) rfl ?_ rfl; simp; done) | (simp only [List.append_assoc, List.singleton_append, List.cons_append, List.nil_append]; refine getE (i := 3) rfl ?_ rfl; simp; done) | (simp [*]; done), by first | rfl | exact fgetN (α := Int) 0 (by omega) | exact fgetP (α := Int) 0 (by omega) (by omega)⟩) : vop T ρ H op = some (v, H) := v_ld ho ha hy hd h
theorem wS6n3 {T : TypeId → Option VTy} {H : VHeap} {op : Op} {ρ : Operand → VVal} {t e : TypeId} {x i : Operand} {y z : VTy} {k : IntKind} {n : Int} {p v : VVal} {es : Nat} (ho : op = .indexAddr t x i) (hx : ρ x = p) (hi : ρ i = .int k n) (hy : T t = some y) (hd : y.desc = .slice e) (hz : T e = some z) (hs : z.size = es) (h : IxOk p es n v := by first | exact .inl ⟨_, _, _, rfl, by first | assumption | omega | (simp [*]; done) | (simp at *; omega), rfl⟩ | exact .inr ⟨_, _, _, _, _, rfl, by first | assumption | omega | (simp [*]; done) | (simp at *; omega), rfl⟩) : vop T ρ H op = some (v, H) := v_ix ho hx hi hy hd hz hs h
theorem wS6n4 {T : TypeId → Option VTy} {H : VHeap} {op : Op} {ρ : Operand → VVal} {t ty : TypeId} {x y : Operand} {n m : Int} (ho : op = .binOp .sub t x y ty) (hx : ρ x = .int .i64 n) (hy : ρ y = .int .i64 m) (h : -9223372036854775808 ≤ n - m ∧ n - m < 9223372036854775808 := by first | assumption | omega | (simp [*]; done) | (simp at *; omega)) : vop T ρ H op = some (.int .i64 (n - m), H) := v_subI ho hx hy h
theorem wS6n5 {T : TypeId → Option VTy} {H : VHeap} {op : Op} {ρ : Operand → VVal} {t ty : TypeId} {x y : Operand} {n m : Int} (ho : op = .binOp .add t x y ty) (hx : ρ x = .int .i64 n) (hy : ρ y = .int .i64 m) (h : -9223372036854775808 ≤ n + m ∧ n + m < 9223372036854775808 := by first | assumption | omega | (simp [*]; done) | (simp at *; omega)) : vop T ρ H op = some (.int .i64 (n + m), H) := v_addI ho hx hy h
theorem wS6n6 {T : TypeId → Option VTy} {H : VHeap} {op : Op} {ρ : Operand → VVal} {t e : TypeId} {x i : Operand} {y z : VTy} {k : IntKind} {n : Int} {p v : VVal} {es : Nat} (ho : op = .indexAddr t x i) (hx : ρ x = p) (hi : ρ i = .int k n) (hy : T t = some y) (hd : y.desc = .slice e) (hz : T e = some z) (hs : z.size = es) (h : IxOk p es n v := by first | exact .inl ⟨_, _, _, rfl, by first | assumption | omega | (split <;> omega), rfl⟩ | exact .inr ⟨_, _, _, _, _, rfl, by first | assumption | omega | (split <;> omega), rfl⟩) : vop T ρ H op = some (v, H) := v_ix ho hx hi hy hd hz hs h
theorem wS6n7 {T : TypeId → Option VTy} {H : VHeap} {op : Op} {ρ : Operand → VVal} {t : TypeId} {a : Operand} {y : VTy} {p v : VVal} (ho : op = .load t a) (ha : ρ a = p) (hy : T t = some y) (hd : isAggDesc y.desc = false) (h : LdOk H p v := by first | exact .inl ⟨_, _, rfl, by first | rfl | exact fgetN (α := Int) 0 (by omega)⟩ | exact .inr ⟨_, _, _, _, rfl, by first | exact get_app rfl rfl | exact get_out (by assumption) | exact getE0 rfl rfl | exact get_out (get_app rfl rfl) | exact get_app rfl (by assumption) | assumption | (simp only [List.append_assoc, List.singleton_append, List.cons_append, List.nil_append]; refine getE (i := 0) rfl ?_ rfl; simp; done) | (simp only [List.append_assoc, List.singleton_append, List.cons_append, List.nil_append]; refine getE (i := 1) rfl ?_ rfl; simp; done) | (simp only [List.append_assoc, List.singleton_append, List.cons_append, List.nil_append]; refine getE (i := 2) rfl ?_ rfl; simp; done) | (simp only [List.append_assoc, List.singleton_append, List.cons_append, List.nil_append]; refine getE (i := 3) rfl ?_ rfl; simp; done) | (simp [*]; done), by first | rfl | exact fgetN (α := Int) 0 (by omega)⟩) : vop T ρ H op = some (v, H) := v_ld ho ha hy hd h
theorem wS6n8 {T : TypeId → Option VTy} {H : VHeap} {op : Op} {ρ : Operand → VVal} {t ty : TypeId} {x y : Operand} {n m : Int} (ho : op = .binOp .add t x y ty) (hx : ρ x = .int .i64 n) (hy : ρ y = .int .i64 m) (h : -9223372036854775808 ≤ n + m ∧ n + m < 9223372036854775808 := by first | assumption | omega | (split <;> omega)) : vop T ρ H op = some (.int .i64 (n + m), H) := v_addI ho hx hy h
theorem wS6n9 {T : TypeId → Option VTy} {H : VHeap} {op : Op} {ρ : Operand → VVal} {t : TypeId} {a : Operand} {y : VTy} {p v : VVal} (ho : op = .load t a) (ha : ρ a = p) (hy : T t = some y) (hd : isAggDesc y.desc = false) (h : LdOk H p v := by first | exact .inl ⟨_, _, rfl, by first | rfl | assumption | exact fget (α := BitVec 64) 0 (by omega) | exact fget (α := Int) 0 (by omega) | exact fget0 (α := BitVec 64) 0 (by omega) | exact fget0 (α := Int) 0 (by omega) | exact fget (α := Bool) false (by omega) | exact fget0 (α := Bool) false (by omega) | (simp [*]; done)⟩ | exact .inr ⟨_, _, _, _, rfl, by first | exact get_app rfl rfl | exact get_out (by assumption) | exact getE0 rfl rfl | exact get_out (get_app rfl rfl) | exact get_app rfl (by assumption) | assumption | (simp only [List.append_assoc, List.singleton_append, List.cons_append, List.nil_append]; refine getE (i := 0) rfl ?_ rfl; simp; done) | (simp only [List.append_assoc, List.singleton_append, List.cons_append, List.nil_append]; refine getE (i := 1) rfl ?_ rfl; simp; done) | (simp only [List.append_assoc, List.singleton_append, List.cons_append, List.nil_append]; refine getE (i := 2) rfl ?_ rfl; simp; done) | (simp only [List.append_assoc, List.singleton_append, List.cons_append, List.nil_append]; refine getE (i := 3) rfl ?_ rfl; simp; done) | (simp [*]; done), by first | rfl | assumption | exact fget (α := BitVec 64) 0 (by omega) | exact fget (α := Int) 0 (by omega) | exact fget0 (α := BitVec 64) 0 (by omega) | exact fget0 (α := Int) 0 (by omega) | exact fget (α := Bool) false (by omega) | exact fget0 (α := Bool) false (by omega) | (simp [*]; done)⟩) : vop T ρ H op = some (v, H) := v_ld ho ha hy hd h
theorem wS6n10 {P : Prop} (h : P := by first | exact ⟨by rw [kp1 (by assumption), beq_d]; exact dec_d (by rw [← uq_all]; omega), rfl⟩ | exact ⟨by rw [kp2 (by assumption)]; exact dec_d (by omega), rfl⟩ | exact ⟨by rw [kp3 (by assumption)], rfl⟩ | exact ⟨by rw [kp4 (by assumption)], rfl⟩ | exact ⟨by rw [kp5 (by assumption) (by assumption) (by assumption) (by assumption)], rfl⟩) : P := h
theorem wS6n11 {T : TypeId → Option VTy} {H : VHeap} {op : Op} {ρ : Operand → VVal} {t : TypeId} {a : Operand} {y : VTy} {p : VVal} {n : Nat} {vs : List VVal} (ho : op = .load t a) (ha : ρ a = p) (hy : T t = some y) (hd : isAggDesc y.desc = true) (hn : y.size = n) (h : LdOkA H p n vs := by first | exact .inl ⟨_, _, rfl, by first | rfl | assumption | exact fgetN (α := Int) 0 (by omega) | exact fget (α := Int) 0 (by omega)⟩ | exact .inr ⟨_, _, _, _, rfl, by first | exact get_app rfl rfl | exact get_out (by assumption) | exact getE0 rfl rfl | exact get_out (get_app rfl rfl) | exact get_app rfl (by assumption) | assumption | (simp only [List.append_assoc, List.singleton_append, List.cons_append, List.nil_append]; refine getE (i := 0) rfl ?_ rfl; simp; done) | (simp only [List.append_assoc, List.singleton_append, List.cons_append, List.nil_append]; refine getE (i := 1) rfl ?_ rfl; simp; done) | (simp only [List.append_assoc, List.singleton_append, List.cons_append, List.nil_append]; refine getE (i := 2) rfl ?_ rfl; simp; done) | (simp only [List.append_assoc, List.singleton_append, List.cons_append, List.nil_append]; refine getE (i := 3) rfl ?_ rfl; simp; done) | (simp [*]; done), by first | rfl | assumption | exact fgetN (α := Int) 0 (by omega) | exact fget (α := Int) 0 (by omega)⟩) : vop T ρ H op = some (.agg vs, H) := v_ldA ho ha hy hd hn h
theorem wS6n12 {P : Prop} (h : P := by first | exact ⟨by unfold erl; rw [(by assumption : rck n r = false)]; rfl, rfl⟩ | exact ⟨by unfold erl; rw [decide_eq_false (by omega), Bool.false_and, Bool.and_false], rfl⟩ | exact ⟨by unfold erl; rw [hck, decide_eq_true (by omega), hA.1, hA.2]; rfl, rfl⟩) : P := h
theorem wS6n13 {T : TypeId → Option VTy} {H : VHeap} {op : Op} {ρ : Operand → VVal} {t : TypeId} {a : Operand} {y : VTy} {p v : VVal} (ho : op = .load t a) (ha : ρ a = p) (hy : T t = some y) (hd : isAggDesc y.desc = false) (h : LdOk H p v := by first | exact .inl ⟨_, _, rfl, by first | rfl | assumption | exact fgetN (α := Int) 0 (by omega) | exact fget (α := Int) 0 (by omega)⟩ | exact .inr ⟨_, _, _, _, rfl, by first | exact get_app rfl rfl | exact get_out (by assumption) | exact getE0 rfl rfl | exact get_out (get_app rfl rfl) | exact get_app rfl (by assumption) | assumption | (simp only [List.append_assoc, List.singleton_append, List.cons_append, List.nil_append]; refine getE (i := 0) rfl ?_ rfl; simp; done) | (simp only [List.append_assoc, List.singleton_append, List.cons_append, List.nil_append]; refine getE (i := 1) rfl ?_ rfl; simp; done) | (simp only [List.append_assoc, List.singleton_append, List.cons_append, List.nil_append]; refine getE (i := 2) rfl ?_ rfl; simp; done) | (simp only [List.append_assoc, List.singleton_append, List.cons_append, List.nil_append]; refine getE (i := 3) rfl ?_ rfl; simp; done) | (simp [*]; done), by first | rfl | assumption | exact fgetN (α := Int) 0 (by omega) | exact fget (α := Int) 0 (by omega)⟩) : vop T ρ H op = some (v, H) := v_ld ho ha hy hd h
theorem wS6n14 {T : TypeId → Option VTy} {H : VHeap} {op : Op} {ρ : Operand → VVal} {t : TypeId} {a : Operand} {y : VTy} {p : VVal} {n : Nat} {vs : List VVal} (ho : op = .load t a) (ha : ρ a = p) (hy : T t = some y) (hd : isAggDesc y.desc = true) (hn : y.size = n) (h : LdOkA H p n vs := by first | exact .inl ⟨_, _, rfl, by first | rfl | assumption | exact fget (α := BitVec 64) 0 (by omega) | exact fget (α := Int) 0 (by omega) | exact fget0 (α := BitVec 64) 0 (by omega) | exact fget0 (α := Int) 0 (by omega) | exact fget (α := Bool) false (by omega) | exact fget0 (α := Bool) false (by omega) | (simp [*]; done)⟩ | exact .inr ⟨_, _, _, _, rfl, by first | exact get_app rfl rfl | exact get_out (by assumption) | exact getE0 rfl rfl | exact get_out (get_app rfl rfl) | exact get_app rfl (by assumption) | assumption | (simp only [List.append_assoc, List.singleton_append, List.cons_append, List.nil_append]; refine getE (i := 0) rfl ?_ rfl; simp; done) | (simp only [List.append_assoc, List.singleton_append, List.cons_append, List.nil_append]; refine getE (i := 1) rfl ?_ rfl; simp; done) | (simp only [List.append_assoc, List.singleton_append, List.cons_append, List.nil_append]; refine getE (i := 2) rfl ?_ rfl; simp; done) | (simp only [List.append_assoc, List.singleton_append, List.cons_append, List.nil_append]; refine getE (i := 3) rfl ?_ rfl; simp; done) | (simp [*]; done), by first | rfl | assumption | exact fget (α := BitVec 64) 0 (by omega) | exact fget (α := Int) 0 (by omega) | exact fget0 (α := BitVec 64) 0 (by omega) | exact fget0 (α := Int) 0 (by omega) | exact fget (α := Bool) false (by omega) | exact fget0 (α := Bool) false (by omega) | (simp [*]; done)⟩) : vop T ρ H op = some (.agg vs, H) := v_ldA ho ha hy hd hn h
theorem wS6n15 {P : Prop} (h : P := by first | exact ⟨by unfold hld; rw [(by assumption : rck l.length r = false)]; rfl, rfl⟩ | exact ⟨by unfold hld erl; rw [decide_eq_true (Int.le_refl _), Bool.true_and], rfl⟩) : P := h
theorem wS6n16 {T : TypeId → Option VTy} {H : VHeap} {op : Op} {ρ : Operand → VVal} {t : TypeId} {a : Operand} {y : VTy} {p : VVal} {n : Nat} {vs : List VVal} (ho : op = .load t a) (ha : ρ a = p) (hy : T t = some y) (hd : isAggDesc y.desc = true) (hn : y.size = n) (h : LdOkA H p n vs := by first | exact .inl ⟨_, _, rfl, by first | rfl | assumption | exact rul_at (by omega)⟩ | exact .inr ⟨_, _, _, _, rfl, by first | exact get_app rfl rfl | exact get_out (by assumption) | exact getE0 rfl rfl | exact get_out (get_app rfl rfl) | exact get_app rfl (by assumption) | assumption | (simp only [List.append_assoc, List.singleton_append, List.cons_append, List.nil_append]; refine getE (i := 0) rfl ?_ rfl; simp; done) | (simp only [List.append_assoc, List.singleton_append, List.cons_append, List.nil_append]; refine getE (i := 1) rfl ?_ rfl; simp; done) | (simp only [List.append_assoc, List.singleton_append, List.cons_append, List.nil_append]; refine getE (i := 2) rfl ?_ rfl; simp; done) | (simp only [List.append_assoc, List.singleton_append, List.cons_append, List.nil_append]; refine getE (i := 3) rfl ?_ rfl; simp; done) | (simp [*]; done), by first | rfl | assumption | exact rul_at (by omega)⟩) : vop T ρ H op = some (.agg vs, H) := v_ldA ho ha hy hd hn h

/-! the document's rules -/
theorem fgetP {α : Type} {f : α → VVal} {l : List α} {k : Nat} (d : α) (h0 : 0 < k) (h : k ≤ l.length) : (l.map f)[((k : Int) - 1).toNat * 1]? = some (f (l.getD (k - 1) d)) := by
  have := fgetN (f := f) (l := l) (k := k - 1) d (by omega)
  rw [Int.toNat_natCast] at this
  rw [show ((k : Int) - 1).toNat = k - 1 by omega]; exact this
theorem lst1_prev {l : List Int} {k : Nat} (h0 : 0 < k) (h : k ≤ l.length) : lst1 (-1) (l.take k) = l.getD (k - 1) 0 := by
  have := rise_last (l := l) (k := k - 1) (by omega)
  rwa [show k - 1 + 1 = k by omega] at this
theorem lst1_0 {l : List Int} {k : Nat} (h0 : k = 0) : lst1 (-1) (l.take k) = -1 := by subst h0; rfl
theorem lst1_m {n : Int} {l : List Int} (h : rise n l = true) : -1 ≤ lst1 (-1) l := lst1_ge _ _ h
theorem rck_r {n : Int} {r : Rul} (h : 0 ≤ n ∧ n ≤ 12) (h2 : rise n r.steps = true) : rck n r = knd r := by unfold rck; rw [decide_eq_true h, h2]; rfl
theorem knd_f {r : Rul} (h : 3 ≤ r.kind ∧ r.kind ≤ 5) (h2 : r.k < 1 ∨ 999999999 < r.k ∨ r.steps.length < 1) (hl : r.steps.length ≤ 1000000) : knd r = false := by
  by_cases h5 : r.kind = 5
  · rw [knd_c h5]; exact decide_eq_false (by omega)
  · rw [knd_b (by omega)]; exact decide_eq_false (by omega)
theorem uq_step {l : List Int} {k : Nat} (h : k < l.length) : ((uq (l.take (k + 1)) : Nat) : Int) = (uq (l.take k) : Nat) + (if l.getD k 0 ∈ l.take k then (0 : Int) else 1) := by
  rw [take_at (d := 0) h, uq_app]; split <;> simp
theorem mem_step {l : List Int} {k : Nat} {x : Int} (h : k < l.length) : (x ∈ l.take (k + 1)) ↔ (x ∈ l.take k ∨ l.getD k 0 = x) := by
  rw [take_at (d := 0) h, List.mem_append, List.mem_singleton]
  constructor
  · rintro (h | h)
    · exact .inl h
    · exact .inr h.symm
  · rintro (h | h)
    · exact .inl h
    · exact .inr h.symm
abbrev oftK (l : List Int) (k : Nat) : Nat := mxL ((l.take k).map fun y => l.count y)
theorem oftK_step {l : List Int} {k : Nat} (h : k < l.length) : oftK l (k + 1) = max (oftK l k) (l.count (l.getD k 0)) := by
  unfold oftK; rw [take_at (d := 0) h, List.map_append, List.map_singleton, mxL_app]
theorem oftK_all {l : List Int} {k : Nat} (h : l.length ≤ k) : oftK l k = oft l := by unfold oftK; rw [List.take_of_length_le h]; rfl
theorem cnt_step {l : List Int} {k : Nat} {x : Int} (h : k < l.length) : (l.take (k + 1)).count x = (l.take k).count x + if l.getD k 0 = x then 1 else 0 := by
  rw [take_at (d := 0) h, List.count_append, List.count_singleton]
  by_cases e : l.getD k 0 = x <;> simp [e]
theorem cnt_le {l : List Int} {k : Nat} {x : Int} : (l.take k).count x ≤ k := Nat.le_trans List.count_le_length (by rw [List.length_take]; omega)

theorem fCheck_spec {x : SW} (H : VHeap) (n : Int) (r : Rul) (hl : r.steps.length ≤ 1000000) : F (psys x) 56 [iI n, .agg (rlB r)] H fun v G => v = .bool (rck n r) ∧ G = H := by
 refine F_body Try.func56 rfl uS6n106 rfl ?_
 refine B_seq (B_region ?_)
 refine Lo uS6n106 (v_boxT rfl rfl rfl) ?_
 refine Lo uS6n106 (v_const (VVal.bool false) (.inr rfl) rfl) ?_
 refine L_nil (K_seq (B_seq (B_seq (B_region ?_))))
 refine Lo uS6n106 (v_move (.inl rfl) rfl) ?_
 refine Lo uS6n106 (rfl) ?_
 refine Lo uS6n106 (v_move (.inl rfl) rfl) ?_
 refine L_split 8 (env1 := uS6n106) (env2 := uS6n106) rfl rfl rfl (fun hg1 => ?_) (fun hg1 => ?_)
 ·try simp only [qB, qN] at hg1
  refine Lf uS6n106 ?_
  refine Lf uS6n106 ?_
  refine Lo uS6n106 (v_pickTC (VVal.bool true) rfl rfl rfl) ?_
  refine Lo uS6n106 (v_move (.inl rfl) rfl) ?_
  refine Lf uS6n106 ?_
  refine Lf uS6n106 ?_
  refine Lf uS6n106 ?_
  refine Lo uS6n106 (v_pickTC (VVal.bool true) rfl rfl rfl) ?_
  refine Lo uS6n106 (v_move (.inl rfl) rfl) ?_
  refine Lf uS6n106 ?_
  refine Lf uS6n106 ?_
  refine Lf uS6n106 ?_
  refine Lo uS6n106 (v_pickTC (VVal.bool true) rfl rfl rfl) ?_
  refine L_nil (K_seq ?_)
  refine B_true rfl rfl ?_
  refine B_seq (B_region ?_)
  refine Lo uS6n106 (v_const (VVal.bool false) (.inr rfl) rfl) ?_
  refine L_nil (K_seq (B_ret (K_seqR ?_)))
  refine wS6n0 (.inr rfl) (vres_tmp rfl rfl) ?_
  exact wS6n1
 ·try simp only [qB, qN] at hg1
  refine Lo uS6n106 (v_move (.inl rfl) rfl) ?_
  refine Lo uS6n106 (rfl) ?_
  refine Lo uS6n106 (v_pickF rfl rfl rfl) ?_
  refine Lo uS6n106 (v_move (.inl rfl) rfl) ?_
  refine L_split 12 (env1 := uS6n106) (env2 := uS6n106) rfl rfl rfl (fun hg2 => ?_) (fun hg2 => ?_)
  ·try simp only [qB, qN] at hg2
   refine Lf uS6n106 ?_
   refine Lf uS6n106 ?_
   refine Lf uS6n106 ?_
   refine Lo uS6n106 (v_pickTC (VVal.bool true) rfl rfl rfl) ?_
   refine Lo uS6n106 (v_move (.inl rfl) rfl) ?_
   refine Lf uS6n106 ?_
   refine Lf uS6n106 ?_
   refine Lf uS6n106 ?_
   refine Lo uS6n106 (v_pickTC (VVal.bool true) rfl rfl rfl) ?_
   refine L_nil (K_seq ?_)
   refine B_true rfl rfl ?_
   refine B_seq (B_region ?_)
   refine Lo uS6n106 (v_const (VVal.bool false) (.inr rfl) rfl) ?_
   refine L_nil (K_seq (B_ret (K_seqR ?_)))
   refine wS6n0 (.inr rfl) (vres_tmp rfl rfl) ?_
   exact wS6n1
  ·try simp only [qB, qN] at hg2
   refine Lo uS6n106 (rfl) ?_
   refine Lo uS6n106 (wS6n2 rfl rfl rfl rfl) ?_
   refine Lo uS6n106 (rfl) ?_
   refine Lo uS6n106 (v_pickF rfl rfl rfl) ?_
   refine Lo uS6n106 (v_move (.inl rfl) rfl) ?_
   refine L_split 17 (env1 := uS6n106) (env2 := uS6n106) rfl rfl rfl (fun hg3 => ?_) (fun hg3 => ?_)
   ·try simp only [qB, qN] at hg3
    refine Lf uS6n106 ?_
    refine Lf uS6n106 ?_
    refine Lf uS6n106 ?_
    refine Lo uS6n106 (v_pickTC (VVal.bool true) rfl rfl rfl) ?_
    refine L_nil (K_seq ?_)
    refine B_true rfl rfl ?_
    refine B_seq (B_region ?_)
    refine Lo uS6n106 (v_const (VVal.bool false) (.inr rfl) rfl) ?_
    refine L_nil (K_seq (B_ret (K_seqR ?_)))
    refine wS6n0 (.inr rfl) (vres_tmp rfl rfl) ?_
    exact wS6n1
   ·try simp only [qB, qN] at hg3
    refine Lo uS6n106 (rfl) ?_
    refine Lo uS6n106 (wS6n2 rfl rfl rfl rfl) ?_
    refine Lo uS6n106 (rfl) ?_
    refine Lo uS6n106 (v_pickF rfl rfl rfl) ?_
    refine L_nil (K_seq ?_)
    refine B_cond _ rfl (fun hc4 => ?_) (fun hc4 => ?_)
    ·try simp only [qB, qN] at hc4
     refine B_seq (B_region ?_)
     refine Lo uS6n106 (v_const (VVal.bool false) (.inr rfl) rfl) ?_
     refine L_nil (K_seq (B_ret (K_seqR ?_)))
     refine wS6n0 (.inr rfl) (vres_tmp rfl rfl) ?_
     exact wS6n1
    ·try simp only [qB, qN] at hc4
     refine B_skip (K_seq (B_seq (B_seq (B_region ?_))))
     refine Lo uS6n106 (v_const (VVal.int .i64 0) (.inr rfl) rfl) ?_
     refine L_nil (K_seq (B_block ?_))
     refine B_clear (mk 106 81129638414606681695789005144022) (env' := uS6n106) rfl ?_
     refine B_loopE (fun (k : Nat) => r.steps.length - k) (fun (k : Nat) => [(5, iI (k : Nat))]) (fun (k : Nat) G => (k ≤ r.steps.length ∧ rise n (r.steps.take k) = true) ∧ G = H ++ [.cells (rlB r) true]) 0 rfl ?_ ?_
     ·refine ⟨?_, rfl⟩
      exact ⟨Nat.zero_le _, rfl⟩
     rintro k _ ⟨⟨hk, hr⟩, rfl⟩
     refine B_env (env' := uS6n106) rfl ?_
     refine B_seq (B_seq (B_region ?_))
     refine Lo uS6n106 (v_move (.inl rfl) rfl) ?_
     refine Lo uS6n106 (rfl) ?_
     refine Lo uS6n106 (wS6n2 rfl rfl rfl rfl) ?_
     refine Lo uS6n106 (rfl) ?_
     refine Lo uS6n106 (rfl) ?_
     refine L_nil (K_seq ?_)
     refine B_cond _ rfl (fun hc5 => ?_) (fun hc5 => ?_)
     ·try simp only [qB, qN] at hc5
      refine B_skip (K_seq (B_seq (B_block (B_seq ?_))))
      refine B_draw [0, 1, 2, 3, 4, 5, 6, 7, 8, 9, 10, 11, 12, 13, 14, 15, 16, 17, 18, 19, 20, 21, 22, 23, 24, 25, 26, 27, 28, 29, 30, 31, 32] #[0, 1, 0, 7, 15, 31, 63, 127, 255, 127, 1023, 2047, 127, 8191, 16383, 32767, 65535, 131071, 262143, 524287, 1048575, 524287, 2621439, 8388607, 16777215, 524287, 34078719, 524287, 235405311, 503840767, 1073741823, 2147483647, 4294967295] (by kernel_rfl) (by kernel_rfl) (by kernel_rfl) ?_
      refine Oo uS6n106 .calm rfl (rfl) ?_
      refine Oo uS6n106 .look rfl (wS6n2 rfl rfl rfl rfl) ?_
      refine Oo uS6n106 .calm rfl (v_move (.inl rfl) rfl) ?_
      refine Oo uS6n106 .calm rfl (wS6n3 rfl rfl rfl rfl rfl rfl rfl) ?_
      refine Oo uS6n106 .look rfl (wS6n2 rfl rfl rfl rfl) ?_
      refine Oo uS6n106 .calm rfl (rfl) ?_
      refine Oo uS6n106 .calm rfl (v_move (.inl rfl) rfl) ?_
      refine O_split 35 (env1 := uS6n106) (env2 := uS6n106) rfl rfl rfl (fun hg6 => ?_) (fun hg6 => ?_)
      ·try simp only [qB, qN] at hg6
       refine Of uS6n106 rfl ?_
       refine Of uS6n106 rfl ?_
       refine Of uS6n106 rfl ?_
       refine Of uS6n106 rfl ?_
       refine Of uS6n106 rfl ?_
       refine Of uS6n106 rfl ?_
       refine Of uS6n106 rfl ?_
       refine Oo uS6n106 .calm rfl (v_pickTC (VVal.bool true) rfl rfl rfl) ?_
       refine Oo uS6n106 .calm rfl (v_move (.inl rfl) rfl) ?_
       refine Of uS6n106 rfl ?_
       refine Of uS6n106 rfl ?_
       refine Of uS6n106 rfl ?_
       refine Of uS6n106 rfl ?_
       refine Of uS6n106 rfl ?_
       refine Of uS6n106 rfl ?_
       refine Of uS6n106 rfl ?_
       refine Of uS6n106 rfl ?_
       refine Of uS6n106 rfl ?_
       refine Of uS6n106 rfl ?_
       refine Of uS6n106 rfl ?_
       refine Of uS6n106 rfl ?_
       refine Of uS6n106 rfl ?_
       refine Of uS6n106 rfl ?_
       refine Of uS6n106 rfl ?_
       refine Of uS6n106 rfl ?_
       refine Oo uS6n106 .calm rfl (v_pickTC (VVal.bool true) rfl rfl rfl) ?_
       refine O_nil [] (by kernel_rfl) (trivial) ?_
       refine K_seq ?_
       refine B_true rfl rfl ?_
       refine B_seq (B_region ?_)
       refine Lo uS6n106 (v_const (VVal.bool false) (.inr rfl) rfl) ?_
       refine L_nil (K_seq (B_ret (K_blkR (K_seqR (K_loopR (K_blkR (K_seqR ?_)))))))
       refine wS6n0 (.inr rfl) (vres_tmp rfl rfl) ?_
       exact wS6n1
      ·try simp only [qB, qN] at hg6
       refine Oo uS6n106 .calm rfl (rfl) ?_
       refine Oo uS6n106 .look rfl (wS6n2 rfl rfl rfl rfl) ?_
       refine Oo uS6n106 .calm rfl (v_move (.inl rfl) rfl) ?_
       refine Oo uS6n106 .calm rfl (wS6n3 rfl rfl rfl rfl rfl rfl rfl) ?_
       refine Oo uS6n106 .look rfl (wS6n2 rfl rfl rfl rfl) ?_
       refine Oo uS6n106 .calm rfl (v_move (.inl rfl) rfl) ?_
       refine Oo uS6n106 .calm rfl (rfl) ?_
       refine Oo uS6n106 .calm rfl (v_pickF rfl rfl rfl) ?_
       refine Oo uS6n106 .calm rfl (v_move (.inl rfl) rfl) ?_
       refine O_split 44 (env1 := uS6n106) (env2 := uS6n106) rfl rfl rfl (fun hg7 => ?_) (fun hg7 => ?_)
       ·try simp only [qB, qN] at hg7
        refine Of uS6n106 rfl ?_
        refine Of uS6n106 rfl ?_
        refine Of uS6n106 rfl ?_
        refine Of uS6n106 rfl ?_
        refine Of uS6n106 rfl ?_
        refine Of uS6n106 rfl ?_
        refine Of uS6n106 rfl ?_
        refine Of uS6n106 rfl ?_
        refine Of uS6n106 rfl ?_
        refine Of uS6n106 rfl ?_
        refine Of uS6n106 rfl ?_
        refine Of uS6n106 rfl ?_
        refine Of uS6n106 rfl ?_
        refine Of uS6n106 rfl ?_
        refine Of uS6n106 rfl ?_
        refine Of uS6n106 rfl ?_
        refine Oo uS6n106 .calm rfl (v_pickTC (VVal.bool true) rfl rfl rfl) ?_
        refine O_nil [] (by kernel_rfl) (trivial) ?_
        refine K_seq ?_
        refine B_true rfl rfl ?_
        refine B_seq (B_region ?_)
        refine Lo uS6n106 (v_const (VVal.bool false) (.inr rfl) rfl) ?_
        refine L_nil (K_seq (B_ret (K_blkR (K_seqR (K_loopR (K_blkR (K_seqR ?_)))))))
        refine wS6n0 (.inr rfl) (vres_tmp rfl rfl) ?_
        exact wS6n1
       ·try simp only [qB, qN] at hg7
        refine Oo uS6n106 .calm rfl (v_move (.inl rfl) rfl) ?_
        refine Oo uS6n106 .calm rfl (rfl) ?_
        refine Oo uS6n106 .calm rfl (v_move (.inl rfl) rfl) ?_
        refine O_split 47 (env1 := uS6n106) (env2 := uS6n106) rfl rfl rfl (fun hg8 => ?_) (fun hg8 => ?_)
        ·try simp only [qB, qN] at hg8
         refine Oo uS6n106 .calm rfl (rfl) ?_
         refine Oo uS6n106 .look rfl (wS6n2 rfl rfl rfl rfl) ?_
         refine Oo uS6n106 .calm rfl (v_move (.inl rfl) rfl) ?_
         refine Oo uS6n106 .calm rfl (wS6n4 rfl rfl rfl) ?_
         refine Oo uS6n106 .calm rfl (wS6n3 rfl rfl rfl rfl rfl rfl rfl) ?_
         refine Oo uS6n106 .look rfl (wS6n2 rfl rfl rfl rfl) ?_
         refine Oo uS6n106 .calm rfl (rfl) ?_
         refine Oo uS6n106 .look rfl (wS6n2 rfl rfl rfl rfl) ?_
         refine Oo uS6n106 .calm rfl (v_move (.inl rfl) rfl) ?_
         refine Oo uS6n106 .calm rfl (wS6n3 rfl rfl rfl rfl rfl rfl rfl) ?_
         refine Oo uS6n106 .look rfl (wS6n2 rfl rfl rfl rfl) ?_
         refine Oo uS6n106 .calm rfl (rfl) ?_
         refine Oo uS6n106 .calm rfl (v_pickT rfl rfl rfl) ?_
         refine Oo uS6n106 .calm rfl (v_pickF rfl rfl rfl) ?_
         refine O_nil [] (by kernel_rfl) (trivial) ?_
         refine K_seq ?_
         refine B_cond _ rfl (fun hc9 => ?_) (fun hc9 => ?_)
         ·try simp only [qB, qN] at hc9
          refine B_seq (B_region ?_)
          refine Lo uS6n106 (v_const (VVal.bool false) (.inr rfl) rfl) ?_
          refine L_nil (K_seq (B_ret (K_blkR (K_seqR (K_loopR (K_blkR (K_seqR ?_)))))))
          refine wS6n0 (.inr rfl) (vres_tmp rfl rfl) ?_
          exact wS6n1
         ·try simp only [qB, qN] at hc9
          refine B_skip (K_blk (K_seq (B_region ?_)))
          refine Lo uS6n106 (v_move (.inl rfl) rfl) ?_
          refine Lo uS6n106 (wS6n5 rfl rfl rfl) ?_
          refine Lo uS6n106 (v_move (.inr rfl) rfl) ?_
          refine L_nil ?_
          refine K_loop (mk 106 81129638414606681695789005144022) (env' := uS6n106) rfl ⟨k + 1, ?_, rfl, ?_⟩
          ·first | omega | (simp only []; omega)
          ·exact ⟨⟨by omega, rise_ok (by omega) hr (by first | (have h8 := lst1_prev (l := r.steps) (k := k) (by omega) (by omega); omega) | (have h8 := lst1_0 (l := r.steps) (k := k) (by omega); omega)) (by omega)⟩, rfl⟩
        ·try simp only [qB, qN] at hg8
         refine Of uS6n106 rfl ?_
         refine Of uS6n106 rfl ?_
         refine Of uS6n106 rfl ?_
         refine Of uS6n106 rfl ?_
         refine Of uS6n106 rfl ?_
         refine Of uS6n106 rfl ?_
         refine Of uS6n106 rfl ?_
         refine Of uS6n106 rfl ?_
         refine Of uS6n106 rfl ?_
         refine Of uS6n106 rfl ?_
         refine Of uS6n106 rfl ?_
         refine Of uS6n106 rfl ?_
         refine Oo uS6n106 .calm rfl (v_pickFC (VVal.bool false) rfl rfl rfl) ?_
         refine Oo uS6n106 .calm rfl (v_pickF rfl rfl rfl) ?_
         refine O_nil [] (by kernel_rfl) (trivial) ?_
         refine K_seq ?_
         refine B_false rfl rfl ?_
         refine B_skip (K_blk (K_seq (B_region ?_)))
         refine Lo uS6n106 (v_move (.inl rfl) rfl) ?_
         refine Lo uS6n106 (wS6n5 rfl rfl rfl) ?_
         refine Lo uS6n106 (v_move (.inr rfl) rfl) ?_
         refine L_nil ?_
         refine K_loop (mk 106 81129638414606681695789005144022) (env' := uS6n106) rfl ⟨k + 1, ?_, rfl, ?_⟩
         ·first | omega | (simp only []; omega)
         ·exact ⟨⟨by omega, rise_ok (by omega) hr (by first | (have h8 := lst1_prev (l := r.steps) (k := k) (by omega) (by omega); omega) | (have h8 := lst1_0 (l := r.steps) (k := k) (by omega); omega)) (by omega)⟩, rfl⟩
     ·try simp only [qB, qN] at hc5
      refine B_exit (K_seqX (K_loopX (K_blkX (K_seq (B_seq (B_seq ?_))))))
      have hrs : rise n r.steps = true := by rw [List.take_of_length_le (by omega)] at hr; exact hr
      refine B_region ?_
      refine Lo uS6n106 (rfl) ?_
      refine Lo uS6n106 (wS6n2 rfl rfl rfl rfl) ?_
      refine Lo uS6n106 (rfl) ?_
      refine Lo uS6n106 (v_move (.inl rfl) rfl) ?_
      refine L_split 65 (env1 := uS6n106) (env2 := uS6n106) rfl rfl rfl (fun hg10 => ?_) (fun hg10 => ?_)
      ·try simp only [qB, qN] at hg10
       refine Lf uS6n106 ?_
       refine Lf uS6n106 ?_
       refine Lf uS6n106 ?_
       refine Lo uS6n106 (v_pickTC (VVal.bool true) rfl rfl rfl) ?_
       refine L_nil (K_seq ?_)
       refine B_true rfl rfl ?_
       refine B_seq (B_region ?_)
       refine Lo uS6n106 (rfl) ?_
       refine Lo uS6n106 (wS6n2 rfl rfl rfl rfl) ?_
       refine Lo uS6n106 (rfl) ?_
       refine Lo uS6n106 (v_move (.inl rfl) rfl) ?_
       refine L_split 73 (env1 := uS6n106) (env2 := uS6n106) rfl rfl rfl (fun hg11 => ?_) (fun hg11 => ?_)
       ·try simp only [qB, qN] at hg11
        refine Lo uS6n106 (rfl) ?_
        refine Lo uS6n106 (wS6n2 rfl rfl rfl rfl) ?_
        refine Lo uS6n106 (rfl) ?_
        refine Lo uS6n106 (rfl) ?_
        refine Lo uS6n106 (v_pickT rfl rfl rfl) ?_
        refine Lo uS6n106 (v_move (.inr rfl) rfl) ?_
        refine L_nil (K_seq (B_ret (K_seqR ?_)))
        refine wS6n0 (.inr rfl) (vres_tmp rfl rfl) ?_
        exact wS6n1
       ·try simp only [qB, qN] at hg11
        refine Lf uS6n106 ?_
        refine Lf uS6n106 ?_
        refine Lf uS6n106 ?_
        refine Lf uS6n106 ?_
        refine Lo uS6n106 (v_pickFC (VVal.bool false) rfl rfl rfl) ?_
        refine Lo uS6n106 (v_move (.inr rfl) rfl) ?_
        refine L_nil (K_seq (B_ret (K_seqR ?_)))
        refine wS6n0 (.inr rfl) (vres_tmp rfl rfl) ?_
        exact wS6n1
      ·try simp only [qB, qN] at hg10
       refine Lo uS6n106 (rfl) ?_
       refine Lo uS6n106 (wS6n2 rfl rfl rfl rfl) ?_
       refine Lo uS6n106 (rfl) ?_
       refine Lo uS6n106 (v_pickF rfl rfl rfl) ?_
       refine L_nil (K_seq ?_)
       refine B_cond _ rfl (fun hc12 => ?_) (fun hc12 => ?_)
       ·try simp only [qB, qN] at hc12
        refine B_seq (B_region ?_)
        refine Lo uS6n106 (rfl) ?_
        refine Lo uS6n106 (wS6n2 rfl rfl rfl rfl) ?_
        refine Lo uS6n106 (rfl) ?_
        refine Lo uS6n106 (v_move (.inl rfl) rfl) ?_
        refine L_split 73 (env1 := uS6n106) (env2 := uS6n106) rfl rfl rfl (fun hg13 => ?_) (fun hg13 => ?_)
        ·try simp only [qB, qN] at hg13
         refine Lo uS6n106 (rfl) ?_
         refine Lo uS6n106 (wS6n2 rfl rfl rfl rfl) ?_
         refine Lo uS6n106 (rfl) ?_
         refine Lo uS6n106 (rfl) ?_
         refine Lo uS6n106 (v_pickT rfl rfl rfl) ?_
         refine Lo uS6n106 (v_move (.inr rfl) rfl) ?_
         refine L_nil (K_seq (B_ret (K_seqR ?_)))
         refine wS6n0 (.inr rfl) (vres_tmp rfl rfl) ?_
         exact wS6n1
        ·try simp only [qB, qN] at hg13
         refine Lf uS6n106 ?_
         refine Lf uS6n106 ?_
         refine Lf uS6n106 ?_
         refine Lf uS6n106 ?_
         refine Lo uS6n106 (v_pickFC (VVal.bool false) rfl rfl rfl) ?_
         refine Lo uS6n106 (v_move (.inr rfl) rfl) ?_
         refine L_nil (K_seq (B_ret (K_seqR ?_)))
         refine wS6n0 (.inr rfl) (vres_tmp rfl rfl) ?_
         exact wS6n1
       ·try simp only [qB, qN] at hc12
        refine B_skip (K_seq (B_seq (B_region ?_)))
        refine Lo uS6n106 (rfl) ?_
        refine Lo uS6n106 (wS6n2 rfl rfl rfl rfl) ?_
        refine Lo uS6n106 (rfl) ?_
        refine Lo uS6n106 (v_move (.inl rfl) rfl) ?_
        refine L_split 82 (env1 := uS6n106) (env2 := uS6n106) rfl rfl rfl (fun hg14 => ?_) (fun hg14 => ?_)
        ·try simp only [qB, qN] at hg14
         refine Lo uS6n106 (rfl) ?_
         refine Lo uS6n106 (wS6n2 rfl rfl rfl rfl) ?_
         refine Lo uS6n106 (rfl) ?_
         refine Lo uS6n106 (v_pickT rfl rfl rfl) ?_
         refine Lo uS6n106 (v_move (.inl rfl) rfl) ?_
         refine L_split 87 (env1 := uS6n106) (env2 := uS6n106) rfl rfl rfl (fun hg15 => ?_) (fun hg15 => ?_)
         ·try simp only [qB, qN] at hg15
          refine Lo uS6n106 (rfl) ?_
          refine Lo uS6n106 (wS6n2 rfl rfl rfl rfl) ?_
          refine Lo uS6n106 (rfl) ?_
          refine Lo uS6n106 (rfl) ?_
          refine Lo uS6n106 (v_pickT rfl rfl rfl) ?_
          refine Lo uS6n106 (v_move (.inl rfl) rfl) ?_
          refine L_split 93 (env1 := uS6n106) (env2 := uS6n106) rfl rfl rfl (fun hg16 => ?_) (fun hg16 => ?_)
          ·try simp only [qB, qN] at hg16
           refine Lo uS6n106 (rfl) ?_
           refine Lo uS6n106 (wS6n2 rfl rfl rfl rfl) ?_
           refine Lo uS6n106 (rfl) ?_
           refine Lo uS6n106 (v_move (.inl rfl) rfl) ?_
           refine L_split 97 (env1 := uS6n106) (env2 := uS6n106) rfl rfl rfl (fun hg17 => ?_) (fun hg17 => ?_)
           ·try simp only [qB, qN] at hg17
            refine Lf uS6n106 ?_
            refine Lf uS6n106 ?_
            refine Lf uS6n106 ?_
            refine Lf uS6n106 ?_
            refine Lf uS6n106 ?_
            refine Lf uS6n106 ?_
            refine Lo uS6n106 (v_pickTC (VVal.bool true) rfl rfl rfl) ?_
            refine Lo uS6n106 (v_pickT rfl rfl rfl) ?_
            refine Lo uS6n106 (v_move (.inr rfl) rfl) ?_
            refine L_nil (K_seq (B_ret ?_))
            refine wS6n0 (.inr rfl) (vres_tmp rfl rfl) ?_
            exact wS6n1
           ·try simp only [qB, qN] at hg17
            refine Lo uS6n106 (rfl) ?_
            refine Lo uS6n106 (wS6n2 rfl rfl rfl rfl) ?_
            refine Lo uS6n106 (rfl) ?_
            refine Lo uS6n106 (wS6n2 rfl rfl rfl rfl) ?_
            refine Lo uS6n106 (rfl) ?_
            refine Lo uS6n106 (rfl) ?_
            refine Lo uS6n106 (v_pickF rfl rfl rfl) ?_
            refine Lo uS6n106 (v_pickT rfl rfl rfl) ?_
            refine Lo uS6n106 (v_move (.inr rfl) rfl) ?_
            refine L_nil (K_seq (B_ret ?_))
            refine wS6n0 (.inr rfl) (vres_tmp rfl rfl) ?_
            exact wS6n1
          ·try simp only [qB, qN] at hg16
           refine Lf uS6n106 ?_
           refine Lf uS6n106 ?_
           refine Lf uS6n106 ?_
           refine Lf uS6n106 ?_
           refine Lf uS6n106 ?_
           refine Lf uS6n106 ?_
           refine Lf uS6n106 ?_
           refine Lf uS6n106 ?_
           refine Lf uS6n106 ?_
           refine Lf uS6n106 ?_
           refine Lf uS6n106 ?_
           refine Lo uS6n106 (v_pickFC (VVal.bool false) rfl rfl rfl) ?_
           refine Lo uS6n106 (v_move (.inr rfl) rfl) ?_
           refine L_nil (K_seq (B_ret ?_))
           refine wS6n0 (.inr rfl) (vres_tmp rfl rfl) ?_
           exact wS6n1
         ·try simp only [qB, qN] at hg15
          refine Lf uS6n106 ?_
          refine Lf uS6n106 ?_
          refine Lf uS6n106 ?_
          refine Lf uS6n106 ?_
          refine Lo uS6n106 (v_pickFC (VVal.bool false) rfl rfl rfl) ?_
          refine Lo uS6n106 (v_move (.inl rfl) rfl) ?_
          refine Lf uS6n106 ?_
          refine Lf uS6n106 ?_
          refine Lf uS6n106 ?_
          refine Lf uS6n106 ?_
          refine Lf uS6n106 ?_
          refine Lf uS6n106 ?_
          refine Lf uS6n106 ?_
          refine Lf uS6n106 ?_
          refine Lf uS6n106 ?_
          refine Lf uS6n106 ?_
          refine Lf uS6n106 ?_
          refine Lo uS6n106 (v_pickFC (VVal.bool false) rfl rfl rfl) ?_
          refine Lo uS6n106 (v_move (.inr rfl) rfl) ?_
          refine L_nil (K_seq (B_ret ?_))
          refine wS6n0 (.inr rfl) (vres_tmp rfl rfl) ?_
          exact wS6n1
        ·try simp only [qB, qN] at hg14
         refine Lf uS6n106 ?_
         refine Lf uS6n106 ?_
         refine Lf uS6n106 ?_
         refine Lo uS6n106 (v_pickFC (VVal.bool false) rfl rfl rfl) ?_
         refine Lo uS6n106 (v_move (.inl rfl) rfl) ?_
         refine Lf uS6n106 ?_
         refine Lf uS6n106 ?_
         refine Lf uS6n106 ?_
         refine Lf uS6n106 ?_
         refine Lo uS6n106 (v_pickFC (VVal.bool false) rfl rfl rfl) ?_
         refine Lo uS6n106 (v_move (.inl rfl) rfl) ?_
         refine Lf uS6n106 ?_
         refine Lf uS6n106 ?_
         refine Lf uS6n106 ?_
         refine Lf uS6n106 ?_
         refine Lf uS6n106 ?_
         refine Lf uS6n106 ?_
         refine Lf uS6n106 ?_
         refine Lf uS6n106 ?_
         refine Lf uS6n106 ?_
         refine Lf uS6n106 ?_
         refine Lf uS6n106 ?_
         refine Lo uS6n106 (v_pickFC (VVal.bool false) rfl rfl rfl) ?_
         refine Lo uS6n106 (v_move (.inr rfl) rfl) ?_
         refine L_nil (K_seq (B_ret ?_))
         refine wS6n0 (.inr rfl) (vres_tmp rfl rfl) ?_
         exact wS6n1

theorem unlike_spec {x : SW} (H : VHeap) (l : List Int) (hl : l.length ≤ 1000000) : F (psys x) 77 [fzI l] H fun v G => v = iI (uq l : Nat) ∧ G = H := by
 refine F_body Try.func77 rfl uS6n31 rfl ?_
 refine B_seq (B_region ?_)
 refine Lo uS6n31 (v_const (VVal.int .i64 0) (.inr rfl) rfl) ?_
 refine L_nil (K_seq (B_seq (B_region ?_)))
 refine Lo uS6n31 (v_const (VVal.int .i64 0) (.inr rfl) rfl) ?_
 refine L_nil (K_seq (B_seq (B_seq (B_region ?_))))
 refine Lo uS6n31 (v_const (VVal.int .i64 0) (.inr rfl) rfl) ?_
 refine L_nil (K_seq (B_block ?_))
 refine B_clear (mk 31 2147483622) (env' := uS6n31) rfl ?_
 refine B_loopE (fun (i : Nat) => l.length - i) (fun (i : Nat) => [(3, iI (uq (l.take i) : Nat)), (4, iI (i : Nat))]) (fun (i : Nat) G => (i ≤ l.length) ∧ G = H ++ []) 0 rfl ?_ ?_
 ·refine ⟨?_, rfl⟩
  exact Nat.zero_le _
 rintro i _ ⟨hi, rfl⟩
 refine B_env (env' := uS6n31) rfl ?_
 refine B_seq (B_seq (B_region ?_))
 refine Lo uS6n31 (v_move (.inl rfl) rfl) ?_
 refine Lo uS6n31 (v_move (.inl rfl) rfl) ?_
 refine Lo uS6n31 (rfl) ?_
 refine Lo uS6n31 (rfl) ?_
 refine L_nil (K_seq ?_)
 refine B_cond _ rfl (fun hc1 => ?_) (fun hc1 => ?_)
 ·try simp only [qB, qN] at hc1
  refine B_skip (K_seq (B_seq (B_block (B_seq (B_region ?_)))))
  refine Lo uS6n31 (v_const (VVal.int .i64 1) (.inr rfl) rfl) ?_
  refine L_nil (K_seq (B_seq (B_seq (B_region ?_))))
  refine Lo uS6n31 (v_const (VVal.int .i64 0) (.inr rfl) rfl) ?_
  refine L_nil (K_seq (B_block ?_))
  refine B_clear (mk 31 2147483526) (env' := uS6n31) rfl ?_
  have hul := uq_le (l.take i)
  rw [List.length_take] at hul
  refine B_loopE (fun (k : Nat) => i - k) (fun (k : Nat) => [(5, iI (if l.getD i 0 ∈ l.take k then 0 else 1)), (6, iI (k : Nat))]) (fun (k : Nat) G => (k ≤ i) ∧ G = H ++ []) 0 rfl ?_ ?_
  ·refine ⟨?_, rfl⟩
   exact Nat.zero_le _
  rintro k _ ⟨hk, rfl⟩
  refine B_env (env' := uS6n31) rfl ?_
  refine B_seq (B_seq (B_region ?_))
  refine Lo uS6n31 (v_move (.inl rfl) rfl) ?_
  refine Lo uS6n31 (v_move (.inl rfl) rfl) ?_
  refine Lo uS6n31 (rfl) ?_
  refine L_nil (K_seq ?_)
  refine B_cond _ rfl (fun hc2 => ?_) (fun hc2 => ?_)
  ·try simp only [qB, qN] at hc2
   refine B_skip (K_seq (B_seq (B_block (B_seq ?_))))
   refine B_draw [0, 1, 2, 3, 4, 5, 6, 7, 8] #[0, 0, 3, 7, 0, 0, 48, 112, 255] (by kernel_rfl) (by kernel_rfl) (by kernel_rfl) ?_
   refine Oo uS6n31 .calm rfl (v_move (.inl rfl) rfl) ?_
   refine Oo uS6n31 .calm rfl (v_move (.inl rfl) rfl) ?_
   refine Oo uS6n31 .calm rfl (wS6n6 rfl rfl rfl rfl rfl rfl rfl) ?_
   refine Oo uS6n31 .look rfl (wS6n7 rfl rfl rfl rfl) ?_
   refine Oo uS6n31 .calm rfl (v_move (.inl rfl) rfl) ?_
   refine Oo uS6n31 .calm rfl (v_move (.inl rfl) rfl) ?_
   refine Oo uS6n31 .calm rfl (wS6n6 rfl rfl rfl rfl rfl rfl rfl) ?_
   refine Oo uS6n31 .look rfl (wS6n7 rfl rfl rfl rfl) ?_
   refine Oo uS6n31 .calm rfl (rfl) ?_
   refine O_nil [] (by kernel_rfl) (trivial) ?_
   refine K_seq ?_
   refine B_cond _ rfl (fun hc3 => ?_) (fun hc3 => ?_)
   ·try simp only [qB, qN] at hc3
    refine B_region ?_
    refine Lo uS6n31 (v_const (VVal.int .i64 0) (.inr rfl) rfl) ?_
    refine L_nil (K_blk (K_seq (B_region ?_)))
    refine Lo uS6n31 (v_move (.inl rfl) rfl) ?_
    refine Lo uS6n31 (wS6n8 rfl rfl rfl) ?_
    refine Lo uS6n31 (v_move (.inr rfl) rfl) ?_
    refine L_nil ?_
    have hs := mem_step (l := l) (k := k) (x := l.getD i 0) (by omega)
    refine K_loop (mk 31 2147483526) (env' := uS6n31) rfl ⟨k + 1, ?_, (by first | rw [if_pos (hs.2 (.inr (by assumption)))]; rfl | (by_cases hm : l.getD i 0 ∈ l.take k; (rw [if_pos hm, if_pos (hs.2 (.inl hm))]; rfl); (rw [if_neg hm, if_neg (fun e => (hs.1 e).elim hm (by assumption))]; rfl))), ?_⟩
    ·first | omega | (simp only []; omega)
    ·exact ⟨by omega, rfl⟩
   ·try simp only [qB, qN] at hc3
    refine B_skip (K_blk (K_seq (B_region ?_)))
    refine Lo uS6n31 (v_move (.inl rfl) rfl) ?_
    refine Lo uS6n31 (wS6n8 rfl rfl rfl) ?_
    refine Lo uS6n31 (v_move (.inr rfl) rfl) ?_
    refine L_nil ?_
    have hs := mem_step (l := l) (k := k) (x := l.getD i 0) (by omega)
    refine K_loop (mk 31 2147483526) (env' := uS6n31) rfl ⟨k + 1, ?_, (by first | rw [if_pos (hs.2 (.inr (by assumption)))]; rfl | (by_cases hm : l.getD i 0 ∈ l.take k; (rw [if_pos hm, if_pos (hs.2 (.inl hm))]; rfl); (rw [if_neg hm, if_neg (fun e => (hs.1 e).elim hm (by assumption))]; rfl))), ?_⟩
    ·first | omega | (simp only []; omega)
    ·exact ⟨by omega, rfl⟩
  ·try simp only [qB, qN] at hc2
   refine B_exit (K_seqX (K_loopX (K_blkX (K_seq (B_region ?_)))))
   refine Lo uS6n31 (v_move (.inl rfl) rfl) ?_
   refine Lo uS6n31 (v_move (.inl rfl) rfl) ?_
   refine Lo uS6n31 (wS6n8 rfl rfl rfl) ?_
   refine Lo uS6n31 (v_move (.inr rfl) rfl) ?_
   refine L_nil (K_blk (K_seq (B_region ?_)))
   refine Lo uS6n31 (v_move (.inl rfl) rfl) ?_
   refine Lo uS6n31 (wS6n8 rfl rfl rfl) ?_
   refine Lo uS6n31 (v_move (.inr rfl) rfl) ?_
   refine L_nil ?_
   obtain rfl : i = k := by omega
   have hu := uq_step (l := l) (k := i) (by omega)
   refine K_loop (mk 31 2147483622) (env' := uS6n31) rfl ⟨i + 1, ?_, (by rw [hu]; rfl), ?_⟩
   ·first | omega | (simp only []; omega)
   ·exact ⟨by omega, rfl⟩
 ·try simp only [qB, qN] at hc1
  refine B_exit (K_seqX (K_loopX (K_blkX (K_seq (B_seq (B_region ?_))))))
  refine Lo uS6n31 (v_move (.inl rfl) rfl) ?_
  refine Lo uS6n31 (v_move (.inr rfl) rfl) ?_
  refine L_nil (K_seq (B_ret ?_))
  refine wS6n0 (.inr rfl) (vres_tmp rfl rfl) ?_
  obtain rfl : i = l.length := by omega
  rw [List.take_of_length_le (Nat.le_refl _)]
  exact ⟨rfl, rfl⟩

theorem often_spec {x : SW} (H : VHeap) (l : List Int) (hl : l.length ≤ 1000000) : F (psys x) 78 [fzI l] H fun v G => v = iI (oft l : Nat) ∧ G = H := by
 refine F_body Try.func78 rfl uS6n35 rfl ?_
 refine B_seq (B_region ?_)
 refine Lo uS6n35 (v_const (VVal.int .i64 0) (.inr rfl) rfl) ?_
 refine L_nil (K_seq (B_seq (B_region ?_)))
 refine Lo uS6n35 (v_const (VVal.int .i64 0) (.inr rfl) rfl) ?_
 refine L_nil (K_seq (B_seq (B_seq (B_region ?_))))
 refine Lo uS6n35 (v_const (VVal.int .i64 0) (.inr rfl) rfl) ?_
 refine L_nil (K_seq (B_block ?_))
 refine B_clear (mk 35 34359738342) (env' := uS6n35) rfl ?_
 refine B_loopE (fun (i : Nat) => l.length - i) (fun (i : Nat) => [(3, iI (oftK l i : Nat)), (4, iI (i : Nat))]) (fun (i : Nat) G => (i ≤ l.length) ∧ G = H ++ []) 0 rfl ?_ ?_
 ·refine ⟨?_, rfl⟩
  exact Nat.zero_le _
 rintro i _ ⟨hi, rfl⟩
 refine B_env (env' := uS6n35) rfl ?_
 refine B_seq (B_seq (B_region ?_))
 refine Lo uS6n35 (v_move (.inl rfl) rfl) ?_
 refine Lo uS6n35 (v_move (.inl rfl) rfl) ?_
 refine Lo uS6n35 (rfl) ?_
 refine Lo uS6n35 (rfl) ?_
 refine L_nil (K_seq ?_)
 refine B_cond _ rfl (fun hc1 => ?_) (fun hc1 => ?_)
 ·try simp only [qB, qN] at hc1
  refine B_skip (K_seq (B_seq (B_block (B_seq (B_region ?_)))))
  refine Lo uS6n35 (v_const (VVal.int .i64 0) (.inr rfl) rfl) ?_
  refine L_nil (K_seq (B_seq (B_seq (B_region ?_))))
  refine Lo uS6n35 (v_const (VVal.int .i64 0) (.inr rfl) rfl) ?_
  refine L_nil (K_seq (B_block ?_))
  refine B_clear (mk 35 34359738246) (env' := uS6n35) rfl ?_
  refine B_loopE (fun (k : Nat) => l.length - k) (fun (k : Nat) => [(5, iI ((l.take k).count (l.getD i 0) : Nat)), (6, iI (k : Nat))]) (fun (k : Nat) G => (k ≤ l.length) ∧ G = H ++ []) 0 rfl ?_ ?_
  ·refine ⟨?_, rfl⟩
   exact Nat.zero_le _
  rintro k _ ⟨hk, rfl⟩
  refine B_env (env' := uS6n35) rfl ?_
  refine B_seq (B_seq (B_region ?_))
  refine Lo uS6n35 (v_move (.inl rfl) rfl) ?_
  refine Lo uS6n35 (v_move (.inl rfl) rfl) ?_
  refine Lo uS6n35 (rfl) ?_
  refine Lo uS6n35 (rfl) ?_
  refine L_nil (K_seq ?_)
  refine B_cond _ rfl (fun hc2 => ?_) (fun hc2 => ?_)
  ·try simp only [qB, qN] at hc2
   refine B_skip (K_seq (B_seq (B_block (B_seq ?_))))
   refine B_draw [0, 1, 2, 3, 4, 5, 6, 7, 8] #[0, 0, 3, 7, 0, 0, 48, 112, 255] (by kernel_rfl) (by kernel_rfl) (by kernel_rfl) ?_
   refine Oo uS6n35 .calm rfl (v_move (.inl rfl) rfl) ?_
   refine Oo uS6n35 .calm rfl (v_move (.inl rfl) rfl) ?_
   refine Oo uS6n35 .calm rfl (wS6n3 rfl rfl rfl rfl rfl rfl rfl) ?_
   refine Oo uS6n35 .look rfl (wS6n7 rfl rfl rfl rfl) ?_
   refine Oo uS6n35 .calm rfl (v_move (.inl rfl) rfl) ?_
   refine Oo uS6n35 .calm rfl (v_move (.inl rfl) rfl) ?_
   refine Oo uS6n35 .calm rfl (wS6n3 rfl rfl rfl rfl rfl rfl rfl) ?_
   refine Oo uS6n35 .look rfl (wS6n7 rfl rfl rfl rfl) ?_
   refine Oo uS6n35 .calm rfl (rfl) ?_
   refine O_nil [] (by kernel_rfl) (trivial) ?_
   refine K_seq ?_
   refine B_cond _ rfl (fun hc3 => ?_) (fun hc3 => ?_)
   ·try simp only [qB, qN] at hc3
    have hcl := cnt_le (l := l) (k := k) (x := l.getD i 0)
    refine B_region ?_
    refine Lo uS6n35 (v_move (.inl rfl) rfl) ?_
    refine Lo uS6n35 (wS6n5 rfl rfl rfl) ?_
    refine Lo uS6n35 (v_move (.inr rfl) rfl) ?_
    refine L_nil (K_blk (K_seq (B_region ?_)))
    refine Lo uS6n35 (v_move (.inl rfl) rfl) ?_
    refine Lo uS6n35 (wS6n5 rfl rfl rfl) ?_
    refine Lo uS6n35 (v_move (.inr rfl) rfl) ?_
    refine L_nil ?_
    have hs := cnt_step (l := l) (k := k) (x := l.getD i 0) (by omega)
    have hcl := cnt_le (l := l) (k := k) (x := l.getD i 0)
    refine K_loop (mk 35 34359738246) (env' := uS6n35) rfl ⟨k + 1, ?_, (by rw [hs]; first | rw [if_pos (by assumption)]; rfl | rw [if_neg (by assumption)]; rfl), ?_⟩
    ·first | omega | (simp only []; omega)
    ·exact ⟨by omega, rfl⟩
   ·try simp only [qB, qN] at hc3
    refine B_skip (K_blk (K_seq (B_region ?_)))
    refine Lo uS6n35 (v_move (.inl rfl) rfl) ?_
    refine Lo uS6n35 (wS6n5 rfl rfl rfl) ?_
    refine Lo uS6n35 (v_move (.inr rfl) rfl) ?_
    refine L_nil ?_
    have hs := cnt_step (l := l) (k := k) (x := l.getD i 0) (by omega)
    have hcl := cnt_le (l := l) (k := k) (x := l.getD i 0)
    refine K_loop (mk 35 34359738246) (env' := uS6n35) rfl ⟨k + 1, ?_, (by rw [hs]; first | rw [if_pos (by assumption)]; rfl | rw [if_neg (by assumption)]; rfl), ?_⟩
    ·first | omega | (simp only []; omega)
    ·exact ⟨by omega, rfl⟩
  ·try simp only [qB, qN] at hc2
   refine B_exit (K_seqX (K_loopX (K_blkX (K_seq (B_seq (B_region ?_))))))
   refine Lo uS6n35 (v_move (.inl rfl) rfl) ?_
   refine Lo uS6n35 (v_move (.inl rfl) rfl) ?_
   refine Lo uS6n35 (rfl) ?_
   refine L_nil (K_seq ?_)
   refine B_cond _ rfl (fun hc4 => ?_) (fun hc4 => ?_)
   ·try simp only [qB, qN] at hc4
    refine B_region ?_
    refine Lo uS6n35 (v_move (.inl rfl) rfl) ?_
    refine Lo uS6n35 (v_move (.inr rfl) rfl) ?_
    refine L_nil (K_blk (K_seq (B_region ?_)))
    refine Lo uS6n35 (v_move (.inl rfl) rfl) ?_
    refine Lo uS6n35 (wS6n5 rfl rfl rfl) ?_
    refine Lo uS6n35 (v_move (.inr rfl) rfl) ?_
    refine L_nil ?_
    obtain rfl : k = l.length := by omega
    have hu := oftK_step (l := l) (k := i) (by omega)
    rw [List.take_of_length_le (Nat.le_refl _)] at *
    refine K_loop (mk 35 34359738342) (env' := uS6n35) rfl ⟨i + 1, ?_, (by rw [hu]; first | (rw [Nat.max_eq_right (by omega)]; rfl) | (rw [Nat.max_eq_left (by omega)]; rfl)), ?_⟩
    ·first | omega | (simp only []; omega)
    ·exact ⟨by omega, rfl⟩
   ·try simp only [qB, qN] at hc4
    refine B_skip (K_blk (K_seq (B_region ?_)))
    refine Lo uS6n35 (v_move (.inl rfl) rfl) ?_
    refine Lo uS6n35 (wS6n5 rfl rfl rfl) ?_
    refine Lo uS6n35 (v_move (.inr rfl) rfl) ?_
    refine L_nil ?_
    obtain rfl : k = l.length := by omega
    have hu := oftK_step (l := l) (k := i) (by omega)
    rw [List.take_of_length_le (Nat.le_refl _)] at *
    refine K_loop (mk 35 34359738342) (env' := uS6n35) rfl ⟨i + 1, ?_, (by rw [hu]; first | (rw [Nat.max_eq_right (by omega)]; rfl) | (rw [Nat.max_eq_left (by omega)]; rfl)), ?_⟩
    ·first | omega | (simp only []; omega)
    ·exact ⟨by omega, rfl⟩
 ·try simp only [qB, qN] at hc1
  refine B_exit (K_seqX (K_loopX (K_blkX (K_seq (B_seq (B_region ?_))))))
  refine Lo uS6n35 (v_move (.inl rfl) rfl) ?_
  refine Lo uS6n35 (v_move (.inr rfl) rfl) ?_
  refine L_nil (K_seq (B_ret ?_))
  refine wS6n0 (.inr rfl) (vres_tmp rfl rfl) ?_
  rw [oftK_all (by omega)]
  exact ⟨rfl, rfl⟩

theorem dec_d {p q : Prop} [Decidable p] [Decidable q] (h : p ↔ q) : VVal.bool (decide p) = .bool (decide q) := congrArg VVal.bool (decide_eq_decide.2 h)
theorem kp1 {r : Rul} {L : List Int} {f : Nat} (h : r.kind = 1) : kp r L f = decide (oft L ≤ 1) := if_pos h
theorem kp2 {r : Rul} {L : List Int} {f : Nat} (h : r.kind = 2) : kp r L f = decide (uq L ≤ 1) := by unfold kp; rw [if_neg (by omega), if_pos h]
theorem kp3 {r : Rul} {L : List Int} {f : Nat} (h : r.kind = 3) : kp r L f = decide ((oft L : Int) ≤ r.k) := by unfold kp; rw [if_neg (by omega), if_neg (by omega), if_pos h]
theorem kp4 {r : Rul} {L : List Int} {f : Nat} (h : r.kind = 4) : kp r L f = decide ((uq L : Int) ≤ r.k) := by unfold kp; rw [if_neg (by omega), if_neg (by omega), if_neg (by omega), if_pos h]
theorem kp5 {r : Rul} {L : List Int} {f : Nat} (h1 : ¬ r.kind = 1) (h2 : ¬ r.kind = 2) (h3 : ¬ r.kind = 3) (h4 : ¬ r.kind = 4) : kp r L f = decide (r.k ≤ uq L + f) := by unfold kp; rw [if_neg h1, if_neg h2, if_neg h3, if_neg h4]
theorem beq_d (a b : Int) : (a == b) = decide (a = b) := by rw [Bool.eq_iff_iff, beq_iff_eq, decide_eq_true_eq]

theorem fkeeps_spec {x : SW} (H : VHeap) (r : Rul) (l : List Int) (f : Nat) (hl : l.length ≤ 1000000) (hf : f ≤ 1000000) : F (psys x) 76 [.agg (rlB r), fzI l, iI (f : Nat)] H fun v G => v = .bool (kp r l f) ∧ G = H := by
 have h9 := uq_le l
 refine F_body Try.func76 rfl uS6n42 rfl ?_
 refine B_seq (B_region ?_)
 refine Lo uS6n42 (v_boxT rfl rfl rfl) ?_
 refine Lo uS6n42 (v_const (VVal.bool false) (.inr rfl) rfl) ?_
 refine L_nil (K_seq (B_seq (B_seq (B_region ?_))))
 refine Lo uS6n42 (rfl) ?_
 refine Lo uS6n42 (wS6n9 rfl rfl rfl rfl) ?_
 refine L_nil (K_seq (B_block (B_seq (B_region ?_))))
 refine Lo uS6n42 (rfl) ?_
 refine Lo uS6n42 (v_move (.inr rfl) rfl) ?_
 refine L_nil (K_seq ?_)
 refine B_cond _ rfl (fun hc1 => ?_) (fun hc1 => ?_)
 ·try simp only [qB] at hc1
  refine B_seq (B_region ?_)
  refine Lo uS6n42 (v_move (.inl rfl) rfl) ?_
  refine L_call rfl rfl rfl (by exact unlike_spec _ _ (by omega)) ?_
  rintro _ _ ⟨rfl, rfl⟩
  refine Le uS6n42 ?_
  refine Lo uS6n42 (v_move (.inl rfl) rfl) ?_
  refine Lo uS6n42 (rfl) ?_
  refine Lo uS6n42 (rfl) ?_
  refine Lo uS6n42 (v_move (.inr rfl) rfl) ?_
  refine L_nil (K_seq (B_ret (K_blkR (K_seqR ?_))))
  refine wS6n0 (.inr rfl) (vres_tmp rfl rfl) ?_
  exact wS6n10
 ·try simp only [qB] at hc1
  refine B_seq (B_region ?_)
  refine Lo uS6n42 (rfl) ?_
  refine Lo uS6n42 (v_move (.inr rfl) rfl) ?_
  refine L_nil (K_seq ?_)
  refine B_cond _ rfl (fun hc2 => ?_) (fun hc2 => ?_)
  ·try simp only [qB] at hc2
   refine B_seq (B_region ?_)
   refine Lo uS6n42 (v_move (.inl rfl) rfl) ?_
   refine L_call rfl rfl rfl (by exact unlike_spec _ _ (by omega)) ?_
   rintro _ _ ⟨rfl, rfl⟩
   refine Le uS6n42 ?_
   refine Lo uS6n42 (rfl) ?_
   refine Lo uS6n42 (v_move (.inr rfl) rfl) ?_
   refine L_nil (K_seq (B_ret (K_blkR (K_seqR ?_))))
   refine wS6n0 (.inr rfl) (vres_tmp rfl rfl) ?_
   exact wS6n10
  ·try simp only [qB] at hc2
   refine B_seq (B_region ?_)
   refine Lo uS6n42 (rfl) ?_
   refine Lo uS6n42 (v_move (.inr rfl) rfl) ?_
   refine L_nil (K_seq ?_)
   refine B_cond _ rfl (fun hc3 => ?_) (fun hc3 => ?_)
   ·try simp only [qB] at hc3
    refine B_seq ?_
    refine B_draw [0, 2, 3, 1, 4, 5] #[0, 1, 0, 4, 15, 31] (by kernel_rfl) (by kernel_rfl) (by kernel_rfl) ?_
    refine Oo uS6n42 .calm rfl (v_move (.inl rfl) rfl) ?_
    refine Oo uS6n42 .calm rfl (rfl) ?_
    refine O_opI (env' := uS6n42) (x := .look _ _) rfl rfl rfl (wS6n9 rfl rfl rfl rfl) rfl rfl rfl ?_
    refine O_call (env' := uS6n42) rfl rfl rfl rfl rfl (by exact often_spec _ _ (by omega)) (by first | exact Nat.le_refl _ | simp) rfl rfl ?_
    refine Oo uS6n42 .calm rfl (rfl) ?_
    refine Oo uS6n42 .calm rfl (v_move (.inr rfl) rfl) ?_
    refine O_nil [_] (by rfl) (And.intro (And.intro (wS6n9 rfl rfl rfl rfl) (wS6n9 rfl rfl rfl rfl)) trivial) ?_
    refine K_seq (B_ret (K_blkR (K_seqR ?_)))
    refine wS6n0 (.inr rfl) (vres_tmp rfl rfl) ?_
    exact wS6n10
   ·try simp only [qB] at hc3
    refine B_seq (B_region ?_)
    refine Lo uS6n42 (rfl) ?_
    refine Lo uS6n42 (v_move (.inr rfl) rfl) ?_
    refine L_nil (K_seq ?_)
    refine B_cond _ rfl (fun hc4 => ?_) (fun hc4 => ?_)
    ·try simp only [qB] at hc4
     refine B_seq ?_
     refine B_draw [0, 2, 3, 1, 4, 5] #[0, 1, 0, 4, 15, 31] (by kernel_rfl) (by kernel_rfl) (by kernel_rfl) ?_
     refine Oo uS6n42 .calm rfl (v_move (.inl rfl) rfl) ?_
     refine Oo uS6n42 .calm rfl (rfl) ?_
     refine O_opI (env' := uS6n42) (x := .look _ _) rfl rfl rfl (wS6n9 rfl rfl rfl rfl) rfl rfl rfl ?_
     refine O_call (env' := uS6n42) rfl rfl rfl rfl rfl (by exact unlike_spec _ _ (by omega)) (by first | exact Nat.le_refl _ | simp) rfl rfl ?_
     refine Oo uS6n42 .calm rfl (rfl) ?_
     refine Oo uS6n42 .calm rfl (v_move (.inr rfl) rfl) ?_
     refine O_nil [_] (by rfl) (And.intro (And.intro (wS6n9 rfl rfl rfl rfl) (wS6n9 rfl rfl rfl rfl)) trivial) ?_
     refine K_seq (B_ret (K_blkR (K_seqR ?_)))
     refine wS6n0 (.inr rfl) (vres_tmp rfl rfl) ?_
     exact wS6n10
    ·try simp only [qB] at hc4
     refine B_skip (K_blk (K_seq (B_seq ?_)))
     refine B_draw [0, 2, 4, 5, 1, 3, 6, 7] #[0, 1, 0, 7, 0, 16, 63, 127] (by kernel_rfl) (by kernel_rfl) (by kernel_rfl) ?_
     refine Oo uS6n42 .calm rfl (v_move (.inl rfl) rfl) ?_
     refine Oo uS6n42 .calm rfl (v_move (.inl rfl) rfl) ?_
     refine Oo uS6n42 .calm rfl (rfl) ?_
     refine O_opI (env' := uS6n42) (x := .look _ _) rfl rfl rfl (wS6n9 rfl rfl rfl rfl) rfl rfl rfl ?_
     refine O_call (env' := uS6n42) rfl rfl rfl rfl rfl (by exact unlike_spec _ _ (by omega)) (by first | exact Nat.le_refl _ | simp) rfl rfl ?_
     refine Oo uS6n42 .calm rfl (wS6n5 rfl rfl rfl) ?_
     refine Oo uS6n42 .calm rfl (rfl) ?_
     refine Oo uS6n42 .calm rfl (v_move (.inr rfl) rfl) ?_
     refine O_nil [_] (by rfl) (And.intro (And.intro (wS6n9 rfl rfl rfl rfl) (wS6n9 rfl rfl rfl rfl)) trivial) ?_
     refine K_seq (B_ret ?_)
     refine wS6n0 (.inr rfl) (vres_tmp rfl rfl) ?_
     exact wS6n10

theorem fEarly_spec {x : SW} (H : VHeap) (r : Rul) (n : Int) (l : List Int) (hl : r.steps.length ≤ 1000000) : F (psys x) 68 [.agg (rlB r), iI n, fzI l] H fun v G => v = .bool (erl r n l) ∧ G = H := by
 refine F_body Try.func68 rfl uS6n52 rfl ?_
 refine B_seq (B_region ?_)
 refine Lo uS6n52 (v_boxT rfl rfl rfl) ?_
 refine Lo uS6n52 (v_const (VVal.bool false) (.inr rfl) rfl) ?_
 refine L_nil (K_seq (B_seq (B_seq (B_region ?_))))
 refine Lo uS6n52 (v_move (.inl rfl) rfl) ?_
 refine Lo uS6n52 (wS6n11 rfl rfl rfl rfl rfl) ?_
 refine L_call rfl rfl rfl (by exact fCheck_spec _ _ _ (by omega)) ?_
 rintro _ _ ⟨rfl, rfl⟩
 refine Le uS6n52 ?_
 refine Lo uS6n52 (rfl) ?_
 refine Lo uS6n52 (v_move (.inl rfl) rfl) ?_
 refine L_split 14 (env1 := uS6n52) (env2 := uS6n52) rfl rfl rfl (fun hg1 => ?_) (fun hg1 => ?_)
 ·try simp only [qB, qN] at hg1
  refine Lf uS6n52 ?_
  refine Lf uS6n52 ?_
  refine Lf uS6n52 ?_
  refine Lf uS6n52 ?_
  refine Lo uS6n52 (v_pickTC (VVal.bool true) rfl rfl rfl) ?_
  refine L_nil (K_seq ?_)
  refine B_true rfl rfl ?_
  refine B_seq (B_region ?_)
  refine Lo uS6n52 (v_const (VVal.bool false) (.inr rfl) rfl) ?_
  refine L_nil (K_seq (B_ret (K_seqR ?_)))
  refine wS6n0 (.inr rfl) (vres_tmp rfl rfl) ?_
  exact wS6n12
 ·try simp only [qB, qN] at hg1
  refine Lo uS6n52 (v_move (.inl rfl) rfl) ?_
  refine Lo uS6n52 (rfl) ?_
  refine Lo uS6n52 (v_move (.inl rfl) rfl) ?_
  refine Lo uS6n52 (rfl) ?_
  refine Lo uS6n52 (v_pickF rfl rfl rfl) ?_
  refine L_nil (K_seq ?_)
  refine B_cond _ rfl (fun hc2 => ?_) (fun hc2 => ?_)
  ·try simp only [qB, qN] at hc2
   refine B_seq (B_region ?_)
   refine Lo uS6n52 (v_const (VVal.bool false) (.inr rfl) rfl) ?_
   refine L_nil (K_seq (B_ret (K_seqR ?_)))
   refine wS6n0 (.inr rfl) (vres_tmp rfl rfl) ?_
   exact wS6n12
  ·try simp only [qB, qN] at hc2
   refine B_skip (K_seq (B_seq ?_))
   have hck : rck n r = true := by assumption
   have hpos := rck_pos hck
   refine B_region ?_
   refine Lo uS6n52 (v_const (VVal.slice none 0 0 true 0) (.inr rfl) rfl) ?_
   refine L_nil (K_seq (B_seq (B_region ?_)))
   refine Lo uS6n52 (v_const (VVal.int .i64 0) (.inr rfl) rfl) ?_
   refine L_nil (K_seq (B_seq (B_seq (B_region ?_))))
   refine Lo uS6n52 (v_const (VVal.int .i64 0) (.inr rfl) rfl) ?_
   refine L_nil (K_seq (B_block ?_))
   refine B_clear (mk 52 4503599627369587) (env' := uS6n52) rfl ?_
   refine B_loopE (fun (⟨k, lv⟩ : Nat × VVal) => r.steps.length - k) (fun (⟨k, lv⟩ : Nat × VVal) => [(7, lv), (8, iI (lfK r l k : Nat)), (9, iI (k : Nat))]) (fun (⟨k, lv⟩ : Nat × VVal) G => (k ≤ r.steps.length) ∧ ∃ X, G = (H ++ [VBlk.cells (rlB r) true]) ++ X ∧ LV (H ++ [VBlk.cells (rlB r) true]).length 1 X lv ((lbK r l k).map iI) (lbK r l k).length) ⟨0, _⟩ rfl ?_ ?_
   ·refine ⟨?_, ⟨[], (by simp), LV.nil _ _ _⟩⟩
    exact Nat.zero_le _
   rintro ⟨k, lv⟩ _ ⟨hk, ⟨X, rfl, hl2⟩⟩
   refine B_env (env' := uS6n52) rfl ?_
   refine B_seq (B_seq (B_region ?_))
   refine Lo uS6n52 (v_move (.inl rfl) rfl) ?_
   refine Lo uS6n52 (rfl) ?_
   refine Lo uS6n52 (wS6n13 rfl rfl rfl rfl) ?_
   refine Lo uS6n52 (rfl) ?_
   refine Lo uS6n52 (rfl) ?_
   refine L_nil (K_seq ?_)
   refine B_cond _ rfl (fun hc3 => ?_) (fun hc3 => ?_)
   ·try simp only [qB, qN] at hc3
    refine B_skip (K_seq (B_seq (B_block (B_seq (B_region ?_)))))
    refine Lo uS6n52 (rfl) ?_
    refine Lo uS6n52 (wS6n13 rfl rfl rfl rfl) ?_
    refine Lo uS6n52 (v_move (.inl rfl) rfl) ?_
    refine Lo uS6n52 (wS6n3 rfl rfl rfl rfl rfl rfl rfl) ?_
    refine Lo uS6n52 (wS6n13 rfl rfl rfl rfl) ?_
    refine Lo uS6n52 (v_move (.inl rfl) rfl) ?_
    refine Lo uS6n52 (rfl) ?_
    refine Lo uS6n52 (rfl) ?_
    refine L_nil (K_seq ?_)
    refine B_cond _ rfl (fun hc4 => ?_) (fun hc4 => ?_)
    ·try simp only [qB, qN] at hc4
     have hlk := lbK_len (r := r) (l := l) hk
     have hps : 0 ≤ r.steps.getD k 0 := hpos _ (mem_getI (by omega))
     have hE := lbK_lt (r := r) (l := l) (k := k) (by omega) (by omega)
     refine B_region ?_
     refine Lo uS6n52 (v_move (.inl rfl) rfl) ?_
     refine Lo uS6n52 (v_move (.inl rfl) rfl) ?_
     refine Lo uS6n52 (rfl) ?_
     refine Lo uS6n52 (wS6n13 rfl rfl rfl rfl) ?_
     refine Lo uS6n52 (v_move (.inl rfl) rfl) ?_
     refine Lo uS6n52 (wS6n3 rfl rfl rfl rfl rfl rfl rfl) ?_
     refine Lo uS6n52 (wS6n13 rfl rfl rfl rfl) ?_
     refine Lo uS6n52 (wS6n3 rfl rfl rfl rfl rfl rfl rfl) ?_
     refine Lo uS6n52 (wS6n13 rfl rfl rfl rfl) ?_
     refine Lo uS6n52 (v_buildSlice rfl rfl (by decide) rfl) ?_
     refine L_opX rfl rfl (v_appX rfl rfl rfl rfl rfl rfl rfl hl2 rfl rfl (by decide) (by show (_ + 1) * 8 ≤ _ ∧ _ + 1 ≤ _; omega) (by decide)) ?_
     rintro _ _ ⟨Y1, rfl, rfl, hY1, hY2, hY3⟩
     refine Le uS6n52 ?_
     refine Lo uS6n52 (v_move (.inr rfl) rfl) ?_
     refine L_nil (K_blk (K_seq (B_region ?_)))
     refine Lo uS6n52 (v_move (.inl rfl) rfl) ?_
     refine Lo uS6n52 (wS6n5 rfl rfl rfl) ?_
     refine Lo uS6n52 (v_move (.inr rfl) rfl) ?_
     refine L_nil ?_
     first | rw [show ((lfK r l k : Nat) : Int) + 1 = (lfK r l (k + 1) : Nat) by rw [hE.2]; rfl] | rw [← hE.2]
     refine K_loop (mk 52 4503599627369587) (env' := uS6n52) rfl ⟨⟨k + 1, _⟩, ?_, rfl, ?_⟩
     ·first | omega | (simp only []; omega)
     ·first | exact ⟨by omega, _, rfl, by rw [hE.1]; exact hl2⟩ | exact ⟨by omega, _, rfl, by rw [hE.1]; exact LV.pushI hY3⟩
    ·try simp only [qB, qN] at hc4
     have hlk := lbK_len (r := r) (l := l) hk
     have hE := lbK_ge (r := r) (l := l) (k := k) (by omega) (by omega)
     refine B_region ?_
     refine Lo uS6n52 (v_move (.inl rfl) rfl) ?_
     refine Lo uS6n52 (wS6n5 rfl rfl rfl) ?_
     refine Lo uS6n52 (v_move (.inr rfl) rfl) ?_
     refine L_nil (K_blk (K_seq (B_region ?_)))
     refine Lo uS6n52 (v_move (.inl rfl) rfl) ?_
     refine Lo uS6n52 (wS6n5 rfl rfl rfl) ?_
     refine Lo uS6n52 (v_move (.inr rfl) rfl) ?_
     refine L_nil ?_
     first | rw [show ((lfK r l k : Nat) : Int) + 1 = (lfK r l (k + 1) : Nat) by rw [hE.2]; rfl] | rw [← hE.2]
     refine K_loop (mk 52 4503599627369587) (env' := uS6n52) rfl ⟨⟨k + 1, _⟩, ?_, rfl, ?_⟩
     ·first | omega | (simp only []; omega)
     ·first | exact ⟨by omega, _, rfl, by rw [hE.1]; exact hl2⟩ | exact ⟨by omega, _, rfl, by rw [hE.1]; exact LV.pushI hY3⟩
   ·try simp only [qB, qN] at hc3
    refine B_exit (K_seqX (K_loopX (K_blkX (K_seq (B_seq ?_)))))
    have hlk := lbK_len (r := r) (l := l) hk
    have hA := lbK_all (r := r) (l := l) (k := k) (by omega)
    refine B_ghLV (env' := uS6n52) 7 hl2 rfl rfl fun X2 hX2 _ => ?_
    refine B_heap (List.append_assoc _ _ _) ?_
    refine B_region ?_
    refine Lo uS6n52 (wS6n11 rfl rfl rfl rfl rfl) ?_
    refine Lo uS6n52 (v_move (.inl rfl) rfl) ?_
    refine Lo uS6n52 (v_move (.inl rfl) rfl) ?_
    refine L_call rfl rfl rfl (by exact fkeeps_spec _ r (lbK r l k) (lfK r l k) (by omega) (by omega)) ?_
    rintro _ _ ⟨rfl, rfl⟩
    refine Le uS6n52 ?_
    refine Lo uS6n52 (v_move (.inr rfl) rfl) ?_
    refine L_nil (K_seq (B_ret ?_))
    refine wS6n0 (.inr rfl) (vres_tmp rfl rfl) ?_
    exact wS6n12

theorem fHolds_spec {x : SW} (H : VHeap) (r : Rul) (l : List Int) (hl : r.steps.length ≤ 1000000) : F (psys x) 57 [.agg (rlB r), fzI l] H fun v G => v = .bool (hld r l) ∧ G = H := by
 refine F_body Try.func57 rfl uS6n16 rfl ?_
 refine B_seq (B_region ?_)
 refine Lo uS6n16 (v_boxT rfl rfl rfl) ?_
 refine Lo uS6n16 (v_const (VVal.bool false) (.inr rfl) rfl) ?_
 refine L_nil (K_seq (B_seq (B_region ?_)))
 refine Lo uS6n16 (v_move (.inl rfl) rfl) ?_
 refine Lo uS6n16 (rfl) ?_
 refine Lo uS6n16 (wS6n14 rfl rfl rfl rfl rfl) ?_
 refine L_call rfl rfl rfl (by exact fCheck_spec _ _ _ (by omega)) ?_
 rintro _ _ ⟨rfl, rfl⟩
 refine Le uS6n16 ?_
 refine Lo uS6n16 (v_move (.inl rfl) rfl) ?_
 refine L_split 9 (env1 := uS6n16) (env2 := uS6n16) rfl rfl rfl (fun hg1 => ?_) (fun hg1 => ?_)
 ·try simp only [qB] at hg1
  refine Lo uS6n16 (wS6n14 rfl rfl rfl rfl rfl) ?_
  refine Lo uS6n16 (v_move (.inl rfl) rfl) ?_
  refine Lo uS6n16 (rfl) ?_
  refine Lo uS6n16 (v_move (.inl rfl) rfl) ?_
  refine L_call rfl rfl rfl (by exact fEarly_spec _ _ _ _ (by omega)) ?_
  rintro _ _ ⟨rfl, rfl⟩
  refine Le uS6n16 ?_
  refine Lo uS6n16 (v_pickT rfl rfl rfl) ?_
  refine Lo uS6n16 (v_move (.inr rfl) rfl) ?_
  refine L_nil (K_seq (B_ret ?_))
  refine wS6n0 (.inr rfl) (vres_tmp rfl rfl) ?_
  exact wS6n15
 ·try simp only [qB] at hg1
  refine Lf uS6n16 ?_
  refine Lf uS6n16 ?_
  refine Lf uS6n16 ?_
  refine Lf uS6n16 ?_
  refine Lf uS6n16 ?_
  refine Lo uS6n16 (v_pickFC (VVal.bool false) rfl rfl rfl) ?_
  refine Lo uS6n16 (v_move (.inr rfl) rfl) ?_
  refine L_nil (K_seq (B_ret ?_))
  refine wS6n0 (.inr rfl) (vres_tmp rfl rfl) ?_
  exact wS6n15

theorem fBroken_spec {x : SW} (H : VHeap) (rs : List Rul) (l : List Int) (hR : ∀ r, r ∈ rs → r.steps.length ≤ 1000000) (hn : rs.length ≤ 1000000) : F (psys x) 36 [fzR rs, fzI l] H fun v G => v = fzI (brk rs l) ∧ G = H := by
 refine F_body Try.func36 rfl uS6n25 rfl ?_
 refine B_seq (B_region ?_)
 refine Lo uS6n25 (v_const (VVal.slice none 0 0 true 0) (.inr rfl) rfl) ?_
 refine L_nil (K_seq (B_seq (B_region ?_)))
 refine Lo uS6n25 (v_const (VVal.slice none 0 0 true 0) (.inr rfl) rfl) ?_
 refine L_nil (K_seq (B_seq (B_seq (B_region ?_))))
 refine Lo uS6n25 (v_const (VVal.int .i64 0) (.inr rfl) rfl) ?_
 refine L_nil (K_seq (B_block ?_))
 refine B_clear (mk 25 33554332) (env' := uS6n25) rfl ?_
 refine B_loopE (fun (⟨k, lv⟩ : Nat × VVal) => rs.length - k) (fun (⟨k, lv⟩ : Nat × VVal) => [(5, lv), (6, iI (k : Nat))]) (fun (⟨k, lv⟩ : Nat × VVal) G => (k ≤ rs.length) ∧ ∃ X, G = H ++ X ∧ LV H.length 1 X lv ((brk (rs.take k) l).map iI) (brk (rs.take k) l).length) ⟨0, _⟩ rfl ?_ ?_
 ·refine ⟨?_, ⟨_, rfl, LV.nil _ _ _⟩⟩
  exact Nat.zero_le _
 rintro ⟨k, lv⟩ _ ⟨hk, ⟨X, rfl, hl⟩⟩
 refine B_env (env' := uS6n25) rfl ?_
 refine B_seq (B_seq (B_region ?_))
 refine Lo uS6n25 (v_move (.inl rfl) rfl) ?_
 refine Lo uS6n25 (v_move (.inl rfl) rfl) ?_
 refine Lo uS6n25 (rfl) ?_
 refine Lo uS6n25 (rfl) ?_
 refine L_nil (K_seq ?_)
 refine B_cond _ rfl (fun hc1 => ?_) (fun hc1 => ?_)
 ·try simp only [qB, qN] at hc1
  refine B_skip (K_seq (B_seq (B_block (B_seq (B_region ?_)))))
  refine Lo uS6n25 (v_move (.inl rfl) rfl) ?_
  refine Lo uS6n25 (v_move (.inl rfl) rfl) ?_
  refine Lo uS6n25 (wS6n3 rfl rfl rfl rfl rfl rfl rfl) ?_
  refine Lo uS6n25 (wS6n16 rfl rfl rfl rfl rfl) ?_
  refine Lo uS6n25 (v_move (.inl rfl) rfl) ?_
  refine L_call rfl rfl rfl (by exact fHolds_spec _ _ _ (hR _ (rul_mem (by omega)))) ?_
  rintro _ _ ⟨rfl, rfl⟩
  refine Le uS6n25 ?_
  refine Lo uS6n25 (rfl) ?_
  refine L_nil (K_seq ?_)
  refine B_cond _ rfl (fun hc2 => ?_) (fun hc2 => ?_)
  ·try simp only [qB, qN] at hc2
   refine B_region ?_
   refine Lo uS6n25 (v_move (.inl rfl) rfl) ?_
   refine Lo uS6n25 (v_move (.inl rfl) rfl) ?_
   refine Lo uS6n25 (v_buildSlice rfl rfl (by decide) rfl) ?_
   refine L_opX rfl rfl (v_appX rfl rfl rfl rfl rfl rfl rfl hl rfl rfl (by decide) (by have := brk_lenK (rs := rs) (l := l) (k := k); show (_ + 1) * 8 ≤ _ ∧ _ + 1 ≤ _; omega) (by decide)) ?_
   rintro _ _ ⟨Y1, rfl, rfl, hY1, hY2, hY3⟩
   refine Le uS6n25 ?_
   refine Lo uS6n25 (v_move (.inr rfl) rfl) ?_
   refine L_nil (K_blk (K_seq (B_region ?_)))
   refine Lo uS6n25 (v_move (.inl rfl) rfl) ?_
   refine Lo uS6n25 (wS6n5 rfl rfl rfl) ?_
   refine Lo uS6n25 (v_move (.inr rfl) rfl) ?_
   refine L_nil ?_
   refine K_loop (mk 25 33554332) (env' := uS6n25) rfl ⟨⟨k + 1, _⟩, ?_, rfl, ?_⟩
   ·first | omega | (simp only []; omega)
   ·first | exact ⟨by omega, _, rfl, by rw [brk_yes (by omega) (by simpa using ‹_›)]; exact LV.app hl _⟩ | exact ⟨by omega, _, rfl, by rw [brk_yes (by omega) (by simpa using ‹_›)]; exact hl⟩ | exact ⟨by omega, _, rfl, by rw [brk_no (by omega) (by simpa using ‹_›)]; exact LV.pushI hY3⟩
  ·try simp only [qB, qN] at hc2
   refine B_skip (K_blk (K_seq (B_region ?_)))
   refine Lo uS6n25 (v_move (.inl rfl) rfl) ?_
   refine Lo uS6n25 (wS6n5 rfl rfl rfl) ?_
   refine Lo uS6n25 (v_move (.inr rfl) rfl) ?_
   refine L_nil ?_
   refine K_loop (mk 25 33554332) (env' := uS6n25) rfl ⟨⟨k + 1, _⟩, ?_, rfl, ?_⟩
   ·first | omega | (simp only []; omega)
   ·first | exact ⟨by omega, _, rfl, by rw [brk_yes (by omega) (by simpa using ‹_›)]; exact LV.app hl _⟩ | exact ⟨by omega, _, rfl, by rw [brk_yes (by omega) (by simpa using ‹_›)]; exact hl⟩ | exact ⟨by omega, _, rfl, by rw [brk_no (by omega) (by simpa using ‹_›)]; exact LV.pushI hY3⟩
 ·try simp only [qB, qN] at hc1
  refine B_exit (K_seqX (K_loopX (K_blkX (K_seq (B_seq (B_region ?_))))))
  refine Lo uS6n25 (v_move (.inl rfl) rfl) ?_
  refine Lo uS6n25 (v_move (.inr rfl) rfl) ?_
  refine L_nil (K_seq (B_ret ?_))
  refine E_gh (.inr rfl) (vres_tmp rfl rfl) (Gh.ansLV (BaseOk.refl _) hl (mapI_under _ _)) ?_
  obtain rfl : k = rs.length := by omega
  rw [List.take_of_length_le (Nat.le_refl _)]
  exact ⟨rfl, rfl⟩
end Go.Proofs.Ytbngdhlmggdaaaa.VT

set_option autoImplicit false
set_option linter.unusedVariables false
set_option linter.unusedSimpArgs false
set_option maxHeartbeats 4000000
set_option maxRecDepth 100000
namespace Go.Proofs.Ytbngdhlmggdaaaa.VT
open Go Go.V Go.RowKit

abbrev uS7n25 {a0 a1 a2 a3 a4 a5 a6 a7 a8 a9 a10 a11 a12 a13 a14 a15 a16 a17 a18 a19 a20 a21 a22 a23 a24 : VVal} : VEnv := a0 :: a1 :: a2 :: a3 :: a4 :: a5 :: a6 :: a7 :: a8 :: a9 :: a10 :: a11 :: a12 :: a13 :: a14 :: a15 :: a16 :: a17 :: a18 :: a19 :: a20 :: a21 :: a22 :: a23 :: a24 :: []
abbrev uS7n75 {a0 a1 a2 a3 a4 a5 a6 a7 a8 a9 a10 a11 a12 a13 a14 a15 a16 a17 a18 a19 a20 a21 a22 a23 a24 a25 a26 a27 a28 a29 a30 a31 a32 a33 a34 a35 a36 a37 a38 a39 a40 a41 a42 a43 a44 a45 a46 a47 a48 a49 a50 a51 a52 a53 a54 a55 a56 a57 a58 a59 a60 a61 a62 a63 a64 a65 a66 a67 a68 a69 a70 a71 a72 a73 a74 : VVal} : VEnv := a0 :: a1 :: a2 :: a3 :: a4 :: a5 :: a6 :: a7 :: a8 :: a9 :: a10 :: a11 :: a12 :: a13 :: a14 :: a15 :: a16 :: a17 :: a18 :: a19 :: a20 :: a21 :: a22 :: a23 :: a24 :: a25 :: a26 :: a27 :: a28 :: a29 :: a30 :: a31 :: a32 :: a33 :: a34 :: a35 :: a36 :: a37 :: a38 :: a39 :: a40 :: a41 :: a42 :: a43 :: a44 :: a45 :: a46 :: a47 :: a48 :: a49 :: a50 :: a51 :: a52 :: a53 :: a54 :: a55 :: a56 :: a57 :: a58 :: a59 :: a60 :: a61 :: a62 :: a63 :: a64 :: a65 :: a66 :: a67 :: a68 :: a69 :: a70 :: a71 :: a72 :: a73 :: a74 :: []

theorem wS7n0 {S : V.Sys} {H : VHeap} {fn : Func} {ex : Exit} {env : VEnv} {B L : VHeap} {v : VVal} {R : VVal → VHeap → Prop} (hx : ex = .normal ∨ ex = .ret) (hv : vresults S.C.T env (B ++ L) fn.results = some v) (h : R v B) (hB : BaseOk H B := by first | exact BaseOk.refl _ | exact BaseOk.set (BaseOk.refl _) _ rfl) (hu : v.under H.length = true := by first | rfl | simp [VVal.under, VVal.underL, *]) : fnK S fn H R ex env (B ++ L) := E_app hx hv hB hu h
theorem wS7n1 {P : Prop} (h : P := by first | exact ⟨by rw [rgt_fit (by omega)], rfl⟩ | exact ⟨by rw [rgt_bad (i := m) (by omega) (bool_f (by assumption))], rfl⟩ | exact ⟨by rw [rgt_bad (i := m) (by omega) (by assumption)], rfl⟩ | exact ⟨by rw [rgt_ok (by omega) (all_at fun i hi => hr i (by omega))], rfl⟩) : P := h
theorem wS7n2 {T : TypeId → Option VTy} {H : VHeap} {op : Op} {ρ : Operand → VVal} {t e : TypeId} {x i : Operand} {y z : VTy} {k : IntKind} {n : Int} {p v : VVal} {es : Nat} (ho : op = .indexAddr t x i) (hx : ρ x = p) (hi : ρ i = .int k n) (hy : T t = some y) (hd : y.desc = .slice e) (hz : T e = some z) (hs : z.size = es) (h : IxOk p es n v := by first | exact .inl ⟨_, _, _, rfl, by first | assumption | omega | (simp [*]; done) | (simp at *; omega), rfl⟩ | exact .inr ⟨_, _, _, _, _, rfl, by first | assumption | omega | (simp [*]; done) | (simp at *; omega), rfl⟩) : vop T ρ H op = some (v, H) := v_ix ho hx hi hy hd hz hs h
theorem wS7n3 {T : TypeId → Option VTy} {H : VHeap} {op : Op} {ρ : Operand → VVal} {t : TypeId} {a : Operand} {y : VTy} {p : VVal} {n : Nat} {vs : List VVal} (ho : op = .load t a) (ha : ρ a = p) (hy : T t = some y) (hd : isAggDesc y.desc = true) (hn : y.size = n) (h : LdOkA H p n vs := by first | exact .inl ⟨_, _, rfl, by first | rfl | exact rul_at (by omega)⟩ | exact .inr ⟨_, _, _, _, rfl, by first | exact get_app rfl rfl | exact get_out (by assumption) | exact getE0 rfl rfl | exact get_out (get_app rfl rfl) | exact get_app rfl (by assumption) | assumption | (simp only [List.append_assoc, List.singleton_append, List.cons_append, List.nil_append]; refine getE (i := 0) rfl ?_ rfl; simp; done) | (simp only [List.append_assoc, List.singleton_append, List.cons_append, List.nil_append]; refine getE (i := 1) rfl ?_ rfl; simp; done) | (simp only [List.append_assoc, List.singleton_append, List.cons_append, List.nil_append]; refine getE (i := 2) rfl ?_ rfl; simp; done) | (simp only [List.append_assoc, List.singleton_append, List.cons_append, List.nil_append]; refine getE (i := 3) rfl ?_ rfl; simp; done) | (simp [*]; done), by first | rfl | exact rul_at (by omega)⟩) : vop T ρ H op = some (.agg vs, H) := v_ldA ho ha hy hd hn h
theorem wS7n4 {T : TypeId → Option VTy} {H : VHeap} {op : Op} {ρ : Operand → VVal} {t ty : TypeId} {x y : Operand} {n m : Int} (ho : op = .binOp .add t x y ty) (hx : ρ x = .int .i64 n) (hy : ρ y = .int .i64 m) (h : -9223372036854775808 ≤ n + m ∧ n + m < 9223372036854775808 := by first | assumption | omega | (simp [*]; done) | (simp at *; omega)) : vop T ρ H op = some (.int .i64 (n + m), H) := v_addI ho hx hy h
theorem wS7n5 {T : TypeId → Option VTy} {H : VHeap} {op : Op} {ρ : Operand → VVal} {t : TypeId} {a : Operand} {y : VTy} {p v : VVal} (ho : op = .load t a) (ha : ρ a = p) (hy : T t = some y) (hd : isAggDesc y.desc = false) (h : LdOk H p v := by first | exact .inl ⟨_, _, rfl, by first | rfl | assumption | exact fgetN (α := BitVec 64) 0 (by omega) | exact fgetN (α := Int) 0 (by omega)⟩ | exact .inr ⟨_, _, _, _, rfl, by first | exact get_app rfl rfl | exact get_out (by assumption) | exact getE0 rfl rfl | exact get_out (get_app rfl rfl) | exact get_app rfl (by assumption) | assumption | (simp only [List.append_assoc, List.singleton_append, List.cons_append, List.nil_append]; refine getE (i := 0) rfl ?_ rfl; simp; done) | (simp only [List.append_assoc, List.singleton_append, List.cons_append, List.nil_append]; refine getE (i := 1) rfl ?_ rfl; simp; done) | (simp only [List.append_assoc, List.singleton_append, List.cons_append, List.nil_append]; refine getE (i := 2) rfl ?_ rfl; simp; done) | (simp only [List.append_assoc, List.singleton_append, List.cons_append, List.nil_append]; refine getE (i := 3) rfl ?_ rfl; simp; done) | (simp [*]; done), by first | rfl | assumption | exact fgetN (α := BitVec 64) 0 (by omega) | exact fgetN (α := Int) 0 (by omega)⟩) : vop T ρ H op = some (v, H) := v_ld ho ha hy hd h
theorem wS7n6 {P : Prop} (h : P := by first | exact ⟨by rw [pck_2 (by omega)], rfl⟩ | exact ⟨by rw [pck_1 (by omega) (by omega)], rfl⟩ | exact ⟨by rw [pck_1g (by omega) (bool_f (by assumption))], rfl⟩ | exact ⟨by rw [pck_1g (by omega) (by assumption)], rfl⟩ | exact ⟨by rw [pck_1w (i := k) hn1 hn2 (by omega) (okW_no2 (by omega))], rfl⟩ | exact ⟨by rw [pck_1w (i := k) hn1 hn2 (by omega) (okW_no (by assumption))], rfl⟩ | exact ⟨by rw [pck_0 hn1 hn2 (fun i hi => hw i (by omega)) (fun i hi => (rgt_iff.1 hgt).2 _ (rul_mem hi))], rfl⟩) : P := h

def rgt (n : Int) (rs : List Rul) : Bool := decide (0 ≤ n ∧ n ≤ 12) && rs.all (rck n)
theorem rgt_fit {n : Int} {rs : List Rul} (h : ¬ (0 ≤ n ∧ n ≤ 12)) : rgt n rs = false := by unfold rgt; rw [decide_eq_false h, Bool.false_and]
theorem rgt_bad {n : Int} {rs : List Rul} {i : Nat} (hi : i < rs.length) (h : rck n (rs.getD i r0) = false) : rgt n rs = false := by
  unfold rgt
  rw [Bool.and_eq_false_iff]; right
  rw [List.all_eq_false]
  exact ⟨_, rul_mem hi, by rw [h]; decide⟩
theorem rgt_ok {n : Int} {rs : List Rul} (h : 0 ≤ n ∧ n ≤ 12) (h2 : ∀ r, r ∈ rs → rck n r = true) : rgt n rs = true := by
  unfold rgt; rw [decide_eq_true h, Bool.true_and, List.all_eq_true]; exact h2
theorem rgt_iff {n : Int} {rs : List Rul} : rgt n rs = true ↔ (0 ≤ n ∧ n ≤ 12) ∧ ∀ r, r ∈ rs → rck n r = true := by
  unfold rgt; rw [Bool.and_eq_true, decide_eq_true_eq, List.all_eq_true]

theorem fRight_spec {x : SW} (H : VHeap) (n : Int) (rs : List Rul) (hR : ∀ r, r ∈ rs → r.steps.length ≤ 1000000) (hn : rs.length ≤ 1000000) : F (psys x) 35 [iI n, fzR rs] H fun v G => v = .bool (rgt n rs) ∧ G = H := by
 refine F_body Try.func35 rfl uS7n25 rfl ?_
 refine B_seq (B_region ?_)
 refine Lo uS7n25 (v_const (VVal.bool false) (.inr rfl) rfl) ?_
 refine L_nil (K_seq (B_seq (B_seq (B_region ?_))))
 refine Lo uS7n25 (v_move (.inl rfl) rfl) ?_
 refine Lo uS7n25 (rfl) ?_
 refine Lo uS7n25 (v_move (.inl rfl) rfl) ?_
 refine L_split 8 (env1 := uS7n25) (env2 := uS7n25) rfl rfl rfl (fun hg1 => ?_) (fun hg1 => ?_)
 ·try simp only [qB, qN] at hg1
  refine Lf uS7n25 ?_
  refine Lf uS7n25 ?_
  refine Lo uS7n25 (v_pickTC (VVal.bool true) rfl rfl rfl) ?_
  refine L_nil (K_seq ?_)
  refine B_true rfl rfl ?_
  refine B_seq (B_region ?_)
  refine Lo uS7n25 (v_const (VVal.bool false) (.inr rfl) rfl) ?_
  refine L_nil (K_seq (B_ret (K_seqR ?_)))
  refine wS7n0 (.inr rfl) (vres_tmp rfl rfl) ?_
  exact wS7n1
 ·try simp only [qB, qN] at hg1
  refine Lo uS7n25 (v_move (.inl rfl) rfl) ?_
  refine Lo uS7n25 (rfl) ?_
  refine Lo uS7n25 (v_pickF rfl rfl rfl) ?_
  refine L_nil (K_seq ?_)
  refine B_cond _ rfl (fun hc2 => ?_) (fun hc2 => ?_)
  ·try simp only [qB, qN] at hc2
   refine B_seq (B_region ?_)
   refine Lo uS7n25 (v_const (VVal.bool false) (.inr rfl) rfl) ?_
   refine L_nil (K_seq (B_ret (K_seqR ?_)))
   refine wS7n0 (.inr rfl) (vres_tmp rfl rfl) ?_
   exact wS7n1
  ·try simp only [qB, qN] at hc2
   refine B_skip (K_seq (B_seq (B_seq (B_region ?_))))
   refine Lo uS7n25 (v_const (VVal.int .i64 0) (.inr rfl) rfl) ?_
   refine L_nil (K_seq (B_block ?_))
   refine B_clear (mk 25 33554396) (env' := uS7n25) rfl ?_
   refine B_loopE (fun (m : Nat) => rs.length - m) (fun (m : Nat) => [(5, iI (m : Nat))]) (fun (m : Nat) G => (m ≤ rs.length ∧ ∀ i, i < m → rck n (rs.getD i r0) = true) ∧ G = H ++ []) 0 rfl ?_ ?_
   ·refine ⟨?_, rfl⟩
    exact ⟨Nat.zero_le _, fun i h => by omega⟩
   rintro m _ ⟨⟨hm, hr⟩, rfl⟩
   refine B_env (env' := uS7n25) rfl ?_
   refine B_seq (B_seq (B_region ?_))
   refine Lo uS7n25 (v_move (.inl rfl) rfl) ?_
   refine Lo uS7n25 (v_move (.inl rfl) rfl) ?_
   refine Lo uS7n25 (rfl) ?_
   refine Lo uS7n25 (rfl) ?_
   refine L_nil (K_seq ?_)
   refine B_cond _ rfl (fun hc3 => ?_) (fun hc3 => ?_)
   ·try simp only [qB, qN] at hc3
    refine B_skip (K_seq (B_seq (B_block (B_seq (B_region ?_)))))
    refine Lo uS7n25 (v_move (.inl rfl) rfl) ?_
    refine Lo uS7n25 (v_move (.inl rfl) rfl) ?_
    refine Lo uS7n25 (v_move (.inl rfl) rfl) ?_
    refine Lo uS7n25 (wS7n2 rfl rfl rfl rfl rfl rfl rfl) ?_
    refine Lo uS7n25 (wS7n3 rfl rfl rfl rfl rfl) ?_
    refine L_call rfl rfl rfl (by exact fCheck_spec _ _ _ (hR _ (rul_mem (by omega)))) ?_
    rintro _ _ ⟨rfl, rfl⟩
    refine Le uS7n25 ?_
    refine Lo uS7n25 (rfl) ?_
    refine L_nil (K_seq ?_)
    refine B_cond _ rfl (fun hc4 => ?_) (fun hc4 => ?_)
    ·try simp only [qB, qN] at hc4
     refine B_seq (B_region ?_)
     refine Lo uS7n25 (v_const (VVal.bool false) (.inr rfl) rfl) ?_
     refine L_nil (K_seq (B_ret (K_blkR (K_seqR (K_loopR (K_blkR (K_seqR ?_)))))))
     refine wS7n0 (.inr rfl) (vres_tmp rfl rfl) ?_
     exact wS7n1
    ·try simp only [qB, qN] at hc4
     refine B_skip (K_blk (K_seq (B_region ?_)))
     refine Lo uS7n25 (v_move (.inl rfl) rfl) ?_
     refine Lo uS7n25 (wS7n4 rfl rfl rfl) ?_
     refine Lo uS7n25 (v_move (.inr rfl) rfl) ?_
     refine L_nil ?_
     refine K_loop (mk 25 33554396) (env' := uS7n25) rfl ⟨m + 1, ?_, rfl, ?_⟩
     ·first | omega | (simp only []; omega)
     ·exact ⟨⟨by omega, fun i hi => by by_cases e : i = m; (subst e; assumption); exact hr i (by omega)⟩, rfl⟩
   ·try simp only [qB, qN] at hc3
    refine B_exit (K_seqX (K_loopX (K_blkX (K_seq (B_seq (B_region ?_))))))
    refine Lo uS7n25 (v_const (VVal.bool true) (.inr rfl) rfl) ?_
    refine L_nil (K_seq (B_ret ?_))
    refine wS7n0 (.inr rfl) (vres_tmp rfl rfl) ?_
    exact wS7n1

theorem pck_1g {p : Pb} (h : ¬ (12 < p.who.length ∨ 64 < p.users ∨ 32 < p.rules.length)) (h2 : rgt p.who.length p.rules = false) : pck p = 1 := by
  unfold pck; rw [if_neg h]
  split
  · rfl
  · rw [if_neg]
    intro e
    rw [Bool.and_eq_true, List.all_eq_true (l := p.rules)] at e
    have := rgt_ok (n := p.who.length) (rs := p.rules) (by omega) e.2
    rw [h2] at this; cases this
theorem shr_64 (w : BitVec 64) : w >>> 64 = 0#64 := by
  rw [← BitVec.toNat_inj, BitVec.toNat_ushiftRight, Nat.shiftRight_eq_div_pow]
  exact Nat.div_eq_of_lt w.isLt
theorem okW_no {u f : Int} {w : BitVec 64} (h : ¬ w >>> u.toNat = 0#64) : okW u f w = false := by unfold okW; rw [decide_eq_false h, Bool.and_false]
theorem okW_no2 {u f : Int} {w : BitVec 64} (h : f < -1 ∨ u ≤ f) : okW u f w = false := by unfold okW; rw [decide_eq_false (by omega), Bool.false_and]
theorem okW_yes {u f : Int} {w : BitVec 64} (h1 : -1 ≤ f) (h2 : f < u) (h : w >>> u.toNat = 0#64) : okW u f w = true := by unfold okW; rw [decide_eq_true ⟨h1, h2⟩, decide_eq_true h]; rfl

theorem fpCheck_spec {x : SW} (H : VHeap) (p : Pb) (hp : PbL p) : F (psys x) 11 [.agg (pbB p)] H fun v G => v = iI (pck p) ∧ G = H := by
 have hp1 := hp.u; have hp2 := hp.w; have hp3 := hp.f; have hp4 := hp.r
 refine F_body Try.func11 rfl uS7n75 rfl ?_
 refine B_seq (B_region ?_)
 refine Lo uS7n75 (v_boxT rfl rfl rfl) ?_
 refine Lo uS7n75 (v_const (VVal.int .i64 0) (.inr rfl) rfl) ?_
 refine L_nil (K_seq (B_seq (B_region ?_)))
 refine Lo uS7n75 (rfl) ?_
 refine Lo uS7n75 (wS7n5 rfl rfl rfl rfl) ?_
 refine Lo uS7n75 (rfl) ?_
 refine Lo uS7n75 (v_move (.inr rfl) rfl) ?_
 refine L_nil (K_seq (B_seq (B_seq (B_region ?_))))
 refine Lo uS7n75 (v_move (.inl rfl) rfl) ?_
 refine Lo uS7n75 (rfl) ?_
 refine Lo uS7n75 (v_move (.inl rfl) rfl) ?_
 refine L_split 10 (env1 := uS7n75) (env2 := uS7n75) rfl rfl rfl (fun hg1 => ?_) (fun hg1 => ?_)
 ·try simp only [qB, qN] at hg1
  refine Lf uS7n75 ?_
  refine Lf uS7n75 ?_
  refine Lf uS7n75 ?_
  refine Lo uS7n75 (v_pickTC (VVal.bool true) rfl rfl rfl) ?_
  refine Lo uS7n75 (v_move (.inl rfl) rfl) ?_
  refine Lf uS7n75 ?_
  refine Lf uS7n75 ?_
  refine Lf uS7n75 ?_
  refine Lf uS7n75 ?_
  refine Lo uS7n75 (v_pickTC (VVal.bool true) rfl rfl rfl) ?_
  refine L_nil (K_seq ?_)
  refine B_true rfl rfl ?_
  refine B_seq (B_region ?_)
  refine Lo uS7n75 (v_const (VVal.int .i64 2) (.inr rfl) rfl) ?_
  refine L_nil (K_seq (B_ret (K_seqR ?_)))
  refine wS7n0 (.inr rfl) (vres_tmp rfl rfl) ?_
  exact wS7n6
 ·try simp only [qB, qN] at hg1
  refine Lo uS7n75 (rfl) ?_
  refine Lo uS7n75 (wS7n5 rfl rfl rfl rfl) ?_
  refine Lo uS7n75 (rfl) ?_
  refine Lo uS7n75 (v_pickF rfl rfl rfl) ?_
  refine Lo uS7n75 (v_move (.inl rfl) rfl) ?_
  refine L_split 15 (env1 := uS7n75) (env2 := uS7n75) rfl rfl rfl (fun hg2 => ?_) (fun hg2 => ?_)
  ·try simp only [qB, qN] at hg2
   refine Lf uS7n75 ?_
   refine Lf uS7n75 ?_
   refine Lf uS7n75 ?_
   refine Lf uS7n75 ?_
   refine Lo uS7n75 (v_pickTC (VVal.bool true) rfl rfl rfl) ?_
   refine L_nil (K_seq ?_)
   refine B_true rfl rfl ?_
   refine B_seq (B_region ?_)
   refine Lo uS7n75 (v_const (VVal.int .i64 2) (.inr rfl) rfl) ?_
   refine L_nil (K_seq (B_ret (K_seqR ?_)))
   refine wS7n0 (.inr rfl) (vres_tmp rfl rfl) ?_
   exact wS7n6
  ·try simp only [qB, qN] at hg2
   refine Lo uS7n75 (rfl) ?_
   refine Lo uS7n75 (wS7n5 rfl rfl rfl rfl) ?_
   refine Lo uS7n75 (rfl) ?_
   refine Lo uS7n75 (rfl) ?_
   refine Lo uS7n75 (v_pickF rfl rfl rfl) ?_
   refine L_nil (K_seq ?_)
   refine B_cond _ rfl (fun hc3 => ?_) (fun hc3 => ?_)
   ·try simp only [qB, qN] at hc3
    refine B_seq (B_region ?_)
    refine Lo uS7n75 (v_const (VVal.int .i64 2) (.inr rfl) rfl) ?_
    refine L_nil (K_seq (B_ret (K_seqR ?_)))
    refine wS7n0 (.inr rfl) (vres_tmp rfl rfl) ?_
    exact wS7n6
   ·try simp only [qB, qN] at hc3
    refine B_skip (K_seq (B_seq (B_seq (B_region ?_))))
    refine Lo uS7n75 (rfl) ?_
    refine Lo uS7n75 (wS7n5 rfl rfl rfl rfl) ?_
    refine Lo uS7n75 (rfl) ?_
    refine Lo uS7n75 (v_move (.inl rfl) rfl) ?_
    refine L_split 24 (env1 := uS7n75) (env2 := uS7n75) rfl rfl rfl (fun hg4 => ?_) (fun hg4 => ?_)
    ·try simp only [qB, qN] at hg4
     refine Lf uS7n75 ?_
     refine Lf uS7n75 ?_
     refine Lf uS7n75 ?_
     refine Lf uS7n75 ?_
     refine Lf uS7n75 ?_
     refine Lo uS7n75 (v_pickTC (VVal.bool true) rfl rfl rfl) ?_
     refine Lo uS7n75 (v_move (.inl rfl) rfl) ?_
     refine Lf uS7n75 ?_
     refine Lf uS7n75 ?_
     refine Lf uS7n75 ?_
     refine Lf uS7n75 ?_
     refine Lf uS7n75 ?_
     refine Lo uS7n75 (v_pickTC (VVal.bool true) rfl rfl rfl) ?_
     refine L_nil (K_seq ?_)
     refine B_true rfl rfl ?_
     refine B_seq (B_region ?_)
     refine Lo uS7n75 (v_const (VVal.int .i64 1) (.inr rfl) rfl) ?_
     refine L_nil (K_seq (B_ret (K_seqR ?_)))
     refine wS7n0 (.inr rfl) (vres_tmp rfl rfl) ?_
     exact wS7n6
    ·try simp only [qB, qN] at hg4
     refine Lo uS7n75 (rfl) ?_
     refine Lo uS7n75 (wS7n5 rfl rfl rfl rfl) ?_
     refine Lo uS7n75 (rfl) ?_
     refine Lo uS7n75 (v_move (.inl rfl) rfl) ?_
     refine Lo uS7n75 (rfl) ?_
     refine Lo uS7n75 (v_pickF rfl rfl rfl) ?_
     refine Lo uS7n75 (v_move (.inl rfl) rfl) ?_
     refine L_split 31 (env1 := uS7n75) (env2 := uS7n75) rfl rfl rfl (fun hg5 => ?_) (fun hg5 => ?_)
     ·try simp only [qB, qN] at hg5
      refine Lf uS7n75 ?_
      refine Lf uS7n75 ?_
      refine Lf uS7n75 ?_
      refine Lf uS7n75 ?_
      refine Lf uS7n75 ?_
      refine Lo uS7n75 (v_pickTC (VVal.bool true) rfl rfl rfl) ?_
      refine L_nil (K_seq ?_)
      refine B_true rfl rfl ?_
      refine B_seq (B_region ?_)
      refine Lo uS7n75 (v_const (VVal.int .i64 1) (.inr rfl) rfl) ?_
      refine L_nil (K_seq (B_ret (K_seqR ?_)))
      refine wS7n0 (.inr rfl) (vres_tmp rfl rfl) ?_
      exact wS7n6
     ·try simp only [qB, qN] at hg5
      refine Lo uS7n75 (v_move (.inl rfl) rfl) ?_
      refine Lo uS7n75 (rfl) ?_
      refine Lo uS7n75 (wS7n5 rfl rfl rfl rfl) ?_
      refine L_call rfl rfl rfl (by exact fRight_spec _ _ _ hp.s hp4) ?_
      rintro _ _ ⟨rfl, rfl⟩
      refine Le uS7n75 ?_
      refine Lo uS7n75 (rfl) ?_
      refine Lo uS7n75 (v_pickF rfl rfl rfl) ?_
      refine L_nil (K_seq ?_)
      refine B_cond _ rfl (fun hc6 => ?_) (fun hc6 => ?_)
      ·try simp only [qB, qN] at hc6
       refine B_seq (B_region ?_)
       refine Lo uS7n75 (v_const (VVal.int .i64 1) (.inr rfl) rfl) ?_
       refine L_nil (K_seq (B_ret (K_seqR ?_)))
       refine wS7n0 (.inr rfl) (vres_tmp rfl rfl) ?_
       exact wS7n6
      ·try simp only [qB, qN] at hc6
       refine B_skip (K_seq (B_seq (B_seq ?_)))
       have hn1 : ¬ (12 < p.who.length ∨ 64 < p.users ∨ 32 < p.rules.length) := by omega
       have hn2 : ¬ (p.users < 0 ∨ p.fixed.length ≠ p.who.length) := by omega
       have hgt : rgt p.who.length p.rules = true := by assumption
       refine B_region ?_
       refine Lo uS7n75 (v_const (VVal.int .i64 0) (.inr rfl) rfl) ?_
       refine L_nil (K_seq (B_block ?_))
       refine B_clear (mk 75 37778931862957161709541) (env' := uS7n75) rfl ?_
       refine B_loopE (fun (k : Nat) => p.who.length - k) (fun (k : Nat) => [(4, iI (k : Nat))]) (fun (k : Nat) G => (k ≤ p.who.length ∧ ∀ i, i < k → okW p.users (p.fixed.getD i 0) (p.who.getD i 0) = true) ∧ G = H ++ [.cells (pbB p) true]) 0 rfl ?_ ?_
       ·refine ⟨?_, rfl⟩
        exact ⟨Nat.zero_le _, fun i h => by omega⟩
       rintro k _ ⟨⟨hk, hw⟩, rfl⟩
       refine B_env (env' := uS7n75) rfl ?_
       refine B_seq (B_seq (B_region ?_))
       refine Lo uS7n75 (v_move (.inl rfl) rfl) ?_
       refine Lo uS7n75 (v_move (.inl rfl) rfl) ?_
       refine Lo uS7n75 (rfl) ?_
       refine L_nil (K_seq ?_)
       refine B_cond _ rfl (fun hc7 => ?_) (fun hc7 => ?_)
       ·try simp only [qB, qN] at hc7
        refine B_skip (K_seq (B_seq (B_block (B_seq ?_))))
        refine B_draw [0, 1, 2, 3, 4, 5, 6, 7, 8, 9, 10, 11, 12, 13, 14, 15, 16, 17, 18, 19, 20, 21, 22, 23, 24, 25, 26, 27, 28, 29, 30, 31] #[0, 1, 0, 7, 15, 31, 63, 127, 255, 127, 1023, 2047, 127, 4223, 16383, 32767, 65535, 131071, 262143, 524287, 1048575, 2097151, 4194303, 2097151, 16777215, 33554431, 2097151, 69206015, 268435455, 536870911, 1073741823, 2147483647] (by kernel_rfl) (by kernel_rfl) (by kernel_rfl) ?_
        refine Oo uS7n75 .calm rfl (rfl) ?_
        refine Oo uS7n75 .look rfl (wS7n5 rfl rfl rfl rfl) ?_
        refine Oo uS7n75 .calm rfl (v_move (.inl rfl) rfl) ?_
        refine Oo uS7n75 .calm rfl (wS7n2 rfl rfl rfl rfl rfl rfl rfl) ?_
        refine Oo uS7n75 .look rfl (wS7n5 rfl rfl rfl rfl) ?_
        refine Oo uS7n75 .calm rfl (rfl) ?_
        refine Oo uS7n75 .calm rfl (v_move (.inl rfl) rfl) ?_
        refine O_split 49 (env1 := uS7n75) (env2 := uS7n75) rfl rfl rfl (fun hg8 => ?_) (fun hg8 => ?_)
        ·try simp only [qB, qN] at hg8
         refine Of uS7n75 rfl ?_
         refine Of uS7n75 rfl ?_
         refine Of uS7n75 rfl ?_
         refine Of uS7n75 rfl ?_
         refine Of uS7n75 rfl ?_
         refine Of uS7n75 rfl ?_
         refine Of uS7n75 rfl ?_
         refine Of uS7n75 rfl ?_
         refine Oo uS7n75 .calm rfl (v_pickTC (VVal.bool true) rfl rfl rfl) ?_
         refine Oo uS7n75 .calm rfl (v_move (.inl rfl) rfl) ?_
         refine Of uS7n75 rfl ?_
         refine Of uS7n75 rfl ?_
         refine Of uS7n75 rfl ?_
         refine Of uS7n75 rfl ?_
         refine Of uS7n75 rfl ?_
         refine Of uS7n75 rfl ?_
         refine Of uS7n75 rfl ?_
         refine Of uS7n75 rfl ?_
         refine Of uS7n75 rfl ?_
         refine Of uS7n75 rfl ?_
         refine Of uS7n75 rfl ?_
         refine Of uS7n75 rfl ?_
         refine Of uS7n75 rfl ?_
         refine Of uS7n75 rfl ?_
         refine Oo uS7n75 .calm rfl (v_pickTC (VVal.bool true) rfl rfl rfl) ?_
         refine O_nil [] (by kernel_rfl) (trivial) ?_
         refine K_seq ?_
         refine B_true rfl rfl ?_
         refine B_seq (B_region ?_)
         refine Lo uS7n75 (v_const (VVal.int .i64 1) (.inr rfl) rfl) ?_
         refine L_nil (K_seq (B_ret (K_blkR (K_seqR (K_loopR (K_blkR (K_seqR ?_)))))))
         refine wS7n0 (.inr rfl) (vres_tmp rfl rfl) ?_
         exact wS7n6
        ·try simp only [qB, qN] at hg8
         refine Oo uS7n75 .calm rfl (rfl) ?_
         refine Oo uS7n75 .look rfl (wS7n5 rfl rfl rfl rfl) ?_
         refine Oo uS7n75 .calm rfl (v_move (.inl rfl) rfl) ?_
         refine Oo uS7n75 .calm rfl (wS7n2 rfl rfl rfl rfl rfl rfl rfl) ?_
         refine Oo uS7n75 .look rfl (wS7n5 rfl rfl rfl rfl) ?_
         refine Oo uS7n75 .calm rfl (rfl) ?_
         refine Oo uS7n75 .look rfl (wS7n5 rfl rfl rfl rfl) ?_
         refine Oo uS7n75 .calm rfl (rfl) ?_
         refine Oo uS7n75 .calm rfl (v_pickF rfl rfl rfl) ?_
         refine Oo uS7n75 .calm rfl (v_move (.inl rfl) rfl) ?_
         refine O_split 59 (env1 := uS7n75) (env2 := uS7n75) rfl rfl rfl (fun hg9 => ?_) (fun hg9 => ?_)
         ·try simp only [qB, qN] at hg9
          refine Of uS7n75 rfl ?_
          refine Of uS7n75 rfl ?_
          refine Of uS7n75 rfl ?_
          refine Of uS7n75 rfl ?_
          refine Of uS7n75 rfl ?_
          refine Of uS7n75 rfl ?_
          refine Of uS7n75 rfl ?_
          refine Of uS7n75 rfl ?_
          refine Of uS7n75 rfl ?_
          refine Of uS7n75 rfl ?_
          refine Of uS7n75 rfl ?_
          refine Of uS7n75 rfl ?_
          refine Of uS7n75 rfl ?_
          refine Of uS7n75 rfl ?_
          refine Oo uS7n75 .calm rfl (v_pickTC (VVal.bool true) rfl rfl rfl) ?_
          refine O_nil [] (by kernel_rfl) (trivial) ?_
          refine K_seq ?_
          refine B_true rfl rfl ?_
          refine B_seq (B_region ?_)
          refine Lo uS7n75 (v_const (VVal.int .i64 1) (.inr rfl) rfl) ?_
          refine L_nil (K_seq (B_ret (K_blkR (K_seqR (K_loopR (K_blkR (K_seqR ?_)))))))
          refine wS7n0 (.inr rfl) (vres_tmp rfl rfl) ?_
          exact wS7n6
         ·try simp only [qB, qN] at hg9
          refine Oo uS7n75 .calm rfl (rfl) ?_
          refine Oo uS7n75 .look rfl (wS7n5 rfl rfl rfl rfl) ?_
          refine Oo uS7n75 .calm rfl (rfl) ?_
          refine Oo uS7n75 .calm rfl (v_move (.inl rfl) rfl) ?_
          refine O_split 63 (env1 := uS7n75) (env2 := uS7n75) rfl rfl rfl (fun hg10 => ?_) (fun hg10 => ?_)
          ·try simp only [qB, qN] at hg10
           refine Oo uS7n75 .calm rfl (rfl) ?_
           refine Oo uS7n75 .look rfl (wS7n5 rfl rfl rfl rfl) ?_
           refine Oo uS7n75 .calm rfl (v_move (.inl rfl) rfl) ?_
           refine Oo uS7n75 .calm rfl (wS7n2 rfl rfl rfl rfl rfl rfl rfl) ?_
           refine Oo uS7n75 .look rfl (wS7n5 rfl rfl rfl rfl) ?_
           refine Oo uS7n75 .calm rfl (rfl) ?_
           refine Oo uS7n75 .look rfl (wS7n5 rfl rfl rfl rfl) ?_
           refine Oo uS7n75 .calm rfl (v_shrW rfl rfl rfl (by first | assumption | omega | (simp [*]; done) | (simp at *; omega))) ?_
           refine Oo uS7n75 .calm rfl (rfl) ?_
           refine Oo uS7n75 .calm rfl (v_pickT rfl rfl rfl) ?_
           refine Oo uS7n75 .calm rfl (v_pickF rfl rfl rfl) ?_
           refine O_nil [] (by kernel_rfl) (trivial) ?_
           refine K_seq ?_
           refine B_cond _ rfl (fun hc11 => ?_) (fun hc11 => ?_)
           ·try simp only [qB, qN] at hc11
            refine B_seq (B_region ?_)
            refine Lo uS7n75 (v_const (VVal.int .i64 1) (.inr rfl) rfl) ?_
            refine L_nil (K_seq (B_ret (K_blkR (K_seqR (K_loopR (K_blkR (K_seqR ?_)))))))
            refine wS7n0 (.inr rfl) (vres_tmp rfl rfl) ?_
            exact wS7n6
           ·try simp only [qB, qN] at hc11
            refine B_skip (K_blk (K_seq (B_region ?_)))
            refine Lo uS7n75 (v_move (.inl rfl) rfl) ?_
            refine Lo uS7n75 (wS7n4 rfl rfl rfl) ?_
            refine Lo uS7n75 (v_move (.inr rfl) rfl) ?_
            refine L_nil ?_
            refine K_loop (mk 75 37778931862957161709541) (env' := uS7n75) rfl ⟨k + 1, ?_, rfl, ?_⟩
            ·first | omega | (simp only []; omega)
            ·exact ⟨⟨by omega, fun i hi => by by_cases e : i = k; (subst e; exact okW_yes (by omega) (by omega) (by first | assumption | (have e64 : p.users = 64 := by omega); rw [e64]; exact shr_64 _)); exact hw i (by omega)⟩, rfl⟩
          ·try simp only [qB, qN] at hg10
           refine Of uS7n75 rfl ?_
           refine Of uS7n75 rfl ?_
           refine Of uS7n75 rfl ?_
           refine Of uS7n75 rfl ?_
           refine Of uS7n75 rfl ?_
           refine Of uS7n75 rfl ?_
           refine Of uS7n75 rfl ?_
           refine Of uS7n75 rfl ?_
           refine Of uS7n75 rfl ?_
           refine Oo uS7n75 .calm rfl (v_pickFC (VVal.bool false) rfl rfl rfl) ?_
           refine Oo uS7n75 .calm rfl (v_pickF rfl rfl rfl) ?_
           refine O_nil [] (by kernel_rfl) (trivial) ?_
           refine K_seq ?_
           refine B_false rfl rfl ?_
           refine B_skip (K_blk (K_seq (B_region ?_)))
           refine Lo uS7n75 (v_move (.inl rfl) rfl) ?_
           refine Lo uS7n75 (wS7n4 rfl rfl rfl) ?_
           refine Lo uS7n75 (v_move (.inr rfl) rfl) ?_
           refine L_nil ?_
           refine K_loop (mk 75 37778931862957161709541) (env' := uS7n75) rfl ⟨k + 1, ?_, rfl, ?_⟩
           ·first | omega | (simp only []; omega)
           ·exact ⟨⟨by omega, fun i hi => by by_cases e : i = k; (subst e; exact okW_yes (by omega) (by omega) (by first | assumption | (have e64 : p.users = 64 := by omega); rw [e64]; exact shr_64 _)); exact hw i (by omega)⟩, rfl⟩
       ·try simp only [qB, qN] at hc7
        refine B_exit (K_seqX (K_loopX (K_blkX (K_seq (B_seq (B_region ?_))))))
        refine Lo uS7n75 (v_const (VVal.int .i64 0) (.inr rfl) rfl) ?_
        refine L_nil (K_seq (B_ret ?_))
        refine wS7n0 (.inr rfl) (vres_tmp rfl rfl) ?_
        exact wS7n6
end Go.Proofs.Ytbngdhlmggdaaaa.VT

set_option autoImplicit false
set_option linter.unusedVariables false
set_option linter.unusedSimpArgs false
set_option maxHeartbeats 4000000
set_option maxRecDepth 100000
namespace Go.Proofs.Ytbngdhlmggdaaaa.VT
open Go Go.V Go.RowKit

abbrev uS8n11 {a0 a1 a2 a3 a4 a5 a6 a7 a8 a9 a10 : VVal} : VEnv := a0 :: a1 :: a2 :: a3 :: a4 :: a5 :: a6 :: a7 :: a8 :: a9 :: a10 :: []
abbrev uS8n102 {a0 a1 a2 a3 a4 a5 a6 a7 a8 a9 a10 a11 a12 a13 a14 a15 a16 a17 a18 a19 a20 a21 a22 a23 a24 a25 a26 a27 a28 a29 a30 a31 a32 a33 a34 a35 a36 a37 a38 a39 a40 a41 a42 a43 a44 a45 a46 a47 a48 a49 a50 a51 a52 a53 a54 a55 a56 a57 a58 a59 a60 a61 a62 a63 a64 a65 a66 a67 a68 a69 a70 a71 a72 a73 a74 a75 a76 a77 a78 a79 a80 a81 a82 a83 a84 a85 a86 a87 a88 a89 a90 a91 a92 a93 a94 a95 a96 a97 a98 a99 a100 a101 : VVal} : VEnv := a0 :: a1 :: a2 :: a3 :: a4 :: a5 :: a6 :: a7 :: a8 :: a9 :: a10 :: a11 :: a12 :: a13 :: a14 :: a15 :: a16 :: a17 :: a18 :: a19 :: a20 :: a21 :: a22 :: a23 :: a24 :: a25 :: a26 :: a27 :: a28 :: a29 :: a30 :: a31 :: a32 :: a33 :: a34 :: a35 :: a36 :: a37 :: a38 :: a39 :: a40 :: a41 :: a42 :: a43 :: a44 :: a45 :: a46 :: a47 :: a48 :: a49 :: a50 :: a51 :: a52 :: a53 :: a54 :: a55 :: a56 :: a57 :: a58 :: a59 :: a60 :: a61 :: a62 :: a63 :: a64 :: a65 :: a66 :: a67 :: a68 :: a69 :: a70 :: a71 :: a72 :: a73 :: a74 :: a75 :: a76 :: a77 :: a78 :: a79 :: a80 :: a81 :: a82 :: a83 :: a84 :: a85 :: a86 :: a87 :: a88 :: a89 :: a90 :: a91 :: a92 :: a93 :: a94 :: a95 :: a96 :: a97 :: a98 :: a99 :: a100 :: a101 :: []

theorem wS8n0 {T : TypeId → Option VTy} {H : VHeap} {op : Op} {ρ : Operand → VVal} {t : TypeId} {a : Operand} {y : VTy} {p v : VVal} (ho : op = .load t a) (ha : ρ a = p) (hy : T t = some y) (hd : isAggDesc y.desc = false) (h : LdOk H p v := by first | exact .inl ⟨_, _, rfl, by first | rfl | assumption | exact fgetN (α := BitVec 64) 0 (by omega) | exact fgetN (α := Int) 0 (by omega) | exact rul_at (by omega)⟩ | exact .inr ⟨_, _, _, _, rfl, by first | exact get_app rfl rfl | exact get_out (by assumption) | exact getE0 rfl rfl | exact get_out (get_app rfl rfl) | exact get_app rfl (by assumption) | assumption | (simp only [List.append_assoc, List.singleton_append, List.cons_append, List.nil_append]; refine getE (i := 0) rfl ?_ rfl; simp; done) | (simp only [List.append_assoc, List.singleton_append, List.cons_append, List.nil_append]; refine getE (i := 1) rfl ?_ rfl; simp; done) | (simp only [List.append_assoc, List.singleton_append, List.cons_append, List.nil_append]; refine getE (i := 2) rfl ?_ rfl; simp; done) | (simp only [List.append_assoc, List.singleton_append, List.cons_append, List.nil_append]; refine getE (i := 3) rfl ?_ rfl; simp; done) | (simp [*]; done), by first | rfl | assumption | exact fgetN (α := BitVec 64) 0 (by omega) | exact fgetN (α := Int) 0 (by omega) | exact rul_at (by omega)⟩) : vop T ρ H op = some (v, H) := v_ld ho ha hy hd h
theorem wS8n1 {T : TypeId → Option VTy} {H : VHeap} {op : Op} {ρ : VEnv} {H' : VHeap} {t : TypeId} {a : Operand} {i : Nat} {v : VVal} {y : VTy} {b off : Nat} {cs new : List VVal} (ho : op = .store t a (.tmp i)) (hv : ρ[i]? = some v) (ha : ρ.eval a = .ptr (some (b, off))) (hy : T t = some y) (hx : v.cells = some new) (hn : new.length = y.size) (h1 : new.all VVal.one = true) (hb : H[b]? = some (.cells cs true) := by first | exact get_app rfl rfl | exact get_out (by assumption) | exact getE0 rfl rfl | exact get_out (get_app rfl rfl) | exact get_app rfl (by assumption) | assumption | (simp only [List.append_assoc, List.singleton_append, List.cons_append, List.nil_append]; refine getE (i := 0) rfl ?_ rfl; simp; done) | (simp only [List.append_assoc, List.singleton_append, List.cons_append, List.nil_append]; refine getE (i := 1) rfl ?_ rfl; simp; done) | (simp only [List.append_assoc, List.singleton_append, List.cons_append, List.nil_append]; refine getE (i := 2) rfl ?_ rfl; simp; done) | (simp only [List.append_assoc, List.singleton_append, List.cons_append, List.nil_append]; refine getE (i := 3) rfl ?_ rfl; simp; done) | (simp [*]; done)) (hl : off + new.length ≤ cs.length := by first | exact Nat.le_of_ble_eq_true rfl | (simp only [List.length_map, List.length_cons, List.length_nil]; omega) | omega | (simp; done) | (simp; omega)) (hH : H.set b (.cells (splice cs off new) true) = H' := by first | exact setE0 rfl rfl | (simp only [List.append_assoc, List.singleton_append, List.cons_append, List.nil_append]; refine setE (i := 0) rfl ?_; simp; done) | (simp only [List.append_assoc, List.singleton_append, List.cons_append, List.nil_append]; refine setE (i := 1) rfl ?_; simp; done) | (simp only [List.append_assoc, List.singleton_append, List.cons_append, List.nil_append]; refine setE (i := 2) rfl ?_; simp; done) | (simp only [List.append_assoc, List.singleton_append, List.cons_append, List.nil_append]; refine setE (i := 3) rfl ?_; simp; done) | (refine setB rfl ?_; simp; done) | exact set_app rfl | exact set_out (lt_of_get (by assumption)) | rfl) : vop T ρ.eval H op = some (.skip, H') := v_storeT ho hv ha hy hx hn h1 hb hl hH
theorem wS8n2 {T : TypeId → Option VTy} {H : VHeap} {op : Op} {ρ : Operand → VVal} {t e : TypeId} {x i : Operand} {y z : VTy} {k : IntKind} {n : Int} {p v : VVal} {es : Nat} (ho : op = .indexAddr t x i) (hx : ρ x = p) (hi : ρ i = .int k n) (hy : T t = some y) (hd : y.desc = .slice e) (hz : T e = some z) (hs : z.size = es) (h : IxOk p es n v := by first | exact .inl ⟨_, _, _, rfl, by first | assumption | omega | (simp [*]; done) | (simp at *; omega), rfl⟩ | exact .inr ⟨_, _, _, _, _, rfl, by first | assumption | omega | (simp [*]; done) | (simp at *; omega), rfl⟩) : vop T ρ H op = some (v, H) := v_ix ho hx hi hy hd hz hs h
theorem wS8n3 {T : TypeId → Option VTy} {H : VHeap} {op : Op} {ρ : Operand → VVal} {t ty : TypeId} {x y : Operand} {n m : Int} (ho : op = .binOp .add t x y ty) (hx : ρ x = .int .i64 n) (hy : ρ y = .int .i64 m) (h : -9223372036854775808 ≤ n + m ∧ n + m < 9223372036854775808 := by first | assumption | omega | (simp [*]; done) | (simp at *; omega)) : vop T ρ H op = some (.int .i64 (n + m), H) := v_addI ho hx hy h
theorem wS8n4 {T : TypeId → Option VTy} {H : VHeap} {op : Op} {ρ : Operand → VVal} {t : TypeId} {a : Operand} {y : VTy} {p : VVal} {n : Nat} {vs : List VVal} (ho : op = .load t a) (ha : ρ a = p) (hy : T t = some y) (hd : isAggDesc y.desc = true) (hn : y.size = n) (h : LdOkA H p n vs := by first | exact .inl ⟨_, _, rfl, by first | rfl | assumption | exact fgetN (α := BitVec 64) 0 (by omega) | exact fgetN (α := Int) 0 (by omega) | exact rul_at (by omega)⟩ | exact .inr ⟨_, _, _, _, rfl, by first | exact get_app rfl rfl | exact get_out (by assumption) | exact getE0 rfl rfl | exact get_out (get_app rfl rfl) | exact get_app rfl (by assumption) | assumption | (simp only [List.append_assoc, List.singleton_append, List.cons_append, List.nil_append]; refine getE (i := 0) rfl ?_ rfl; simp; done) | (simp only [List.append_assoc, List.singleton_append, List.cons_append, List.nil_append]; refine getE (i := 1) rfl ?_ rfl; simp; done) | (simp only [List.append_assoc, List.singleton_append, List.cons_append, List.nil_append]; refine getE (i := 2) rfl ?_ rfl; simp; done) | (simp only [List.append_assoc, List.singleton_append, List.cons_append, List.nil_append]; refine getE (i := 3) rfl ?_ rfl; simp; done) | (simp [*]; done), by first | rfl | assumption | exact fgetN (α := BitVec 64) 0 (by omega) | exact fgetN (α := Int) 0 (by omega) | exact rul_at (by omega)⟩) : vop T ρ H op = some (.agg vs, H) := v_ldA ho ha hy hd hn h
theorem wS8n5 {S : V.Sys} {H : VHeap} {fn : Func} {ex : Exit} {env : VEnv} {B L : VHeap} {v : VVal} {R : VVal → VHeap → Prop} (hx : ex = .normal ∨ ex = .ret) (hv : vresults S.C.T env (B ++ L) fn.results = some v) (h : R v B) (hB : BaseOk H B := by first | exact BaseOk.refl _ | exact BaseOk.set (BaseOk.refl _) _ rfl) (hu : v.under H.length = true := by first | rfl | exact pb_under (p := cutP p)) : fnK S fn H R ex env (B ++ L) := E_app hx hv hB hu h

/-! problems, cut -/
abbrev nilS : VVal := .slice none 0 0 true 0
abbrev pqB (u : Int) (a b c : VVal) : VBlk := .cells [iI u, a, b, c] true
def cutR (r : Rul) : Rul := (r.kind, r.k, r.steps.take 20, ())
def cutP (p : Pb) : Pb := (p.users, p.who.take 20, p.fixed.take 20, (p.rules.take 40).map cutR, ())
theorem take_end {α : Type} {l : List α} {k m : Nat} (h1 : k ≤ m) (h2 : ¬ (k < l.length ∧ k < m)) : l.take k = l.take m := by
  by_cases h : k = m
  · rw [h]
  · rw [List.take_of_length_le (by omega), List.take_of_length_le (by omega)]
theorem cutR_step {l : List Rul} {m : Nat} (h : m < l.length) : (l.take (m + 1)).map cutR = (l.take m).map cutR ++ [cutR (l.getD m r0)] := by rw [take_at (d := r0) h, List.map_append]; rfl
theorem cutP_L {p : Pb} (h : -9223372036854775808 ≤ p.users ∧ p.users < 9223372036854775808) : PbL (cutP p) :=
  ⟨h, by show (List.take 20 _).length ≤ _; rw [List.length_take]; omega, by show (List.take 20 _).length ≤ _; rw [List.length_take]; omega, by show ((List.take 40 _).map cutR).length ≤ _; rw [List.length_map, List.length_take]; omega,
    fun r hr => by
      obtain ⟨r1, _, rfl⟩ := List.mem_map.1 hr
      show (List.take 20 _).length ≤ _
      rw [List.length_take]; omega⟩
theorem cutP_2 {p : Pb} : cutP (cutP p) = cutP p := by
  unfold cutP
  show (p.users, (p.who.take 20).take 20, (p.fixed.take 20).take 20, ((((p.rules.take 40).map cutR)).take 40).map cutR, ()) = _
  rw [List.take_take, List.take_take, ← List.map_take, List.take_take, List.map_map]
  congr 1; congr 1; congr 1; congr 1
  apply List.map_congr_left
  intro r _
  show cutR (cutR r) = cutR r
  unfold cutR
  show (r.kind, r.k, (r.steps.take 20).take 20, ()) = _
  rw [List.take_take]; rfl

theorem Cut_spec {x : SW} (H : VHeap) (p : Pb) : F (psys x) 8 [.agg (pbB p)] H fun v G => v = .agg (pbB (cutP p)) ∧ G = H := by
 refine F_body Try.func8 rfl uS8n102 rfl ?_
 refine B_seq (B_region ?_)
 refine Lo uS8n102 (v_boxT rfl rfl rfl) ?_
 refine Lo uS8n102 (v_alloc rfl rfl) ?_
 refine L_nil (K_seq (B_seq (B_region ?_)))
 refine L_gh (Gh.freezePtrL (cs := pbB p) 1 0 rfl rfl rfl) ?_
 refine Lo uS8n102 (rfl) ?_
 refine Lo uS8n102 (wS8n0 rfl rfl rfl rfl) ?_
 refine Lo uS8n102 (rfl) ?_
 refine Lo uS8n102 (v_alloc rfl rfl) ?_
 refine Lo uS8n102 (wS8n1 rfl rfl rfl rfl rfl rfl rfl) ?_
 refine L_nil (K_seq ?_)
 refine B_seqJ (mk 102 5070602400912917605986812821489) (fun (u0 : Unit) => []) (fun (u0 : Unit) G => (True) ∧ ∃ lv X, G = (H ++ [VBlk.dead, pqB 0 nilS nilS nilS, pqB p.users lv nilS nilS]) ++ X ∧ LV (H.length + 3) 1 X lv ((p.who.take 20).map iW) (p.who.take 20).length) ?_ ?_
 ·skip
  refine B_seq (B_region ?_)
  refine Lo uS8n102 (v_const (VVal.int .i64 0) (.inr rfl) rfl) ?_
  refine L_nil (K_seq (B_block ?_))
  refine B_clear (mk 102 5070602400912917605986812821473) (env' := uS8n102) rfl ?_
  refine B_loopE (fun (k : Nat) => p.who.length - k) (fun (k : Nat) => [(4, iI (k : Nat))]) (fun (k : Nat) G => (k ≤ p.who.length ∧ k ≤ 20) ∧ ∃ lv X, G = (H ++ [VBlk.dead, pqB 0 nilS nilS nilS, pqB p.users lv nilS nilS]) ++ X ∧ LV (H.length + 3) 1 X lv (((p.who).take k).map iW) ((p.who).take k).length) 0 rfl ?_ ?_
  ·refine ⟨?_, ⟨_, [], (List.append_nil _).symm, LV.nil _ _ _⟩⟩
   exact ⟨Nat.zero_le _, Nat.zero_le _⟩
  rintro k _ ⟨⟨hk1, hk2⟩, ⟨lv, X, rfl, hl⟩⟩
  refine B_env (env' := uS8n102) rfl ?_
  refine B_seq (B_seq (B_region ?_))
  refine Lo uS8n102 (v_move (.inl rfl) rfl) ?_
  refine Lo uS8n102 (rfl) ?_
  refine Lo uS8n102 (wS8n0 rfl rfl rfl rfl) ?_
  refine Lo uS8n102 (rfl) ?_
  refine Lo uS8n102 (rfl) ?_
  refine Lo uS8n102 (v_move (.inl rfl) rfl) ?_
  refine L_split 18 (env1 := uS8n102) (env2 := uS8n102) rfl rfl rfl (fun hg1 => ?_) (fun hg1 => ?_)
  ·try simp only [qB, qN] at hg1
   refine Lo uS8n102 (v_move (.inl rfl) rfl) ?_
   refine Lo uS8n102 (rfl) ?_
   refine Lo uS8n102 (v_pickT rfl rfl rfl) ?_
   refine L_nil (K_seq ?_)
   refine B_cond _ rfl (fun hc2 => ?_) (fun hc2 => ?_)
   ·try simp only [qB, qN] at hc2
    refine B_skip (K_seq (B_seq (B_block ?_)))
    refine B_draw [0, 1, 2, 3, 4, 5, 6, 7, 8, 9, 10] #[0, 1, 0, 4, 0, 28, 60, 124, 255, 511, 1023] (by kernel_rfl) (by kernel_rfl) (by kernel_rfl) ?_
    refine Oo uS8n102 .calm rfl (rfl) ?_
    refine Oo uS8n102 .look rfl (wS8n0 rfl rfl rfl rfl) ?_
    refine Oo uS8n102 .calm rfl (rfl) ?_
    refine Oo uS8n102 .look rfl (wS8n0 rfl rfl rfl rfl) ?_
    refine Oo uS8n102 .calm rfl (v_move (.inl rfl) rfl) ?_
    refine Oo uS8n102 .calm rfl (wS8n2 rfl rfl rfl rfl rfl rfl rfl) ?_
    refine Oo uS8n102 .look rfl (wS8n0 rfl rfl rfl rfl) ?_
    refine Oo uS8n102 .grow rfl (v_buildSlice rfl rfl (by decide) rfl) ?_
    refine O_opX .turn rfl rfl rfl (v_appXh rfl rfl rfl rfl rfl rfl rfl (by simp) hl rfl rfl (by decide) (by rw [List.length_take]; show (_ + 1) * 8 ≤ _ ∧ _ + 1 ≤ _; omega) (by decide)) rfl rfl ?_
    rintro _ _ ⟨Y1, rfl, rfl, hY1, hY2, hY3⟩
    refine O_env (env' := uS8n102) rfl ?_
    refine Oo uS8n102 .calm rfl (rfl) ?_
    refine Oo uS8n102 .turn rfl (wS8n1 rfl rfl rfl rfl rfl rfl rfl) ?_
    refine O_nil [] (by kernel_rfl) (trivial) ?_
    refine K_blk (K_seq (B_region ?_))
    refine Lo uS8n102 (v_move (.inl rfl) rfl) ?_
    refine Lo uS8n102 (wS8n3 rfl rfl rfl) ?_
    refine Lo uS8n102 (v_move (.inr rfl) rfl) ?_
    refine L_nil ?_
    refine K_loop (mk 102 5070602400912917605986812821473) (env' := uS8n102) rfl ⟨k + 1, ?_, rfl, ?_⟩
    ·first | omega | (simp only []; omega)
    ·exact ⟨⟨by omega, by omega⟩, _, _, rfl, by rw [take_at (d := 0) (by omega)]; exact LV.pushW hY3⟩
   ·try simp only [qB, qN] at hc2
    refine B_exit (K_seqX (K_loopX (K_blkX ?_)))
    refine K_loop (mk 102 5070602400912917605986812821489) (env' := uS8n102) rfl ⟨(), rfl, ?_⟩
    exact ⟨trivial, _, _, rfl, by rw [← take_end (m := 20) hk2 (by omega)]; exact hl⟩
  ·try simp only [qB, qN] at hg1
   refine Lf uS8n102 ?_
   refine Lf uS8n102 ?_
   refine Lo uS8n102 (v_pickFC (VVal.bool false) rfl rfl rfl) ?_
   refine L_nil (K_seq ?_)
   refine B_false rfl rfl ?_
   refine B_exit (K_seqX (K_loopX (K_blkX ?_)))
   refine K_loop (mk 102 5070602400912917605986812821489) (env' := uS8n102) rfl ⟨(), rfl, ?_⟩
   exact ⟨trivial, _, _, rfl, by rw [← take_end (m := 20) hk2 (by omega)]; exact hl⟩
 ·rintro u0 _ ⟨_, ⟨lv, X, rfl, hl⟩⟩
  refine B_env (env' := uS8n102) rfl ?_
  refine B_seqJ (mk 102 5070602400912917605986812821489) (fun (u0 : Unit) => []) (fun (u0 : Unit) G => (True) ∧ ∃ lv X, G = (H ++ [VBlk.dead, pqB 0 nilS nilS nilS, pqB p.users (fzW (p.who.take 20)) lv nilS]) ++ X ∧ LV (H.length + 3) 1 X lv ((p.fixed.take 20).map iI) (p.fixed.take 20).length) ?_ ?_
  ·skip
   refine B_seq ?_
   refine B_ghCell 2 1 hl rfl rfl (by simp) fun X1 _ _ => ?_
   refine B_region ?_
   refine Lo uS8n102 (v_const (VVal.int .i64 0) (.inr rfl) rfl) ?_
   refine L_nil (K_seq (B_block ?_))
   refine B_clear (mk 102 5070602400912917605986812821457) (env' := uS8n102) rfl ?_
   refine B_loopE (fun (j : Nat) => p.fixed.length - j) (fun (j : Nat) => [(5, iI (j : Nat))]) (fun (j : Nat) G => (j ≤ p.fixed.length ∧ j ≤ 20) ∧ ∃ lv X, G = (H ++ [VBlk.dead, pqB 0 nilS nilS nilS, pqB p.users (fzW (p.who.take 20)) lv nilS]) ++ X ∧ LV (H.length + 3) 1 X lv (((p.fixed).take j).map iI) ((p.fixed).take j).length) 0 rfl ?_ ?_
   ·refine ⟨?_, ⟨_, X1, rfl, LV.nil _ _ _⟩⟩
    exact ⟨Nat.zero_le _, Nat.zero_le _⟩
   rintro j _ ⟨⟨hj1, hj2⟩, ⟨lv, X, rfl, hl⟩⟩
   refine B_env (env' := uS8n102) rfl ?_
   refine B_seq (B_seq (B_region ?_))
   refine Lo uS8n102 (v_move (.inl rfl) rfl) ?_
   refine Lo uS8n102 (rfl) ?_
   refine Lo uS8n102 (wS8n0 rfl rfl rfl rfl) ?_
   refine Lo uS8n102 (rfl) ?_
   refine Lo uS8n102 (rfl) ?_
   refine Lo uS8n102 (v_move (.inl rfl) rfl) ?_
   refine L_split 39 (env1 := uS8n102) (env2 := uS8n102) rfl rfl rfl (fun hg3 => ?_) (fun hg3 => ?_)
   ·try simp only [qB, qN] at hg3
    refine Lo uS8n102 (v_move (.inl rfl) rfl) ?_
    refine Lo uS8n102 (rfl) ?_
    refine Lo uS8n102 (v_pickT rfl rfl rfl) ?_
    refine L_nil (K_seq ?_)
    refine B_cond _ rfl (fun hc4 => ?_) (fun hc4 => ?_)
    ·try simp only [qB, qN] at hc4
     refine B_skip (K_seq (B_seq (B_block ?_)))
     refine B_draw [0, 1, 2, 3, 4, 5, 6, 7, 8, 9, 10] #[0, 1, 0, 4, 0, 28, 60, 124, 255, 511, 1023] (by kernel_rfl) (by kernel_rfl) (by kernel_rfl) ?_
     refine Oo uS8n102 .calm rfl (rfl) ?_
     refine Oo uS8n102 .look rfl (wS8n0 rfl rfl rfl rfl) ?_
     refine Oo uS8n102 .calm rfl (rfl) ?_
     refine Oo uS8n102 .look rfl (wS8n0 rfl rfl rfl rfl) ?_
     refine Oo uS8n102 .calm rfl (v_move (.inl rfl) rfl) ?_
     refine Oo uS8n102 .calm rfl (wS8n2 rfl rfl rfl rfl rfl rfl rfl) ?_
     refine Oo uS8n102 .look rfl (wS8n0 rfl rfl rfl rfl) ?_
     refine Oo uS8n102 .grow rfl (v_buildSlice rfl rfl (by decide) rfl) ?_
     refine O_opX .turn rfl rfl rfl (v_appXh rfl rfl rfl rfl rfl rfl rfl (by simp) hl rfl rfl (by decide) (by rw [List.length_take]; show (_ + 1) * 8 ≤ _ ∧ _ + 1 ≤ _; omega) (by decide)) rfl rfl ?_
     rintro _ _ ⟨Y1, rfl, rfl, hY1, hY2, hY3⟩
     refine O_env (env' := uS8n102) rfl ?_
     refine Oo uS8n102 .calm rfl (rfl) ?_
     refine Oo uS8n102 .turn rfl (wS8n1 rfl rfl rfl rfl rfl rfl rfl) ?_
     refine O_nil [] (by kernel_rfl) (trivial) ?_
     refine K_blk (K_seq (B_region ?_))
     refine Lo uS8n102 (v_move (.inl rfl) rfl) ?_
     refine Lo uS8n102 (wS8n3 rfl rfl rfl) ?_
     refine Lo uS8n102 (v_move (.inr rfl) rfl) ?_
     refine L_nil ?_
     refine K_loop (mk 102 5070602400912917605986812821457) (env' := uS8n102) rfl ⟨j + 1, ?_, rfl, ?_⟩
     ·first | omega | (simp only []; omega)
     ·exact ⟨⟨by omega, by omega⟩, _, _, rfl, by rw [take_at (d := 0) (by omega)]; exact LV.pushI hY3⟩
    ·try simp only [qB, qN] at hc4
     refine B_exit (K_seqX (K_loopX (K_blkX ?_)))
     refine K_loop (mk 102 5070602400912917605986812821489) (env' := uS8n102) rfl ⟨(), rfl, ?_⟩
     exact ⟨trivial, _, _, rfl, by rw [← take_end (m := 20) hj2 (by omega)]; exact hl⟩
   ·try simp only [qB, qN] at hg3
    refine Lf uS8n102 ?_
    refine Lf uS8n102 ?_
    refine Lo uS8n102 (v_pickFC (VVal.bool false) rfl rfl rfl) ?_
    refine L_nil (K_seq ?_)
    refine B_false rfl rfl ?_
    refine B_exit (K_seqX (K_loopX (K_blkX ?_)))
    refine K_loop (mk 102 5070602400912917605986812821489) (env' := uS8n102) rfl ⟨(), rfl, ?_⟩
    exact ⟨trivial, _, _, rfl, by rw [← take_end (m := 20) hj2 (by omega)]; exact hl⟩
  ·rintro u0 _ ⟨_, ⟨lv, X, rfl, hl⟩⟩
   refine B_env (env' := uS8n102) rfl ?_
   refine B_seqJ (mk 102 5070602400912917605986812821491) (fun (u0 : Unit) => []) (fun (u0 : Unit) G => (True) ∧ ∃ lv X, G = (H ++ [VBlk.dead, pqB 0 nilS nilS nilS, pqB p.users (fzW (p.who.take 20)) (fzI (p.fixed.take 20)) lv]) ++ X ∧ LV (H.length + 3) 3 X lv (((p.rules.take 40).map cutR).flatMap rlB) ((p.rules.take 40).map cutR).length) ?_ ?_
   ·skip
    refine B_seq ?_
    refine B_ghCell 2 2 hl rfl rfl (by simp) fun X2 _ _ => ?_
    refine B_region ?_
    refine Lo uS8n102 (v_const (VVal.int .i64 0) (.inr rfl) rfl) ?_
    refine L_nil (K_seq (B_block ?_))
    refine B_clear (mk 102 5070602400912917605986812821425) (env' := uS8n102) rfl ?_
    refine B_loopE (fun (m : Nat) => p.rules.length - m) (fun (m : Nat) => [(6, iI (m : Nat))]) (fun (m : Nat) G => (m ≤ p.rules.length ∧ m ≤ 40) ∧ ∃ lv X, G = (H ++ [VBlk.dead, pqB 0 nilS nilS nilS, pqB p.users (fzW (p.who.take 20)) (fzI (p.fixed.take 20)) lv]) ++ X ∧ LV (H.length + 3) 3 X lv (((p.rules.take m).map cutR).flatMap rlB) ((p.rules.take m).map cutR).length) 0 rfl ?_ ?_
    ·refine ⟨?_, ⟨_, X2, rfl, LV.nil _ _ _⟩⟩
     exact ⟨Nat.zero_le _, Nat.zero_le _⟩
    rintro m _ ⟨⟨hm1, hm2⟩, ⟨lv, X, rfl, hl⟩⟩
    refine B_env (env' := uS8n102) rfl ?_
    refine B_seq (B_seq (B_region ?_))
    refine Lo uS8n102 (v_move (.inl rfl) rfl) ?_
    refine Lo uS8n102 (rfl) ?_
    refine Lo uS8n102 (wS8n0 rfl rfl rfl rfl) ?_
    refine Lo uS8n102 (rfl) ?_
    refine Lo uS8n102 (rfl) ?_
    refine Lo uS8n102 (v_move (.inl rfl) rfl) ?_
    refine L_split 60 (env1 := uS8n102) (env2 := uS8n102) rfl rfl rfl (fun hg5 => ?_) (fun hg5 => ?_)
    ·try simp only [qB, qN] at hg5
     refine Lo uS8n102 (v_move (.inl rfl) rfl) ?_
     refine Lo uS8n102 (rfl) ?_
     refine Lo uS8n102 (v_pickT rfl rfl rfl) ?_
     refine L_nil (K_seq ?_)
     refine B_cond _ rfl (fun hc6 => ?_) (fun hc6 => ?_)
     ·try simp only [qB, qN] at hc6
      refine B_skip (K_seq (B_seq (B_block (B_seq (B_region ?_)))))
      refine Lo uS8n102 (rfl) ?_
      refine Lo uS8n102 (wS8n0 rfl rfl rfl rfl) ?_
      refine Lo uS8n102 (v_move (.inl rfl) rfl) ?_
      refine Lo uS8n102 (wS8n2 rfl rfl rfl rfl rfl rfl rfl) ?_
      refine Lo uS8n102 (wS8n4 rfl rfl rfl rfl rfl) ?_
      refine Lo uS8n102 (v_alloc rfl rfl) ?_
      refine Lo uS8n102 (wS8n1 rfl rfl rfl rfl rfl rfl rfl) ?_
      refine L_nil (K_seq (B_seq ?_))
      refine B_gh (Gh.freezeEnd (cs := rlB (p.rules.getD m r0)) 7 rfl rfl) ?_
      refine B_region ?_
      refine Lo uS8n102 (v_const (VVal.slice none 0 0 true 0) (.inr rfl) rfl) ?_
      refine L_nil (K_seq (B_seq (B_seq (B_region ?_))))
      refine Lo uS8n102 (v_const (VVal.int .i64 0) (.inr rfl) rfl) ?_
      refine L_nil (K_seq (B_block ?_))
      refine B_clear (mk 102 5070602400912917605986812820529) (env' := uS8n102) rfl ?_
      refine B_loopE (fun (⟨k, sv⟩ : Nat × VVal) => (p.rules.getD m r0).steps.length - k) (fun (⟨k, sv⟩ : Nat × VVal) => [(8, sv), (9, iI (k : Nat))]) (fun (⟨k, sv⟩ : Nat × VVal) G => (k ≤ (p.rules.getD m r0).steps.length ∧ k ≤ 20) ∧ ∃ X, G = (H ++ [VBlk.dead, pqB 0 nilS nilS nilS, pqB p.users (fzW (p.who.take 20)) (fzI (p.fixed.take 20)) lv]) ++ X ∧ LV (H.length + 3) 3 X lv (((p.rules.take m).map cutR).flatMap rlB) ((p.rules.take m).map cutR).length ∧ LV (H.length + 3) 1 X sv (((p.rules.getD m r0).steps.take k).map iI) ((p.rules.getD m r0).steps.take k).length ∧ ∀ n, vidx lv = some n → vidx sv ≠ some n) ⟨0, _⟩ rfl ?_ ?_
      ·refine ⟨?_, ⟨X ++ [.dead], rfl, LV.app hl _, LV.nil _ _ _, fun n _ e => by cases e⟩⟩
       exact ⟨Nat.zero_le _, Nat.zero_le _⟩
      rintro ⟨k, sv⟩ _ ⟨⟨hk1, hk2⟩, ⟨X3, rfl, hl3, hs, hd⟩⟩
      refine B_env (env' := uS8n102) rfl ?_
      refine B_seq (B_seq (B_region ?_))
      refine Lo uS8n102 (v_move (.inl rfl) rfl) ?_
      refine Lo uS8n102 (rfl) ?_
      refine Lo uS8n102 (wS8n0 rfl rfl rfl rfl) ?_
      refine Lo uS8n102 (rfl) ?_
      refine Lo uS8n102 (rfl) ?_
      refine Lo uS8n102 (v_move (.inl rfl) rfl) ?_
      refine L_split 76 (env1 := uS8n102) (env2 := uS8n102) rfl rfl rfl (fun hg7 => ?_) (fun hg7 => ?_)
      ·try simp only [qB, qN] at hg7
       refine Lo uS8n102 (v_move (.inl rfl) rfl) ?_
       refine Lo uS8n102 (rfl) ?_
       refine Lo uS8n102 (v_pickT rfl rfl rfl) ?_
       refine L_nil (K_seq ?_)
       refine B_cond _ rfl (fun hc8 => ?_) (fun hc8 => ?_)
       ·try simp only [qB, qN] at hc8
        refine B_skip (K_seq (B_seq (B_block (B_region ?_))))
        refine Lo uS8n102 (v_move (.inl rfl) rfl) ?_
        refine Lo uS8n102 (rfl) ?_
        refine Lo uS8n102 (wS8n0 rfl rfl rfl rfl) ?_
        refine Lo uS8n102 (v_move (.inl rfl) rfl) ?_
        refine Lo uS8n102 (wS8n2 rfl rfl rfl rfl rfl rfl rfl) ?_
        refine Lo uS8n102 (wS8n0 rfl rfl rfl rfl) ?_
        refine Lo uS8n102 (v_buildSlice rfl rfl (by decide) rfl) ?_
        refine L_opX rfl rfl (v_appXh rfl rfl rfl rfl rfl rfl rfl (by simp) hs rfl rfl (by decide) (by rw [List.length_take]; show (_ + 1) * 8 ≤ _ ∧ _ + 1 ≤ _; omega) (by decide)) ?_
        rintro _ _ ⟨Y1, rfl, rfl, hY1, hY2, hY3⟩
        refine Le uS8n102 ?_
        refine Lo uS8n102 (v_move (.inr rfl) rfl) ?_
        refine L_nil (K_blk (K_seq (B_region ?_)))
        refine Lo uS8n102 (v_move (.inl rfl) rfl) ?_
        refine Lo uS8n102 (wS8n3 rfl rfl rfl) ?_
        refine Lo uS8n102 (v_move (.inr rfl) rfl) ?_
        refine L_nil ?_
        refine K_loop (mk 102 5070602400912917605986812820529) (env' := uS8n102) rfl ⟨⟨k + 1, _⟩, ?_, rfl, ?_⟩
        ·first | omega | (simp only []; omega)
        ·exact ⟨⟨by omega, by omega⟩, _, rfl, LV.app (LV.keep hl3 hd hY2) _, by rw [take_at (d := 0) (by omega)]; exact LV.pushI hY3, LV.far hl3 (Nat.le_succ _)⟩
       ·try simp only [qB, qN] at hc8
        refine B_exit (K_seqX (K_loopX (K_blkX (K_seq ?_))))
        rw [take_end (m := 20) hk2 (by omega)] at hs
        refine B_ghLVh (env' := uS8n102) 8 hs (by simp) rfl rfl fun X4 hX4 hF4 => ?_
        have hl4 := LV.keep hl3 hd hF4
        refine B_region ?_
        refine Lo uS8n102 (rfl) ?_
        refine Lo uS8n102 (wS8n0 rfl rfl rfl rfl) ?_
        refine Lo uS8n102 (rfl) ?_
        refine Lo uS8n102 (wS8n0 rfl rfl rfl rfl) ?_
        refine Lo uS8n102 (rfl) ?_
        refine Lo uS8n102 (wS8n0 rfl rfl rfl rfl) ?_
        refine Lo uS8n102 (v_move (.inl rfl) rfl) ?_
        refine Lo uS8n102 (rfl) ?_
        refine Lo uS8n102 (v_buildSlice rfl rfl (by decide) rfl) ?_
        refine L_opX rfl rfl (v_appXh rfl rfl rfl rfl rfl rfl rfl (by simp) hl4 rfl rfl (by decide) (by rw [List.length_map, List.length_take]; show (_ + 1) * 40 ≤ _ ∧ _ + 1 ≤ _; omega) (by decide)) ?_
        rintro _ _ ⟨Y1, rfl, rfl, hY1, hY2, hY3⟩
        refine Le uS8n102 ?_
        refine Lo uS8n102 (rfl) ?_
        refine Lo uS8n102 (wS8n1 rfl rfl rfl rfl rfl rfl rfl) ?_
        refine L_nil (K_blk (K_seq (B_region ?_)))
        refine Lo uS8n102 (v_move (.inl rfl) rfl) ?_
        refine Lo uS8n102 (wS8n3 rfl rfl rfl) ?_
        refine Lo uS8n102 (v_move (.inr rfl) rfl) ?_
        refine L_nil ?_
        refine K_loop (mk 102 5070602400912917605986812821425) (env' := uS8n102) rfl ⟨m + 1, ?_, rfl, ?_⟩
        ·first | omega | (simp only []; omega)
        ·exact ⟨⟨by omega, by omega⟩, _, _, rfl, by rw [cutR_step (by omega)]; exact LV.pushF hY3⟩
      ·try simp only [qB, qN] at hg7
       refine Lf uS8n102 ?_
       refine Lf uS8n102 ?_
       refine Lo uS8n102 (v_pickFC (VVal.bool false) rfl rfl rfl) ?_
       refine L_nil (K_seq ?_)
       refine B_false rfl rfl ?_
       refine B_exit (K_seqX (K_loopX (K_blkX (K_seq ?_))))
       rw [take_end (m := 20) hk2 (by omega)] at hs
       refine B_ghLVh (env' := uS8n102) 8 hs (by simp) rfl rfl fun X4 hX4 hF4 => ?_
       have hl4 := LV.keep hl3 hd hF4
       refine B_region ?_
       refine Lo uS8n102 (rfl) ?_
       refine Lo uS8n102 (wS8n0 rfl rfl rfl rfl) ?_
       refine Lo uS8n102 (rfl) ?_
       refine Lo uS8n102 (wS8n0 rfl rfl rfl rfl) ?_
       refine Lo uS8n102 (rfl) ?_
       refine Lo uS8n102 (wS8n0 rfl rfl rfl rfl) ?_
       refine Lo uS8n102 (v_move (.inl rfl) rfl) ?_
       refine Lo uS8n102 (rfl) ?_
       refine Lo uS8n102 (v_buildSlice rfl rfl (by decide) rfl) ?_
       refine L_opX rfl rfl (v_appXh rfl rfl rfl rfl rfl rfl rfl (by simp) hl4 rfl rfl (by decide) (by rw [List.length_map, List.length_take]; show (_ + 1) * 40 ≤ _ ∧ _ + 1 ≤ _; omega) (by decide)) ?_
       rintro _ _ ⟨Y1, rfl, rfl, hY1, hY2, hY3⟩
       refine Le uS8n102 ?_
       refine Lo uS8n102 (rfl) ?_
       refine Lo uS8n102 (wS8n1 rfl rfl rfl rfl rfl rfl rfl) ?_
       refine L_nil (K_blk (K_seq (B_region ?_)))
       refine Lo uS8n102 (v_move (.inl rfl) rfl) ?_
       refine Lo uS8n102 (wS8n3 rfl rfl rfl) ?_
       refine Lo uS8n102 (v_move (.inr rfl) rfl) ?_
       refine L_nil ?_
       refine K_loop (mk 102 5070602400912917605986812821425) (env' := uS8n102) rfl ⟨m + 1, ?_, rfl, ?_⟩
       ·first | omega | (simp only []; omega)
       ·exact ⟨⟨by omega, by omega⟩, _, _, rfl, by rw [cutR_step (by omega)]; exact LV.pushF hY3⟩
     ·try simp only [qB, qN] at hc6
      refine B_exit (K_seqX (K_loopX (K_blkX ?_)))
      refine K_loop (mk 102 5070602400912917605986812821491) (env' := uS8n102) rfl ⟨(), rfl, ?_⟩
      exact ⟨trivial, _, _, rfl, by rw [← take_end (m := 40) hm2 (by omega)]; exact hl⟩
    ·try simp only [qB, qN] at hg5
     refine Lf uS8n102 ?_
     refine Lf uS8n102 ?_
     refine Lo uS8n102 (v_pickFC (VVal.bool false) rfl rfl rfl) ?_
     refine L_nil (K_seq ?_)
     refine B_false rfl rfl ?_
     refine B_exit (K_seqX (K_loopX (K_blkX ?_)))
     refine K_loop (mk 102 5070602400912917605986812821491) (env' := uS8n102) rfl ⟨(), rfl, ?_⟩
     exact ⟨trivial, _, _, rfl, by rw [← take_end (m := 40) hm2 (by omega)]; exact hl⟩
   ·rintro u0 _ ⟨_, ⟨lv, X, rfl, hl⟩⟩
    refine B_env (env' := uS8n102) rfl ?_
    refine B_seq ?_
    refine B_ghCell 2 3 hl rfl rfl (by simp) fun X5 _ _ => ?_
    refine B_heap (List.append_assoc _ _ _) ?_
    refine B_region ?_
    refine Lo uS8n102 (wS8n4 rfl rfl rfl rfl rfl) ?_
    refine Lo uS8n102 (wS8n1 rfl rfl rfl rfl rfl rfl rfl) ?_
    refine L_nil (K_seq (B_ret ?_))
    refine wS8n5 (.inr rfl) (vres_cellA rfl rfl rfl rfl (by first | exact get_app rfl rfl | exact get_out (by assumption) | exact getE0 rfl rfl | exact get_out (get_app rfl rfl) | exact get_app rfl (by assumption) | assumption | (simp only [List.append_assoc, List.singleton_append, List.cons_append, List.nil_append]; refine getE (i := 0) rfl ?_ rfl; simp; done) | (simp only [List.append_assoc, List.singleton_append, List.cons_append, List.nil_append]; refine getE (i := 1) rfl ?_ rfl; simp; done) | (simp only [List.append_assoc, List.singleton_append, List.cons_append, List.nil_append]; refine getE (i := 2) rfl ?_ rfl; simp; done) | (simp only [List.append_assoc, List.singleton_append, List.cons_append, List.nil_append]; refine getE (i := 3) rfl ?_ rfl; simp; done) | (simp [*]; done)) (by first | rfl | assumption | exact fgetN (α := BitVec 64) 0 (by omega) | exact fgetN (α := Int) 0 (by omega) | exact rul_at (by omega))) ?_
    exact ⟨rfl, rfl⟩

theorem rowP_spec {x : SW} (H : VHeap) (l : List Int) : F (psys x) 10 [fzI l] H fun v G => v = .slice (some (H.length, 0)) (l.take 30).length (l.take 30).length (decide ((l.take 30).length = 0)) 1 ∧ G = H ++ [.cells ((l.take 30).map iI) true] := by
 refine F_body Try.func10 rfl uS8n11 rfl ?_
 refine B_seq (B_region ?_)
 refine Lo uS8n11 (v_const (VVal.slice none 0 0 true 0) (.inr rfl) rfl) ?_
 refine L_nil (K_seq (B_seq (B_seq (B_region ?_))))
 refine Lo uS8n11 (v_move (.inl rfl) rfl) ?_
 refine Lo uS8n11 (rfl) ?_
 refine Lo uS8n11 (rfl) ?_
 refine L_nil (K_seq ?_)
 refine B_cond _ rfl (fun hc1 => ?_) (fun hc1 => ?_)
 ·try simp only [qB] at hc1
  refine B_region ?_
  refine Lo uS8n11 (v_move (.inl rfl) rfl) ?_
  refine Lo uS8n11 (v_iHi (k := 30) rfl rfl rfl rfl rfl rfl rfl (by omega)) ?_
  refine Lo uS8n11 (v_move (.inr rfl) rfl) ?_
  refine L_nil (K_seq (B_seq (B_region ?_)))
  have h30 : (l.take 30).length ≤ 30 := by rw [List.length_take]; omega
  try rw [show fzI l = fzI (l.take 30) by rw [List.take_of_length_le (by omega)]]
  refine Lo uS8n11 (v_buildSlice rfl rfl (by decide) rfl) ?_
  refine Lo uS8n11 (v_move (.inl rfl) rfl) ?_
  refine L_opX rfl rfl (v_appE (k := (l.take 30).length) rfl rfl rfl rfl rfl rfl rfl rfl (by rw [List.length_map]; exact (Nat.mul_one _).symm) (mapI_one _) (by decide) (by show (l.take 30).length * 8 ≤ _ ∧ (l.take 30).length ≤ _; omega)) ?_
  rintro _ _ ⟨Z, i, rfl, rfl, hi⟩
  refine Le uS8n11 ?_
  refine Lo uS8n11 (v_move (.inr rfl) rfl) ?_
  refine L_nil (K_seq (B_ret ?_))
  refine E_gh (.inr rfl) (vres_tmp rfl rfl) (Gh.pack (BaseOk.refl _) hi (mapI_under _ _)) ?_
  exact ⟨rfl, rfl⟩
 ·try simp only [qB] at hc1
  refine B_skip (K_seq (B_seq (B_region ?_)))
  have h30 : (l.take 30).length ≤ 30 := by rw [List.length_take]; omega
  try rw [show fzI l = fzI (l.take 30) by rw [List.take_of_length_le (by omega)]]
  refine Lo uS8n11 (v_buildSlice rfl rfl (by decide) rfl) ?_
  refine Lo uS8n11 (v_move (.inl rfl) rfl) ?_
  refine L_opX rfl rfl (v_appE (k := (l.take 30).length) rfl rfl rfl rfl rfl rfl rfl rfl (by rw [List.length_map]; exact (Nat.mul_one _).symm) (mapI_one _) (by decide) (by show (l.take 30).length * 8 ≤ _ ∧ (l.take 30).length ≤ _; omega)) ?_
  rintro _ _ ⟨Z, i, rfl, rfl, hi⟩
  refine Le uS8n11 ?_
  refine Lo uS8n11 (v_move (.inr rfl) rfl) ?_
  refine L_nil (K_seq (B_ret ?_))
  refine E_gh (.inr rfl) (vres_tmp rfl rfl) (Gh.pack (BaseOk.refl _) hi (mapI_under _ _)) ?_
  exact ⟨rfl, rfl⟩

theorem row_spec {x : SW} (H : VHeap) (l : List Int) : F (psys x) 10 [fzI l] H fun v G => v = fzI (l.take 30) ∧ G = H :=
  F.gh (rowP_spec H l) fun v G h => by
    obtain ⟨rfl, rfl⟩ := h
    exact ⟨_, _, Gh.fsl (j := 0) (BaseOk.refl H) rfl map_all (Nat.le_refl _) (mapI_under _ _), rfl, rfl⟩
end Go.Proofs.Ytbngdhlmggdaaaa.VT

set_option autoImplicit false
set_option linter.unusedVariables false
set_option linter.unusedSimpArgs false
set_option maxHeartbeats 4000000
set_option maxRecDepth 100000
namespace Go.Proofs.Ytbngdhlmggdaaaa.VT
open Go Go.V Go.RowKit

abbrev uS9n26 {a0 a1 a2 a3 a4 a5 a6 a7 a8 a9 a10 a11 a12 a13 a14 a15 a16 a17 a18 a19 a20 a21 a22 a23 a24 a25 : VVal} : VEnv := a0 :: a1 :: a2 :: a3 :: a4 :: a5 :: a6 :: a7 :: a8 :: a9 :: a10 :: a11 :: a12 :: a13 :: a14 :: a15 :: a16 :: a17 :: a18 :: a19 :: a20 :: a21 :: a22 :: a23 :: a24 :: a25 :: []
abbrev uS9n100 {a0 a1 a2 a3 a4 a5 a6 a7 a8 a9 a10 a11 a12 a13 a14 a15 a16 a17 a18 a19 a20 a21 a22 a23 a24 a25 a26 a27 a28 a29 a30 a31 a32 a33 a34 a35 a36 a37 a38 a39 a40 a41 a42 a43 a44 a45 a46 a47 a48 a49 a50 a51 a52 a53 a54 a55 a56 a57 a58 a59 a60 a61 a62 a63 a64 a65 a66 a67 a68 a69 a70 a71 a72 a73 a74 a75 a76 a77 a78 a79 a80 a81 a82 a83 a84 a85 a86 a87 a88 a89 a90 a91 a92 a93 a94 a95 a96 a97 a98 a99 : VVal} : VEnv := a0 :: a1 :: a2 :: a3 :: a4 :: a5 :: a6 :: a7 :: a8 :: a9 :: a10 :: a11 :: a12 :: a13 :: a14 :: a15 :: a16 :: a17 :: a18 :: a19 :: a20 :: a21 :: a22 :: a23 :: a24 :: a25 :: a26 :: a27 :: a28 :: a29 :: a30 :: a31 :: a32 :: a33 :: a34 :: a35 :: a36 :: a37 :: a38 :: a39 :: a40 :: a41 :: a42 :: a43 :: a44 :: a45 :: a46 :: a47 :: a48 :: a49 :: a50 :: a51 :: a52 :: a53 :: a54 :: a55 :: a56 :: a57 :: a58 :: a59 :: a60 :: a61 :: a62 :: a63 :: a64 :: a65 :: a66 :: a67 :: a68 :: a69 :: a70 :: a71 :: a72 :: a73 :: a74 :: a75 :: a76 :: a77 :: a78 :: a79 :: a80 :: a81 :: a82 :: a83 :: a84 :: a85 :: a86 :: a87 :: a88 :: a89 :: a90 :: a91 :: a92 :: a93 :: a94 :: a95 :: a96 :: a97 :: a98 :: a99 :: []
abbrev uS9n114 {a0 a1 a2 a3 a4 a5 a6 a7 a8 a9 a10 a11 a12 a13 a14 a15 a16 a17 a18 a19 a20 a21 a22 a23 a24 a25 a26 a27 a28 a29 a30 a31 a32 a33 a34 a35 a36 a37 a38 a39 a40 a41 a42 a43 a44 a45 a46 a47 a48 a49 a50 a51 a52 a53 a54 a55 a56 a57 a58 a59 a60 a61 a62 a63 a64 a65 a66 a67 a68 a69 a70 a71 a72 a73 a74 a75 a76 a77 a78 a79 a80 a81 a82 a83 a84 a85 a86 a87 a88 a89 a90 a91 a92 a93 a94 a95 a96 a97 a98 a99 a100 a101 a102 a103 a104 a105 a106 a107 a108 a109 a110 a111 a112 a113 : VVal} : VEnv := a0 :: a1 :: a2 :: a3 :: a4 :: a5 :: a6 :: a7 :: a8 :: a9 :: a10 :: a11 :: a12 :: a13 :: a14 :: a15 :: a16 :: a17 :: a18 :: a19 :: a20 :: a21 :: a22 :: a23 :: a24 :: a25 :: a26 :: a27 :: a28 :: a29 :: a30 :: a31 :: a32 :: a33 :: a34 :: a35 :: a36 :: a37 :: a38 :: a39 :: a40 :: a41 :: a42 :: a43 :: a44 :: a45 :: a46 :: a47 :: a48 :: a49 :: a50 :: a51 :: a52 :: a53 :: a54 :: a55 :: a56 :: a57 :: a58 :: a59 :: a60 :: a61 :: a62 :: a63 :: a64 :: a65 :: a66 :: a67 :: a68 :: a69 :: a70 :: a71 :: a72 :: a73 :: a74 :: a75 :: a76 :: a77 :: a78 :: a79 :: a80 :: a81 :: a82 :: a83 :: a84 :: a85 :: a86 :: a87 :: a88 :: a89 :: a90 :: a91 :: a92 :: a93 :: a94 :: a95 :: a96 :: a97 :: a98 :: a99 :: a100 :: a101 :: a102 :: a103 :: a104 :: a105 :: a106 :: a107 :: a108 :: a109 :: a110 :: a111 :: a112 :: a113 :: []

theorem wS9n0 {T : TypeId → Option VTy} {H : VHeap} {op : Op} {ρ : Operand → VVal} {t : TypeId} {a : Operand} {y : VTy} {p : VVal} {n : Nat} {vs : List VVal} (ho : op = .load t a) (ha : ρ a = p) (hy : T t = some y) (hd : isAggDesc y.desc = true) (hn : y.size = n) (h : LdOkA H p n vs := by first | exact .inl ⟨_, _, rfl, by first | rfl | assumption | exact fgetN (α := BitVec 64) 0 (by omega) | exact fgetN (α := Int) 0 (by omega) | exact rul_at (by omega)⟩ | exact .inr ⟨_, _, _, _, rfl, by first | exact get_app rfl rfl | exact get_out (by assumption) | exact getE0 rfl rfl | exact get_out (get_app rfl rfl) | exact get_app rfl (by assumption) | assumption | (simp only [List.append_assoc, List.singleton_append, List.cons_append, List.nil_append]; refine getE (i := 0) rfl ?_ rfl; simp; done) | (simp only [List.append_assoc, List.singleton_append, List.cons_append, List.nil_append]; refine getE (i := 1) rfl ?_ rfl; simp; done) | (simp only [List.append_assoc, List.singleton_append, List.cons_append, List.nil_append]; refine getE (i := 2) rfl ?_ rfl; simp; done) | (simp only [List.append_assoc, List.singleton_append, List.cons_append, List.nil_append]; refine getE (i := 3) rfl ?_ rfl; simp; done) | (simp [*]; done), by first | rfl | assumption | exact fgetN (α := BitVec 64) 0 (by omega) | exact fgetN (α := Int) 0 (by omega) | exact rul_at (by omega)⟩) : vop T ρ H op = some (.agg vs, H) := v_ldA ho ha hy hd hn h
theorem wS9n1 {S : V.Sys} {H : VHeap} {fn : Func} {ex : Exit} {env : VEnv} {B L : VHeap} {v : VVal} {R : VVal → VHeap → Prop} (hx : ex = .normal ∨ ex = .ret) (hv : vresults S.C.T env (B ++ L) fn.results = some v) (h : R v B) (hB : BaseOk H B := by first | exact BaseOk.refl _ | exact BaseOk.set (BaseOk.refl _) _ rfl) (hu : v.under H.length = true := by first | rfl | (simp only [VVal.under, VVal.underL, Bool.and_true]; exact fl_under)) : fnK S fn H R ex env (B ++ L) := E_app hx hv hB hu h
theorem wS9n2 {P : Prop} (h : P := by first | exact ⟨by rw [flA_1 (by assumption)]; rfl, rfl⟩ | (rw [List.take_of_length_le (by omega)]; exact ⟨by rw [flA_0 (by assumption), show pck p = 0 by assumption, flw_in (by omega)]; rfl, rfl⟩) | exact ⟨by rw [flA_0 (by assumption), show pck p = 0 by assumption, flw_len (by omega)]; rfl, rfl⟩) : P := h
theorem wS9n3 {T : TypeId → Option VTy} {H : VHeap} {op : Op} {ρ : Operand → VVal} {t : TypeId} {a : Operand} {y : VTy} {p v : VVal} (ho : op = .load t a) (ha : ρ a = p) (hy : T t = some y) (hd : isAggDesc y.desc = false) (h : LdOk H p v := by first | exact .inl ⟨_, _, rfl, by first | rfl | assumption | exact fgetN (α := BitVec 64) 0 (by omega) | exact fgetN (α := Int) 0 (by omega) | exact rul_at (by omega)⟩ | exact .inr ⟨_, _, _, _, rfl, by first | exact get_app rfl rfl | exact get_out (by assumption) | exact getE0 rfl rfl | exact get_out (get_app rfl rfl) | exact get_app rfl (by assumption) | assumption | (simp only [List.append_assoc, List.singleton_append, List.cons_append, List.nil_append]; refine getE (i := 0) rfl ?_ rfl; simp; done) | (simp only [List.append_assoc, List.singleton_append, List.cons_append, List.nil_append]; refine getE (i := 1) rfl ?_ rfl; simp; done) | (simp only [List.append_assoc, List.singleton_append, List.cons_append, List.nil_append]; refine getE (i := 2) rfl ?_ rfl; simp; done) | (simp only [List.append_assoc, List.singleton_append, List.cons_append, List.nil_append]; refine getE (i := 3) rfl ?_ rfl; simp; done) | (simp [*]; done), by first | rfl | assumption | exact fgetN (α := BitVec 64) 0 (by omega) | exact fgetN (α := Int) 0 (by omega) | exact rul_at (by omega)⟩) : vop T ρ H op = some (v, H) := v_ld ho ha hy hd h
theorem wS9n4 {T : TypeId → Option VTy} {H : VHeap} {op : Op} {ρ : Operand → VVal} {t e : TypeId} {x i : Operand} {y z : VTy} {k : IntKind} {n : Int} {p v : VVal} {es : Nat} (ho : op = .indexAddr t x i) (hx : ρ x = p) (hi : ρ i = .int k n) (hy : T t = some y) (hd : y.desc = .slice e) (hz : T e = some z) (hs : z.size = es) (h : IxOk p es n v := by first | exact .inl ⟨_, _, _, rfl, by first | assumption | omega | (simp [*]; done) | (simp at *; omega), rfl⟩ | exact .inr ⟨_, _, _, _, _, rfl, by first | assumption | omega | (simp [*]; done) | (simp at *; omega), rfl⟩) : vop T ρ H op = some (v, H) := v_ix ho hx hi hy hd hz hs h
theorem wS9n5 {T : TypeId → Option VTy} {H : VHeap} {op : Op} {ρ : Operand → VVal} {t ty : TypeId} {x y : Operand} {n m : Int} (ho : op = .binOp .add t x y ty) (hx : ρ x = .int .i64 n) (hy : ρ y = .int .i64 m) (h : -9223372036854775808 ≤ n + m ∧ n + m < 9223372036854775808 := by first | assumption | omega | (simp [*]; done) | (simp at *; omega)) : vop T ρ H op = some (.int .i64 (n + m), H) := v_addI ho hx hy h
theorem wS9n6 {S : V.Sys} {H : VHeap} {fn : Func} {ex : Exit} {env : VEnv} {B L : VHeap} {v : VVal} {R : VVal → VHeap → Prop} (hx : ex = .normal ∨ ex = .ret) (hv : vresults S.C.T env (B ++ L) fn.results = some v) (h : R v B) (hB : BaseOk H B := by first | exact BaseOk.refl _ | exact BaseOk.set (BaseOk.refl _) _ rfl) (hu : v.under H.length = true := by first | rfl | exact fl_under | simp [VVal.under, VVal.underL]) : fnK S fn H R ex env (B ++ L) := E_app hx hv hB hu h
theorem wS9n7 {P : Prop} (h : P := by first | exact ⟨by rw [flw_len (by omega)]; rfl, rfl⟩ | (rw [List.take_of_length_le (by omega)]; exact ⟨by rw [flw_in (by omega)]; rfl, rfl⟩)) : P := h
theorem wS9n8 {T : TypeId → Option VTy} {H : VHeap} {op : Op} {ρ : Operand → VVal} {t : TypeId} {a : Operand} {y : VTy} {p : VVal} {n : Nat} {vs : List VVal} (ho : op = .load t a) (ha : ρ a = p) (hy : T t = some y) (hd : isAggDesc y.desc = true) (hn : y.size = n) (h : LdOkA H p n vs := by first | exact .inl ⟨_, _, rfl, by first | rfl | exact fl_at (by omega)⟩ | exact .inr ⟨_, _, _, _, rfl, by first | exact get_app rfl rfl | exact get_out (by assumption) | exact getE0 rfl rfl | exact get_out (get_app rfl rfl) | exact get_app rfl (by assumption) | assumption | (simp only [List.append_assoc, List.singleton_append, List.cons_append, List.nil_append]; refine getE (i := 0) rfl ?_ rfl; simp; done) | (simp only [List.append_assoc, List.singleton_append, List.cons_append, List.nil_append]; refine getE (i := 1) rfl ?_ rfl; simp; done) | (simp only [List.append_assoc, List.singleton_append, List.cons_append, List.nil_append]; refine getE (i := 2) rfl ?_ rfl; simp; done) | (simp only [List.append_assoc, List.singleton_append, List.cons_append, List.nil_append]; refine getE (i := 3) rfl ?_ rfl; simp; done) | (simp [*]; done), by first | rfl | exact fl_at (by omega)⟩) : vop T ρ H op = some (.agg vs, H) := v_ldA ho ha hy hd hn h
theorem wS9n9 {S : V.Sys} {H : VHeap} {fn : Func} {ex : Exit} {env : VEnv} {B L : VHeap} {v : VVal} {R : VVal → VHeap → Prop} (hx : ex = .normal ∨ ex = .ret) (hv : vresults S.C.T env (B ++ L) fn.results = some v) (h : R v B) (hB : BaseOk H B := by first | exact BaseOk.refl _ | exact BaseOk.set (BaseOk.refl _) _ rfl) (hu : v.under H.length = true := by first | rfl | simp [VVal.under, VVal.underL, *]) : fnK S fn H R ex env (B ++ L) := E_app hx hv hB hu h

/-! flaws -/
abbrev flB (x : Int × Int × Int) : List VVal := [iI x.1, iI x.2.1, iI x.2.2]
def fzF (l : List (Int × Int × Int)) : VVal := .fsl (l.flatMap flB) l.length 3 false
theorem fl_under {n : Nat} {l : List (Int × Int × Int)} : VVal.underL n (l.flatMap flB) = true := fm_under (f := flB) (fun a => rfl) l
theorem fzF_under {n : Nat} {l : List (Int × Int × Int)} : (fzF l).under n = true := fl_under
theorem fl_at {l : List (Int × Int × Int)} {k : Nat} (h : k < l.length) : cellsAt (l.flatMap flB) (((k : Nat) : Int).toNat * 3) 3 = some (flB (l.getD k (0, 0, 0))) := by
  rw [Int.toNat_natCast]; exact fm_nat (f := flB) (m := 3) (fun _ => rfl) l k (0, 0, 0) h
theorem flk_2 {u f x : Int} {w : BitVec 64} (h : x < 0 ∨ u ≤ x) : flk u f w x = 2 := if_pos h
theorem flk_3 {u f x : Int} {w : BitVec 64} (h : ¬ (x < 0 ∨ u ≤ x)) (h2 : 0 ≤ f) (h3 : ¬ f = x) : flk u f w x = 3 := by unfold flk; rw [if_neg h, if_pos ⟨h2, h3⟩]
theorem flk_4 {u f x : Int} {w : BitVec 64} (h : ¬ (x < 0 ∨ u ≤ x)) (h2 : f < 0) (h3 : w.getLsbD x.toNat = false) : flk u f w x = 4 := by unfold flk; rw [if_neg h, if_neg (by omega), if_pos ⟨h2, h3⟩]
theorem flk_0a {u f x : Int} {w : BitVec 64} (h : ¬ (x < 0 ∨ u ≤ x)) (h2 : 0 ≤ f) (h3 : f = x) : flk u f w x = 0 := by unfold flk; rw [if_neg h, if_neg (by omega), if_neg (by omega)]
theorem flk_0b {u f x : Int} {w : BitVec 64} (h : ¬ (x < 0 ∨ u ≤ x)) (h2 : f < 0) (h3 : w.getLsbD x.toNat = true) : flk u f w x = 0 := by unfold flk; rw [if_neg h, if_neg (by omega), if_neg (by rw [h3]; simp)]
theorem flU_no {p : Pb} {l : List Int} {n : Nat} (h : flk p.users (p.fixed.getD n 0) (p.who.getD n 0) (l.getD n 0) = 0) : flU p l (n + 1) = flU p l n := by rw [flU_succ, if_pos h, List.append_nil]
theorem flU_yes {p : Pb} {l : List Int} {n : Nat} {k : Int} (h : flk p.users (p.fixed.getD n 0) (p.who.getD n 0) (l.getD n 0) = k) (hk : ¬ k = 0) : flU p l (n + 1) = flU p l n ++ [(k, (n : Int), 0)] := by rw [flU_succ, h, if_neg hk]
theorem flR_step {b : List Int} {j : Nat} (h : j < b.length) : flR (b.take (j + 1)) = flR (b.take j) ++ [(5, 0, b.getD j 0)] := by rw [take_at (d := 0) h]; unfold flR; rw [List.map_append]; rfl
theorem flw_len {p : Pb} {l : List Int} (h : ¬ l.length = p.who.length) : flw p l = [(1, 0, 0)] := if_pos h
theorem flw_in {p : Pb} {l : List Int} (h : l.length = p.who.length) : flw p l = flU p l l.length ++ flR (brk p.rules l) := if_neg (by simpa using h)
theorem flR_len {b : List Int} : (flR b).length = b.length := List.length_map _
theorem LV.pushL {h : Nat} {X : VHeap} {v : VVal} {l m : List (Int × Int × Int)} {a b c : Int} (r : LV h 3 X v (l.flatMap flB ++ [iI a, iI b, iI c]) (l.length + 1)) (e : m = l ++ [(a, b, c)]) : LV h 3 X v (m.flatMap flB) m.length := by subst e; exact LV.pushF r
section
variable {T : TypeId → Option VTy} {ρ : Operand → VVal} {H : VHeap} {op : Op}
theorem v_neF {t ty : TypeId} {x y : Operand} {fs : Array Field} {i : VTy} {a : Int × Int × Int} (ho : op = .binOp .neq t x y ty) (hx : ρ x = .agg (flB a)) (hy : ρ y = .agg (flB a)) (hT : T t = some i) (hd : i.desc = .struct fs) (hf : i.flat = true) (hs : i.size = 3) : vop T ρ H op = some (.bool false, H) := by
  rw [ho]; simp [vop, vbin, hx, hy, veq, hT, hd, hf, hs, flatEq]
end
def flA (p : Pb) (us : List Int) : List (Int × Int × Int) := if pck p = 0 then flw p us else []
theorem flA_0 {p : Pb} {us : List Int} (h : pck p = 0) : flA p us = flw p us := if_pos h
theorem flA_1 {p : Pb} {us : List Int} (h : ¬ pck p = 0) : flA p us = [] := if_neg h
theorem app_flR {l : List (Int × Int × Int)} {b : List Int} {j : Nat} (h : j < b.length) : l ++ flR (b.take (j + 1)) = l ++ flR (b.take j) ++ [(5, 0, b.getD j 0)] := by rw [flR_step h, List.append_assoc]

theorem Flaws_spec {x : SW} (H : VHeap) (p : Pb) (us : List Int) (hp : PbL p) (hu : us.length ≤ 1000000) : F (psys x) 9 [.agg (pbB p), fzI us] H fun v G => v = .tuple [fzF (flA p us), iI (pck p)] ∧ G = H := by
 have hp1 := hp.u; have hp2 := hp.w; have hp3 := hp.f; have hp4 := hp.r
 refine F_body Try.func9 rfl uS9n100 rfl ?_
 refine B_seq (B_region ?_)
 refine Lo uS9n100 (v_boxT rfl rfl rfl) ?_
 refine Lo uS9n100 (v_const (VVal.slice none 0 0 true 0) (.inr rfl) rfl) ?_
 refine Lo uS9n100 (v_const (VVal.int .i64 0) (.inr rfl) rfl) ?_
 refine L_nil (K_seq (B_seq (B_seq (B_region ?_))))
 refine Lo uS9n100 (wS9n0 rfl rfl rfl rfl rfl) ?_
 refine L_call rfl rfl rfl (by exact sCheck_spec _ _ hp) ?_
 rintro _ _ ⟨rfl, rfl⟩
 refine Le uS9n100 ?_
 refine Lo uS9n100 (v_move (.inr rfl) rfl) ?_
 refine L_nil (K_seq (B_seq (B_region ?_)))
 refine Lo uS9n100 (v_move (.inl rfl) rfl) ?_
 refine Lo uS9n100 (rfl) ?_
 refine L_nil (K_seq ?_)
 refine B_cond _ rfl (fun hc1 => ?_) (fun hc1 => ?_)
 ·try simp only [qB, qN] at hc1
  refine B_seq (B_region ?_)
  refine Lo uS9n100 (v_move (.inl rfl) rfl) ?_
  refine Lo uS9n100 (v_const (VVal.slice none 0 0 true 0) (.inr rfl) rfl) ?_
  refine Lo uS9n100 (v_move (.inr rfl) rfl) ?_
  refine L_nil (K_seq ?_)
  refine B_gh (Gh.freezeNil 4 (es' := 3) rfl rfl) ?_
  refine B_ret (K_seqR ?_)
  refine wS9n1 (.inr rfl) (vres_tmp2 rfl rfl rfl) ?_
  exact wS9n2
 ·try simp only [qB, qN] at hc1
  refine B_skip (K_seq (B_seq (B_seq ?_)))
  have g : Go.V.Good p := pck_good.1 (by assumption)
  have g1 := g.n12; have g2 := g.u64; have g3 := g.r32; have g4 := g.u0; have g5 := g.fx
  have hbr := brk_len p.rules us
  refine B_region ?_
  refine Lo uS9n100 (v_move (.inl rfl) rfl) ?_
  refine Lo uS9n100 (rfl) ?_
  refine Lo uS9n100 (rfl) ?_
  refine Lo uS9n100 (wS9n3 rfl rfl rfl rfl) ?_
  refine Lo uS9n100 (rfl) ?_
  refine Lo uS9n100 (rfl) ?_
  refine L_nil (K_seq ?_)
  refine B_cond _ rfl (fun hc2 => ?_) (fun hc2 => ?_)
  ·try simp only [qB, qN] at hc2
   refine B_seq (B_region ?_)
   refine Lo uS9n100 (rfl) ?_
   refine Lo uS9n100 (v_buildSlice rfl rfl (by decide) rfl) ?_
   refine Lo uS9n100 (v_move (.inr rfl) rfl) ?_
   refine Lo uS9n100 (v_const (VVal.int .i64 0) (.inr rfl) rfl) ?_
   refine L_nil (K_seq ?_)
   refine B_gh (Gh.freezeL (l := [iI 1, iI 0, iI 0]) 4 1 rfl rfl rfl (Nat.le_refl _) rfl) ?_
   refine B_ret (K_seqR ?_)
   refine wS9n1 (.inr rfl) (vres_tmp2 rfl rfl rfl) ?_
   exact wS9n2
  ·try simp only [qB, qN] at hc2
   refine B_skip (K_seq (B_seq (B_region ?_)))
   refine Lo uS9n100 (v_const (VVal.slice none 0 0 true 0) (.inr rfl) rfl) ?_
   refine L_nil (K_seq (B_seq (B_seq (B_region ?_))))
   refine Lo uS9n100 (v_move (.inl rfl) rfl) ?_
   refine Lo uS9n100 (rfl) ?_
   refine Lo uS9n100 (v_const (VVal.int .i64 0) (.inl rfl) rfl) ?_
   refine L_nil (K_seq (B_block ?_))
   refine B_clear (mk 100 1267650600228229401496233443193) (env' := uS9n100) rfl ?_
   refine B_loopE (fun (⟨k, lv⟩ : Nat × VVal) => us.length - k) (fun (⟨k, lv⟩ : Nat × VVal) => [(7, lv), (28, iI (k : Nat))]) (fun (⟨k, lv⟩ : Nat × VVal) G => (k ≤ us.length) ∧ ∃ X, G = (H ++ [VBlk.cells (pbB p) true]) ++ X ∧ LV (H.length + 1) 3 X lv ((flU p us k).flatMap flB) (flU p us k).length) ⟨0, _⟩ rfl ?_ ?_
   ·refine ⟨?_, ⟨[], (List.append_nil _).symm, LV.nil _ _ _⟩⟩
    exact Nat.zero_le _
   rintro ⟨k, lv⟩ _ ⟨hk, ⟨X, rfl, hl⟩⟩
   refine B_env (env' := uS9n100) rfl ?_
   have hfl := flU_len p us k
   refine B_seq (B_region ?_)
   refine Lo uS9n100 (rfl) ?_
   refine L_nil (K_seq (B_seq ?_))
   refine B_cond _ rfl (fun hc3 => ?_) (fun hc3 => ?_)
   ·try simp only [qB, qN] at hc3
    refine B_skip (K_seq (B_seq (B_block (B_seq (B_region ?_)))))
    refine Lo uS9n100 (v_move (.inl rfl) rfl) ?_
    refine Lo uS9n100 (wS9n4 rfl rfl rfl rfl rfl rfl rfl) ?_
    refine Lo uS9n100 (wS9n3 rfl rfl rfl rfl) ?_
    refine Lo uS9n100 (v_move (.inr rfl) rfl) ?_
    refine Lo uS9n100 (v_move (.inr rfl) rfl) ?_
    refine L_nil (K_seq (B_seq (B_region ?_)))
    refine Lo uS9n100 (v_const (VVal.int .i64 0) (.inr rfl) rfl) ?_
    refine L_nil (K_seq (B_seq (B_block (B_seq (B_region ?_)))))
    refine Lo uS9n100 (v_move (.inl rfl) rfl) ?_
    refine Lo uS9n100 (rfl) ?_
    refine Lo uS9n100 (v_move (.inl rfl) rfl) ?_
    refine L_split 36 (env1 := uS9n100) (env2 := uS9n100) rfl rfl rfl (fun hg4 => ?_) (fun hg4 => ?_)
    ·try simp only [qB, qN] at hg4
     refine Lf uS9n100 ?_
     refine Lf uS9n100 ?_
     refine Lf uS9n100 ?_
     refine Lf uS9n100 ?_
     refine Lo uS9n100 (v_pickTC (VVal.bool true) rfl rfl rfl) ?_
     refine Lo uS9n100 (v_move (.inr rfl) rfl) ?_
     refine L_nil (K_seq ?_)
     refine B_true rfl rfl ?_
     refine B_region ?_
     refine Lo uS9n100 (v_const (VVal.int .i64 2) (.inr rfl) rfl) ?_
     refine L_nil (K_blk (K_seq (B_region ?_)))
     refine Lo uS9n100 (v_move (.inl rfl) rfl) ?_
     refine Lo uS9n100 (v_move (.inl rfl) rfl) ?_
     refine Lo uS9n100 (v_move (.inl rfl) rfl) ?_
     refine Lo uS9n100 (rfl) ?_
     refine Lo uS9n100 (v_buildSlice rfl rfl (by decide) rfl) ?_
     refine L_opX rfl rfl (v_appXh rfl rfl rfl rfl rfl rfl rfl (by simp) hl rfl rfl (by decide) (by show (_ + 1) * 24 ≤ _ ∧ _ + 1 ≤ _; omega) (by decide)) ?_
     rintro _ _ ⟨Y1, rfl, rfl, hY1, hY2, hY3⟩
     refine Le uS9n100 ?_
     refine Lo uS9n100 (v_move (.inr rfl) rfl) ?_
     refine L_nil (K_blk (K_seq (B_region ?_)))
     refine Lo uS9n100 (wS9n5 rfl rfl rfl) ?_
     refine Lo uS9n100 (v_move (.inl rfl) rfl) ?_
     refine L_nil ?_
     refine K_loop (mk 100 1267650600228229401496233443193) (env' := uS9n100) rfl ⟨⟨k + 1, _⟩, ?_, rfl, ?_⟩
     ·first | omega | (simp only []; omega)
     ·first | exact ⟨by omega, _, rfl, by rw [flU_no (by first | exact flk_0a (by omega) (by omega) (by omega) | exact flk_0b (by omega) (by omega) (by assumption))]; exact hl⟩ | exact ⟨by omega, _, rfl, LV.pushL hY3 (flU_yes (by first | exact flk_2 (by omega) | exact flk_3 (by omega) (by omega) (by omega) | exact flk_4 (by omega) (by omega) (by assumption)) (by decide))⟩
    ·try simp only [qB, qN] at hg4
     refine Lo uS9n100 (v_move (.inl rfl) rfl) ?_
     refine Lo uS9n100 (rfl) ?_
     refine Lo uS9n100 (wS9n3 rfl rfl rfl rfl) ?_
     refine Lo uS9n100 (rfl) ?_
     refine Lo uS9n100 (v_pickF rfl rfl rfl) ?_
     refine Lo uS9n100 (v_move (.inr rfl) rfl) ?_
     refine L_nil (K_seq ?_)
     refine B_cond _ rfl (fun hc5 => ?_) (fun hc5 => ?_)
     ·try simp only [qB, qN] at hc5
      refine B_region ?_
      refine Lo uS9n100 (v_const (VVal.int .i64 2) (.inr rfl) rfl) ?_
      refine L_nil (K_blk (K_seq (B_region ?_)))
      refine Lo uS9n100 (v_move (.inl rfl) rfl) ?_
      refine Lo uS9n100 (v_move (.inl rfl) rfl) ?_
      refine Lo uS9n100 (v_move (.inl rfl) rfl) ?_
      refine Lo uS9n100 (rfl) ?_
      refine Lo uS9n100 (v_buildSlice rfl rfl (by decide) rfl) ?_
      refine L_opX rfl rfl (v_appXh rfl rfl rfl rfl rfl rfl rfl (by simp) hl rfl rfl (by decide) (by show (_ + 1) * 24 ≤ _ ∧ _ + 1 ≤ _; omega) (by decide)) ?_
      rintro _ _ ⟨Y1, rfl, rfl, hY1, hY2, hY3⟩
      refine Le uS9n100 ?_
      refine Lo uS9n100 (v_move (.inr rfl) rfl) ?_
      refine L_nil (K_blk (K_seq (B_region ?_)))
      refine Lo uS9n100 (wS9n5 rfl rfl rfl) ?_
      refine Lo uS9n100 (v_move (.inl rfl) rfl) ?_
      refine L_nil ?_
      refine K_loop (mk 100 1267650600228229401496233443193) (env' := uS9n100) rfl ⟨⟨k + 1, _⟩, ?_, rfl, ?_⟩
      ·first | omega | (simp only []; omega)
      ·first | exact ⟨by omega, _, rfl, by rw [flU_no (by first | exact flk_0a (by omega) (by omega) (by omega) | exact flk_0b (by omega) (by omega) (by assumption))]; exact hl⟩ | exact ⟨by omega, _, rfl, LV.pushL hY3 (flU_yes (by first | exact flk_2 (by omega) | exact flk_3 (by omega) (by omega) (by omega) | exact flk_4 (by omega) (by omega) (by assumption)) (by decide))⟩
     ·try simp only [qB, qN] at hc5
      refine B_seq (B_region ?_)
      refine Lo uS9n100 (rfl) ?_
      refine Lo uS9n100 (wS9n3 rfl rfl rfl rfl) ?_
      refine Lo uS9n100 (v_move (.inl rfl) rfl) ?_
      refine Lo uS9n100 (wS9n4 rfl rfl rfl rfl rfl rfl rfl) ?_
      refine Lo uS9n100 (wS9n3 rfl rfl rfl rfl) ?_
      refine Lo uS9n100 (rfl) ?_
      refine Lo uS9n100 (v_move (.inl rfl) rfl) ?_
      refine L_split 49 (env1 := uS9n100) (env2 := uS9n100) rfl rfl rfl (fun hg6 => ?_) (fun hg6 => ?_)
      ·try simp only [qB, qN] at hg6
       refine Lo uS9n100 (rfl) ?_
       refine Lo uS9n100 (wS9n3 rfl rfl rfl rfl) ?_
       refine Lo uS9n100 (v_move (.inl rfl) rfl) ?_
       refine Lo uS9n100 (wS9n4 rfl rfl rfl rfl rfl rfl rfl) ?_
       refine Lo uS9n100 (wS9n3 rfl rfl rfl rfl) ?_
       refine Lo uS9n100 (v_move (.inl rfl) rfl) ?_
       refine Lo uS9n100 (rfl) ?_
       refine Lo uS9n100 (v_pickT rfl rfl rfl) ?_
       refine Lo uS9n100 (v_move (.inr rfl) rfl) ?_
       refine L_nil (K_seq ?_)
       refine B_cond _ rfl (fun hc7 => ?_) (fun hc7 => ?_)
       ·try simp only [qB, qN] at hc7
        refine B_region ?_
        refine Lo uS9n100 (v_const (VVal.int .i64 3) (.inr rfl) rfl) ?_
        refine L_nil (K_blk (K_seq (B_region ?_)))
        refine Lo uS9n100 (v_move (.inl rfl) rfl) ?_
        refine Lo uS9n100 (v_move (.inl rfl) rfl) ?_
        refine Lo uS9n100 (v_move (.inl rfl) rfl) ?_
        refine Lo uS9n100 (rfl) ?_
        refine Lo uS9n100 (v_buildSlice rfl rfl (by decide) rfl) ?_
        refine L_opX rfl rfl (v_appXh rfl rfl rfl rfl rfl rfl rfl (by simp) hl rfl rfl (by decide) (by show (_ + 1) * 24 ≤ _ ∧ _ + 1 ≤ _; omega) (by decide)) ?_
        rintro _ _ ⟨Y1, rfl, rfl, hY1, hY2, hY3⟩
        refine Le uS9n100 ?_
        refine Lo uS9n100 (v_move (.inr rfl) rfl) ?_
        refine L_nil (K_blk (K_seq (B_region ?_)))
        refine Lo uS9n100 (wS9n5 rfl rfl rfl) ?_
        refine Lo uS9n100 (v_move (.inl rfl) rfl) ?_
        refine L_nil ?_
        refine K_loop (mk 100 1267650600228229401496233443193) (env' := uS9n100) rfl ⟨⟨k + 1, _⟩, ?_, rfl, ?_⟩
        ·first | omega | (simp only []; omega)
        ·first | exact ⟨by omega, _, rfl, by rw [flU_no (by first | exact flk_0a (by omega) (by omega) (by omega) | exact flk_0b (by omega) (by omega) (by assumption))]; exact hl⟩ | exact ⟨by omega, _, rfl, LV.pushL hY3 (flU_yes (by first | exact flk_2 (by omega) | exact flk_3 (by omega) (by omega) (by omega) | exact flk_4 (by omega) (by omega) (by assumption)) (by decide))⟩
       ·try simp only [qB, qN] at hc7
        refine B_seq (B_region ?_)
        refine Lo uS9n100 (rfl) ?_
        refine Lo uS9n100 (wS9n3 rfl rfl rfl rfl) ?_
        refine Lo uS9n100 (v_move (.inl rfl) rfl) ?_
        refine Lo uS9n100 (wS9n4 rfl rfl rfl rfl rfl rfl rfl) ?_
        refine Lo uS9n100 (wS9n3 rfl rfl rfl rfl) ?_
        refine Lo uS9n100 (rfl) ?_
        refine Lo uS9n100 (v_move (.inl rfl) rfl) ?_
        refine L_split 65 (env1 := uS9n100) (env2 := uS9n100) rfl rfl rfl (fun hg8 => ?_) (fun hg8 => ?_)
        ·try simp only [qB, qN] at hg8
         refine Lo uS9n100 (rfl) ?_
         refine Lo uS9n100 (rfl) ?_
         refine Lo uS9n100 (wS9n3 rfl rfl rfl rfl) ?_
         refine Lo uS9n100 (v_move (.inl rfl) rfl) ?_
         refine Lo uS9n100 (wS9n4 rfl rfl rfl rfl rfl rfl rfl) ?_
         refine Lo uS9n100 (wS9n3 rfl rfl rfl rfl) ?_
         refine L_call rfl rfl rfl (by exact Of_spec _ 0#64 _) ?_
         rintro _ _ ⟨rfl, rfl⟩
         refine Le uS9n100 ?_
         refine Lo uS9n100 (v_move (.inl rfl) rfl) ?_
         refine L_call rfl rfl rfl (by exact Has_spec _ _ _) ?_
         rintro v _ ⟨hv, rfl⟩; obtain rfl : v = .bool ((p.who.getD k 0).getLsbD (us.getD k 0).toNat) := hv.trans (by rw [decide_eq_true (by omega), Bool.true_and])
         refine Le uS9n100 ?_
         refine Lo uS9n100 (rfl) ?_
         refine Lo uS9n100 (v_pickT rfl rfl rfl) ?_
         refine Lo uS9n100 (v_move (.inr rfl) rfl) ?_
         refine L_nil (K_seq ?_)
         refine B_cond _ rfl (fun hc9 => ?_) (fun hc9 => ?_)
         ·try simp only [qB, qN] at hc9
          refine B_region ?_
          refine Lo uS9n100 (v_const (VVal.int .i64 4) (.inr rfl) rfl) ?_
          refine L_nil (K_blk (K_seq (B_region ?_)))
          refine Lo uS9n100 (v_move (.inl rfl) rfl) ?_
          refine Lo uS9n100 (v_move (.inl rfl) rfl) ?_
          refine Lo uS9n100 (v_move (.inl rfl) rfl) ?_
          refine Lo uS9n100 (rfl) ?_
          refine Lo uS9n100 (v_buildSlice rfl rfl (by decide) rfl) ?_
          refine L_opX rfl rfl (v_appXh rfl rfl rfl rfl rfl rfl rfl (by simp) hl rfl rfl (by decide) (by show (_ + 1) * 24 ≤ _ ∧ _ + 1 ≤ _; omega) (by decide)) ?_
          rintro _ _ ⟨Y1, rfl, rfl, hY1, hY2, hY3⟩
          refine Le uS9n100 ?_
          refine Lo uS9n100 (v_move (.inr rfl) rfl) ?_
          refine L_nil (K_blk (K_seq (B_region ?_)))
          refine Lo uS9n100 (wS9n5 rfl rfl rfl) ?_
          refine Lo uS9n100 (v_move (.inl rfl) rfl) ?_
          refine L_nil ?_
          refine K_loop (mk 100 1267650600228229401496233443193) (env' := uS9n100) rfl ⟨⟨k + 1, _⟩, ?_, rfl, ?_⟩
          ·first | omega | (simp only []; omega)
          ·first | exact ⟨by omega, _, rfl, by rw [flU_no (by first | exact flk_0a (by omega) (by omega) (by omega) | exact flk_0b (by omega) (by omega) (by assumption))]; exact hl⟩ | exact ⟨by omega, _, rfl, LV.pushL hY3 (flU_yes (by first | exact flk_2 (by omega) | exact flk_3 (by omega) (by omega) (by omega) | exact flk_4 (by omega) (by omega) (by assumption)) (by decide))⟩
         ·try simp only [qB, qN] at hc9
          refine B_exit ?_
          refine K_blkO rfl ?_
          refine K_seqX (K_blkX (K_seq (B_region ?_)))
          refine Lo uS9n100 (wS9n5 rfl rfl rfl) ?_
          refine Lo uS9n100 (v_move (.inl rfl) rfl) ?_
          refine L_nil ?_
          refine K_loop (mk 100 1267650600228229401496233443193) (env' := uS9n100) rfl ⟨⟨k + 1, _⟩, ?_, rfl, ?_⟩
          ·first | omega | (simp only []; omega)
          ·first | exact ⟨by omega, _, rfl, by rw [flU_no (by first | exact flk_0a (by omega) (by omega) (by omega) | exact flk_0b (by omega) (by omega) (by assumption))]; exact hl⟩ | exact ⟨by omega, _, rfl, LV.pushL hY3 (flU_yes (by first | exact flk_2 (by omega) | exact flk_3 (by omega) (by omega) (by omega) | exact flk_4 (by omega) (by omega) (by assumption)) (by decide))⟩
        ·try simp only [qB, qN] at hg8
         refine Lf uS9n100 ?_
         refine Lf uS9n100 ?_
         refine Lf uS9n100 ?_
         refine Lf uS9n100 ?_
         refine Lf uS9n100 ?_
         refine Lf uS9n100 ?_
         refine Lf uS9n100 ?_
         refine Lf uS9n100 ?_
         refine Lf uS9n100 ?_
         refine Lf uS9n100 ?_
         refine Lo uS9n100 (v_pickFC (VVal.bool false) rfl rfl rfl) ?_
         refine Lo uS9n100 (v_move (.inr rfl) rfl) ?_
         refine L_nil (K_seq ?_)
         refine B_false rfl rfl ?_
         refine B_exit ?_
         refine K_blkO rfl ?_
         refine K_seqX (K_blkX (K_seq (B_region ?_)))
         refine Lo uS9n100 (wS9n5 rfl rfl rfl) ?_
         refine Lo uS9n100 (v_move (.inl rfl) rfl) ?_
         refine L_nil ?_
         refine K_loop (mk 100 1267650600228229401496233443193) (env' := uS9n100) rfl ⟨⟨k + 1, _⟩, ?_, rfl, ?_⟩
         ·first | omega | (simp only []; omega)
         ·first | exact ⟨by omega, _, rfl, by rw [flU_no (by first | exact flk_0a (by omega) (by omega) (by omega) | exact flk_0b (by omega) (by omega) (by assumption))]; exact hl⟩ | exact ⟨by omega, _, rfl, LV.pushL hY3 (flU_yes (by first | exact flk_2 (by omega) | exact flk_3 (by omega) (by omega) (by omega) | exact flk_4 (by omega) (by omega) (by assumption)) (by decide))⟩
      ·try simp only [qB, qN] at hg6
       refine Lf uS9n100 ?_
       refine Lf uS9n100 ?_
       refine Lf uS9n100 ?_
       refine Lf uS9n100 ?_
       refine Lf uS9n100 ?_
       refine Lf uS9n100 ?_
       refine Lf uS9n100 ?_
       refine Lo uS9n100 (v_pickFC (VVal.bool false) rfl rfl rfl) ?_
       refine Lo uS9n100 (v_move (.inr rfl) rfl) ?_
       refine L_nil (K_seq ?_)
       refine B_false rfl rfl ?_
       refine B_seq (B_region ?_)
       refine Lo uS9n100 (rfl) ?_
       refine Lo uS9n100 (wS9n3 rfl rfl rfl rfl) ?_
       refine Lo uS9n100 (v_move (.inl rfl) rfl) ?_
       refine Lo uS9n100 (wS9n4 rfl rfl rfl rfl rfl rfl rfl) ?_
       refine Lo uS9n100 (wS9n3 rfl rfl rfl rfl) ?_
       refine Lo uS9n100 (rfl) ?_
       refine Lo uS9n100 (v_move (.inl rfl) rfl) ?_
       refine L_split 65 (env1 := uS9n100) (env2 := uS9n100) rfl rfl rfl (fun hg10 => ?_) (fun hg10 => ?_)
       ·try simp only [qB, qN] at hg10
        refine Lo uS9n100 (rfl) ?_
        refine Lo uS9n100 (rfl) ?_
        refine Lo uS9n100 (wS9n3 rfl rfl rfl rfl) ?_
        refine Lo uS9n100 (v_move (.inl rfl) rfl) ?_
        refine Lo uS9n100 (wS9n4 rfl rfl rfl rfl rfl rfl rfl) ?_
        refine Lo uS9n100 (wS9n3 rfl rfl rfl rfl) ?_
        refine L_call rfl rfl rfl (by exact Of_spec _ 0#64 _) ?_
        rintro _ _ ⟨rfl, rfl⟩
        refine Le uS9n100 ?_
        refine Lo uS9n100 (v_move (.inl rfl) rfl) ?_
        refine L_call rfl rfl rfl (by exact Has_spec _ _ _) ?_
        rintro v _ ⟨hv, rfl⟩; obtain rfl : v = .bool ((p.who.getD k 0).getLsbD (us.getD k 0).toNat) := hv.trans (by rw [decide_eq_true (by omega), Bool.true_and])
        refine Le uS9n100 ?_
        refine Lo uS9n100 (rfl) ?_
        refine Lo uS9n100 (v_pickT rfl rfl rfl) ?_
        refine Lo uS9n100 (v_move (.inr rfl) rfl) ?_
        refine L_nil (K_seq ?_)
        refine B_cond _ rfl (fun hc11 => ?_) (fun hc11 => ?_)
        ·try simp only [qB, qN] at hc11
         refine B_region ?_
         refine Lo uS9n100 (v_const (VVal.int .i64 4) (.inr rfl) rfl) ?_
         refine L_nil (K_blk (K_seq (B_region ?_)))
         refine Lo uS9n100 (v_move (.inl rfl) rfl) ?_
         refine Lo uS9n100 (v_move (.inl rfl) rfl) ?_
         refine Lo uS9n100 (v_move (.inl rfl) rfl) ?_
         refine Lo uS9n100 (rfl) ?_
         refine Lo uS9n100 (v_buildSlice rfl rfl (by decide) rfl) ?_
         refine L_opX rfl rfl (v_appXh rfl rfl rfl rfl rfl rfl rfl (by simp) hl rfl rfl (by decide) (by show (_ + 1) * 24 ≤ _ ∧ _ + 1 ≤ _; omega) (by decide)) ?_
         rintro _ _ ⟨Y1, rfl, rfl, hY1, hY2, hY3⟩
         refine Le uS9n100 ?_
         refine Lo uS9n100 (v_move (.inr rfl) rfl) ?_
         refine L_nil (K_blk (K_seq (B_region ?_)))
         refine Lo uS9n100 (wS9n5 rfl rfl rfl) ?_
         refine Lo uS9n100 (v_move (.inl rfl) rfl) ?_
         refine L_nil ?_
         refine K_loop (mk 100 1267650600228229401496233443193) (env' := uS9n100) rfl ⟨⟨k + 1, _⟩, ?_, rfl, ?_⟩
         ·first | omega | (simp only []; omega)
         ·first | exact ⟨by omega, _, rfl, by rw [flU_no (by first | exact flk_0a (by omega) (by omega) (by omega) | exact flk_0b (by omega) (by omega) (by assumption))]; exact hl⟩ | exact ⟨by omega, _, rfl, LV.pushL hY3 (flU_yes (by first | exact flk_2 (by omega) | exact flk_3 (by omega) (by omega) (by omega) | exact flk_4 (by omega) (by omega) (by assumption)) (by decide))⟩
        ·try simp only [qB, qN] at hc11
         refine B_exit ?_
         refine K_blkO rfl ?_
         refine K_seqX (K_blkX (K_seq (B_region ?_)))
         refine Lo uS9n100 (wS9n5 rfl rfl rfl) ?_
         refine Lo uS9n100 (v_move (.inl rfl) rfl) ?_
         refine L_nil ?_
         refine K_loop (mk 100 1267650600228229401496233443193) (env' := uS9n100) rfl ⟨⟨k + 1, _⟩, ?_, rfl, ?_⟩
         ·first | omega | (simp only []; omega)
         ·first | exact ⟨by omega, _, rfl, by rw [flU_no (by first | exact flk_0a (by omega) (by omega) (by omega) | exact flk_0b (by omega) (by omega) (by assumption))]; exact hl⟩ | exact ⟨by omega, _, rfl, LV.pushL hY3 (flU_yes (by first | exact flk_2 (by omega) | exact flk_3 (by omega) (by omega) (by omega) | exact flk_4 (by omega) (by omega) (by assumption)) (by decide))⟩
       ·try simp only [qB, qN] at hg10
        refine Lf uS9n100 ?_
        refine Lf uS9n100 ?_
        refine Lf uS9n100 ?_
        refine Lf uS9n100 ?_
        refine Lf uS9n100 ?_
        refine Lf uS9n100 ?_
        refine Lf uS9n100 ?_
        refine Lf uS9n100 ?_
        refine Lf uS9n100 ?_
        refine Lf uS9n100 ?_
        refine Lo uS9n100 (v_pickFC (VVal.bool false) rfl rfl rfl) ?_
        refine Lo uS9n100 (v_move (.inr rfl) rfl) ?_
        refine L_nil (K_seq ?_)
        refine B_false rfl rfl ?_
        refine B_exit ?_
        refine K_blkO rfl ?_
        refine K_seqX (K_blkX (K_seq (B_region ?_)))
        refine Lo uS9n100 (wS9n5 rfl rfl rfl) ?_
        refine Lo uS9n100 (v_move (.inl rfl) rfl) ?_
        refine L_nil ?_
        refine K_loop (mk 100 1267650600228229401496233443193) (env' := uS9n100) rfl ⟨⟨k + 1, _⟩, ?_, rfl, ?_⟩
        ·first | omega | (simp only []; omega)
        ·first | exact ⟨by omega, _, rfl, by rw [flU_no (by first | exact flk_0a (by omega) (by omega) (by omega) | exact flk_0b (by omega) (by omega) (by assumption))]; exact hl⟩ | exact ⟨by omega, _, rfl, LV.pushL hY3 (flU_yes (by first | exact flk_2 (by omega) | exact flk_3 (by omega) (by omega) (by omega) | exact flk_4 (by omega) (by omega) (by assumption)) (by decide))⟩
   ·try simp only [qB, qN] at hc3
    refine B_exit (K_seqX (K_loopX (K_blkX (K_seq (B_seq (B_seq ?_))))))
    obtain rfl : k = us.length := by omega
    refine B_region ?_
    refine Lo uS9n100 (rfl) ?_
    refine Lo uS9n100 (wS9n3 rfl rfl rfl rfl) ?_
    refine Lo uS9n100 (v_move (.inl rfl) rfl) ?_
    refine L_call rfl rfl rfl (by exact Broken_spec _ _ _ hp.s (by omega)) ?_
    rintro _ _ ⟨rfl, rfl⟩
    refine Le uS9n100 ?_
    refine Lo uS9n100 (rfl) ?_
    refine Lo uS9n100 (v_const (VVal.int .i64 0) (.inl rfl) rfl) ?_
    refine L_nil (K_seq (B_block ?_))
    refine B_clear (mk 100 1266567402693854693756166471551) (env' := uS9n100) rfl ?_
    refine B_loopE (fun (⟨j, lv⟩ : Nat × VVal) => (brk p.rules us).length - j) (fun (⟨j, lv⟩ : Nat × VVal) => [(7, lv), (89, iI (j : Nat))]) (fun (⟨j, lv⟩ : Nat × VVal) G => (j ≤ (brk p.rules us).length) ∧ ∃ X, G = (H ++ [VBlk.cells (pbB p) true]) ++ X ∧ LV (H.length + 1) 3 X lv ((flU p us us.length ++ flR ((brk p.rules us).take j)).flatMap flB) (flU p us us.length ++ flR ((brk p.rules us).take j)).length) ⟨0, _⟩ rfl ?_ ?_
    ·refine ⟨?_, ⟨X, rfl, by show LV _ _ _ _ ((flU p us us.length ++ []).flatMap flB) (flU p us us.length ++ []).length; rw [List.append_nil]; exact hl⟩⟩
     exact Nat.zero_le _
    rintro ⟨j, lv⟩ _ ⟨hj, ⟨X, rfl, hl⟩⟩
    refine B_env (env' := uS9n100) rfl ?_
    refine B_seq ?_
    have hfl := flU_len p us us.length
    refine B_region ?_
    refine Lo uS9n100 (rfl) ?_
    refine L_nil (K_seq (B_seq ?_))
    refine B_cond _ rfl (fun hc12 => ?_) (fun hc12 => ?_)
    ·try simp only [qB, qN] at hc12
     refine B_skip (K_seq (B_seq (B_block (B_seq (B_region ?_)))))
     refine Lo uS9n100 (wS9n4 rfl rfl rfl rfl rfl rfl rfl) ?_
     refine Lo uS9n100 (wS9n3 rfl rfl rfl rfl) ?_
     refine Lo uS9n100 (v_move (.inr rfl) rfl) ?_
     refine L_nil (K_seq (B_region ?_))
     refine Lo uS9n100 (v_move (.inl rfl) rfl) ?_
     refine Lo uS9n100 (v_move (.inl rfl) rfl) ?_
     refine Lo uS9n100 (rfl) ?_
     refine Lo uS9n100 (v_buildSlice rfl rfl (by decide) rfl) ?_
     refine L_opX rfl rfl (v_appXh rfl rfl rfl rfl rfl rfl rfl (by simp) hl rfl rfl (by decide) (by rw [List.length_append, flR_len, List.length_take]; show (_ + 1) * 24 ≤ _ ∧ _ + 1 ≤ _; omega) (by decide)) ?_
     rintro _ _ ⟨Y1, rfl, rfl, hY1, hY2, hY3⟩
     refine Le uS9n100 ?_
     refine Lo uS9n100 (v_move (.inr rfl) rfl) ?_
     refine L_nil (K_blk (K_seq (B_region ?_)))
     refine Lo uS9n100 (wS9n5 rfl rfl rfl) ?_
     refine Lo uS9n100 (v_move (.inl rfl) rfl) ?_
     refine L_nil ?_
     refine K_loop (mk 100 1266567402693854693756166471551) (env' := uS9n100) rfl ⟨⟨j + 1, _⟩, ?_, rfl, ?_⟩
     ·first | omega | (simp only []; omega)
     ·exact ⟨by omega, _, rfl, LV.pushL hY3 (app_flR (by omega))⟩
    ·try simp only [qB, qN] at hc12
     refine B_exit (K_seqX (K_loopX (K_blkX (K_seq (B_seq ?_)))))
     refine B_ghLVh (env' := uS9n100) 7 hl (by simp) rfl rfl fun X9 _ _ => ?_
     refine B_heap (List.append_assoc _ _ _) ?_
     refine B_region ?_
     refine Lo uS9n100 (v_move (.inl rfl) rfl) ?_
     refine Lo uS9n100 (v_move (.inr rfl) rfl) ?_
     refine Lo uS9n100 (v_const (VVal.int .i64 0) (.inr rfl) rfl) ?_
     refine L_nil (K_seq (B_ret ?_))
     refine wS9n1 (.inr rfl) (vres_tmp2 rfl rfl rfl) ?_
     exact wS9n2

theorem sh_not0 {d : BitVec 64} {k : Nat} (h : ¬ d >>> k &&& 1#64 = 0#64) : d.getLsbD k = true := by rw [sh0] at h; simpa using h

theorem fFlaws_spec {x : SW} (H : VHeap) (p : Pb) (us : List Int) (g : Go.V.Good p) (hR : ∀ r, r ∈ p.rules → r.steps.length ≤ 1000000) (hu : us.length ≤ 1000000) : F (psys x) 14 [.agg (pbB p), fzI us] H fun v G => v = fzF (flw p us) ∧ G = H := by
 have g1 := g.n12; have g2 := g.u64; have g3 := g.r32; have g4 := g.u0; have g5 := g.fx
 have hbr := brk_len p.rules us
 refine F_body Try.func14 rfl uS9n114 rfl ?_
 refine B_seq (B_region ?_)
 refine Lo uS9n114 (v_boxT rfl rfl rfl) ?_
 refine Lo uS9n114 (v_const (VVal.slice none 0 0 true 0) (.inr rfl) rfl) ?_
 refine L_nil (K_seq (B_seq (B_region ?_)))
 refine Lo uS9n114 (v_const (VVal.slice none 0 0 true 0) (.inr rfl) rfl) ?_
 refine L_nil (K_seq (B_seq (B_seq (B_region ?_))))
 refine Lo uS9n114 (v_move (.inl rfl) rfl) ?_
 refine Lo uS9n114 (rfl) ?_
 refine Lo uS9n114 (rfl) ?_
 refine Lo uS9n114 (wS9n3 rfl rfl rfl rfl) ?_
 refine Lo uS9n114 (rfl) ?_
 refine Lo uS9n114 (rfl) ?_
 refine L_nil (K_seq ?_)
 refine B_cond _ rfl (fun hc1 => ?_) (fun hc1 => ?_)
 ·try simp only [qB, qN] at hc1
  refine B_seq (B_region ?_)
  refine Lo uS9n114 (v_move (.inl rfl) rfl) ?_
  refine Lo uS9n114 (rfl) ?_
  refine Lo uS9n114 (v_buildSlice rfl rfl (by decide) rfl) ?_
  refine L_opX rfl rfl (v_appX rfl rfl rfl rfl rfl rfl rfl (LV.nil _ _ _) rfl rfl (by decide) (by decide) (by decide)) ?_
  rintro _ _ ⟨Y1, rfl, rfl, hY1, hY2, hY3⟩
  refine Le uS9n114 ?_
  refine Lo uS9n114 (v_move (.inr rfl) rfl) ?_
  refine L_nil (K_seq ?_)
  refine B_ghLV (env' := uS9n114) 4 hY3 rfl rfl fun X9 _ _ => ?_
  refine B_ret (K_seqR ?_)
  refine wS9n6 (.inr rfl) (vres_tmp rfl rfl) ?_
  exact wS9n7
 ·try simp only [qB, qN] at hc1
  refine B_skip (K_seq (B_seq (B_seq (B_region ?_))))
  refine Lo uS9n114 (v_const (VVal.int .i64 0) (.inr rfl) rfl) ?_
  refine L_nil (K_seq (B_block ?_))
  refine B_clear (mk 114 20769187434139310514121985316880281) (env' := uS9n114) rfl ?_
  refine B_loopE (fun (⟨k, lv⟩ : Nat × VVal) => us.length - k) (fun (⟨k, lv⟩ : Nat × VVal) => [(5, lv), (6, iI (k : Nat))]) (fun (⟨k, lv⟩ : Nat × VVal) G => (k ≤ us.length) ∧ ∃ X, G = (H ++ [VBlk.cells (pbB p) true]) ++ X ∧ LV (H.length + 1) 3 X lv ((flU p us k).flatMap flB) (flU p us k).length) ⟨0, _⟩ rfl ?_ ?_
  ·refine ⟨?_, ⟨[], (List.append_nil _).symm, LV.nil _ _ _⟩⟩
   exact Nat.zero_le _
  rintro ⟨k, lv⟩ _ ⟨hk, ⟨X, rfl, hl⟩⟩
  refine B_env (env' := uS9n114) rfl ?_
  have hfl := flU_len p us k
  refine B_seq (B_seq (B_region ?_))
  refine Lo uS9n114 (v_move (.inl rfl) rfl) ?_
  refine Lo uS9n114 (v_move (.inl rfl) rfl) ?_
  refine Lo uS9n114 (rfl) ?_
  refine Lo uS9n114 (rfl) ?_
  refine L_nil (K_seq ?_)
  refine B_cond _ rfl (fun hc2 => ?_) (fun hc2 => ?_)
  ·try simp only [qB, qN] at hc2
   refine B_skip (K_seq (B_seq (B_block (B_block (B_seq ?_)))))
   refine B_draw [0, 1, 2, 3, 4, 5, 6, 7, 8, 9, 10, 11, 12, 13, 14] #[0, 0, 3, 7, 15, 31, 63, 63, 255, 511, 63, 1087, 4095, 8191, 16383] (by kernel_rfl) (by kernel_rfl) (by kernel_rfl) ?_
   refine Oo uS9n114 .calm rfl (v_move (.inl rfl) rfl) ?_
   refine Oo uS9n114 .calm rfl (v_move (.inl rfl) rfl) ?_
   refine Oo uS9n114 .calm rfl (wS9n4 rfl rfl rfl rfl rfl rfl rfl) ?_
   refine Oo uS9n114 .look rfl (wS9n3 rfl rfl rfl rfl) ?_
   refine Oo uS9n114 .calm rfl (rfl) ?_
   refine Oo uS9n114 .calm rfl (v_move (.inl rfl) rfl) ?_
   refine O_split 31 (env1 := uS9n114) (env2 := uS9n114) rfl rfl rfl (fun hg3 => ?_) (fun hg3 => ?_)
   ·try simp only [qB, qN] at hg3
    refine Of uS9n114 rfl ?_
    refine Of uS9n114 rfl ?_
    refine Of uS9n114 rfl ?_
    refine Of uS9n114 rfl ?_
    refine Of uS9n114 rfl ?_
    refine Of uS9n114 rfl ?_
    refine Of uS9n114 rfl ?_
    refine Oo uS9n114 .calm rfl (v_pickTC (VVal.bool true) rfl rfl rfl) ?_
    refine Oo uS9n114 .calm rfl (v_move (.inr rfl) rfl) ?_
    refine O_nil [] (by kernel_rfl) (trivial) ?_
    refine K_seq ?_
    refine B_true rfl rfl ?_
    refine B_region ?_
    refine Lo uS9n114 (v_move (.inl rfl) rfl) ?_
    refine Lo uS9n114 (v_move (.inl rfl) rfl) ?_
    refine Lo uS9n114 (rfl) ?_
    refine Lo uS9n114 (v_buildSlice rfl rfl (by decide) rfl) ?_
    refine L_opX rfl rfl (v_appXh rfl rfl rfl rfl rfl rfl rfl (by simp) hl rfl rfl (by decide) (by show (_ + 1) * 24 ≤ _ ∧ _ + 1 ≤ _; omega) (by decide)) ?_
    rintro _ _ ⟨Y1, rfl, rfl, hY1, hY2, hY3⟩
    refine Le uS9n114 ?_
    refine Lo uS9n114 (v_move (.inr rfl) rfl) ?_
    refine L_nil (K_blk (K_blk (K_seq (B_region ?_))))
    refine Lo uS9n114 (v_move (.inl rfl) rfl) ?_
    refine Lo uS9n114 (wS9n5 rfl rfl rfl) ?_
    refine Lo uS9n114 (v_move (.inr rfl) rfl) ?_
    refine L_nil ?_
    refine K_loop (mk 114 20769187434139310514121985316880281) (env' := uS9n114) rfl ⟨⟨k + 1, _⟩, ?_, rfl, ?_⟩
    ·first | omega | (simp only []; omega)
    ·first | exact ⟨by omega, _, rfl, by rw [flU_no (by first | exact flk_0a (by omega) (by omega) (by omega) | exact flk_0b (by omega) (by omega) (sh_not0 (by assumption)))]; exact hl⟩ | exact ⟨by omega, _, rfl, LV.pushL hY3 (flU_yes (by first | exact flk_2 (by omega) | exact flk_3 (by omega) (by omega) (by omega) | exact flk_4 (by omega) (by omega) (sh0.1 (by assumption))) (by decide))⟩
   ·try simp only [qB, qN] at hg3
    refine Oo uS9n114 .calm rfl (v_move (.inl rfl) rfl) ?_
    refine Oo uS9n114 .calm rfl (v_move (.inl rfl) rfl) ?_
    refine Oo uS9n114 .calm rfl (wS9n4 rfl rfl rfl rfl rfl rfl rfl) ?_
    refine Oo uS9n114 .look rfl (wS9n3 rfl rfl rfl rfl) ?_
    refine Oo uS9n114 .calm rfl (rfl) ?_
    refine Oo uS9n114 .look rfl (wS9n3 rfl rfl rfl rfl) ?_
    refine Oo uS9n114 .calm rfl (rfl) ?_
    refine Oo uS9n114 .calm rfl (v_pickF rfl rfl rfl) ?_
    refine Oo uS9n114 .calm rfl (v_move (.inr rfl) rfl) ?_
    refine O_nil [] (by kernel_rfl) (trivial) ?_
    refine K_seq ?_
    refine B_cond _ rfl (fun hc4 => ?_) (fun hc4 => ?_)
    ·try simp only [qB, qN] at hc4
     refine B_region ?_
     refine Lo uS9n114 (v_move (.inl rfl) rfl) ?_
     refine Lo uS9n114 (v_move (.inl rfl) rfl) ?_
     refine Lo uS9n114 (rfl) ?_
     refine Lo uS9n114 (v_buildSlice rfl rfl (by decide) rfl) ?_
     refine L_opX rfl rfl (v_appXh rfl rfl rfl rfl rfl rfl rfl (by simp) hl rfl rfl (by decide) (by show (_ + 1) * 24 ≤ _ ∧ _ + 1 ≤ _; omega) (by decide)) ?_
     rintro _ _ ⟨Y1, rfl, rfl, hY1, hY2, hY3⟩
     refine Le uS9n114 ?_
     refine Lo uS9n114 (v_move (.inr rfl) rfl) ?_
     refine L_nil (K_blk (K_blk (K_seq (B_region ?_))))
     refine Lo uS9n114 (v_move (.inl rfl) rfl) ?_
     refine Lo uS9n114 (wS9n5 rfl rfl rfl) ?_
     refine Lo uS9n114 (v_move (.inr rfl) rfl) ?_
     refine L_nil ?_
     refine K_loop (mk 114 20769187434139310514121985316880281) (env' := uS9n114) rfl ⟨⟨k + 1, _⟩, ?_, rfl, ?_⟩
     ·first | omega | (simp only []; omega)
     ·first | exact ⟨by omega, _, rfl, by rw [flU_no (by first | exact flk_0a (by omega) (by omega) (by omega) | exact flk_0b (by omega) (by omega) (sh_not0 (by assumption)))]; exact hl⟩ | exact ⟨by omega, _, rfl, LV.pushL hY3 (flU_yes (by first | exact flk_2 (by omega) | exact flk_3 (by omega) (by omega) (by omega) | exact flk_4 (by omega) (by omega) (sh0.1 (by assumption))) (by decide))⟩
    ·try simp only [qB, qN] at hc4
     refine B_seq ?_
     refine B_draw [0, 1, 2, 3, 4, 5, 6, 7, 8, 9, 10, 11, 12, 13, 14, 15, 16, 17, 18] #[0, 1, 0, 7, 15, 31, 63, 127, 127, 511, 1023, 127, 2175, 127, 14463, 30847, 65535, 131071, 262143] (by kernel_rfl) (by kernel_rfl) (by kernel_rfl) ?_
     refine Oo uS9n114 .calm rfl (rfl) ?_
     refine Oo uS9n114 .look rfl (wS9n3 rfl rfl rfl rfl) ?_
     refine Oo uS9n114 .calm rfl (v_move (.inl rfl) rfl) ?_
     refine Oo uS9n114 .calm rfl (wS9n4 rfl rfl rfl rfl rfl rfl rfl) ?_
     refine Oo uS9n114 .look rfl (wS9n3 rfl rfl rfl rfl) ?_
     refine Oo uS9n114 .calm rfl (rfl) ?_
     refine Oo uS9n114 .calm rfl (v_move (.inl rfl) rfl) ?_
     refine O_split 52 (env1 := uS9n114) (env2 := uS9n114) rfl rfl rfl (fun hg5 => ?_) (fun hg5 => ?_)
     ·try simp only [qB, qN] at hg5
      refine Oo uS9n114 .calm rfl (v_move (.inl rfl) rfl) ?_
      refine Oo uS9n114 .calm rfl (v_move (.inl rfl) rfl) ?_
      refine Oo uS9n114 .calm rfl (wS9n4 rfl rfl rfl rfl rfl rfl rfl) ?_
      refine Oo uS9n114 .look rfl (wS9n3 rfl rfl rfl rfl) ?_
      refine Oo uS9n114 .calm rfl (rfl) ?_
      refine Oo uS9n114 .look rfl (wS9n3 rfl rfl rfl rfl) ?_
      refine Oo uS9n114 .calm rfl (v_move (.inl rfl) rfl) ?_
      refine Oo uS9n114 .calm rfl (wS9n4 rfl rfl rfl rfl rfl rfl rfl) ?_
      refine Oo uS9n114 .look rfl (wS9n3 rfl rfl rfl rfl) ?_
      refine Oo uS9n114 .calm rfl (rfl) ?_
      refine Oo uS9n114 .calm rfl (v_pickT rfl rfl rfl) ?_
      refine Oo uS9n114 .calm rfl (v_move (.inr rfl) rfl) ?_
      refine O_nil [] (by kernel_rfl) (trivial) ?_
      refine K_seq ?_
      refine B_cond _ rfl (fun hc6 => ?_) (fun hc6 => ?_)
      ·try simp only [qB, qN] at hc6
       refine B_region ?_
       refine Lo uS9n114 (v_move (.inl rfl) rfl) ?_
       refine Lo uS9n114 (v_move (.inl rfl) rfl) ?_
       refine Lo uS9n114 (rfl) ?_
       refine Lo uS9n114 (v_buildSlice rfl rfl (by decide) rfl) ?_
       refine L_opX rfl rfl (v_appXh rfl rfl rfl rfl rfl rfl rfl (by simp) hl rfl rfl (by decide) (by show (_ + 1) * 24 ≤ _ ∧ _ + 1 ≤ _; omega) (by decide)) ?_
       rintro _ _ ⟨Y1, rfl, rfl, hY1, hY2, hY3⟩
       refine Le uS9n114 ?_
       refine Lo uS9n114 (v_move (.inr rfl) rfl) ?_
       refine L_nil (K_blk (K_blk (K_seq (B_region ?_))))
       refine Lo uS9n114 (v_move (.inl rfl) rfl) ?_
       refine Lo uS9n114 (wS9n5 rfl rfl rfl) ?_
       refine Lo uS9n114 (v_move (.inr rfl) rfl) ?_
       refine L_nil ?_
       refine K_loop (mk 114 20769187434139310514121985316880281) (env' := uS9n114) rfl ⟨⟨k + 1, _⟩, ?_, rfl, ?_⟩
       ·first | omega | (simp only []; omega)
       ·first | exact ⟨by omega, _, rfl, by rw [flU_no (by first | exact flk_0a (by omega) (by omega) (by omega) | exact flk_0b (by omega) (by omega) (sh_not0 (by assumption)))]; exact hl⟩ | exact ⟨by omega, _, rfl, LV.pushL hY3 (flU_yes (by first | exact flk_2 (by omega) | exact flk_3 (by omega) (by omega) (by omega) | exact flk_4 (by omega) (by omega) (sh0.1 (by assumption))) (by decide))⟩
      ·try simp only [qB, qN] at hc6
       refine B_seq ?_
       refine B_draw [0, 1, 2, 3, 4, 5, 6, 7, 8, 9, 10, 11, 12, 13, 14, 15, 16, 17, 18, 19, 20] #[0, 1, 0, 7, 15, 31, 63, 127, 255, 127, 1023, 2047, 127, 127, 12415, 28799, 65535, 131071, 262143, 524287, 1048575] (by kernel_rfl) (by kernel_rfl) (by kernel_rfl) ?_
       refine Oo uS9n114 .calm rfl (rfl) ?_
       refine Oo uS9n114 .look rfl (wS9n3 rfl rfl rfl rfl) ?_
       refine Oo uS9n114 .calm rfl (v_move (.inl rfl) rfl) ?_
       refine Oo uS9n114 .calm rfl (wS9n4 rfl rfl rfl rfl rfl rfl rfl) ?_
       refine Oo uS9n114 .look rfl (wS9n3 rfl rfl rfl rfl) ?_
       refine Oo uS9n114 .calm rfl (rfl) ?_
       refine Oo uS9n114 .calm rfl (v_move (.inl rfl) rfl) ?_
       refine O_split 76 (env1 := uS9n114) (env2 := uS9n114) rfl rfl rfl (fun hg7 => ?_) (fun hg7 => ?_)
       ·try simp only [qB, qN] at hg7
        refine Oo uS9n114 .calm rfl (rfl) ?_
        refine Oo uS9n114 .look rfl (wS9n3 rfl rfl rfl rfl) ?_
        refine Oo uS9n114 .calm rfl (v_move (.inl rfl) rfl) ?_
        refine Oo uS9n114 .calm rfl (wS9n4 rfl rfl rfl rfl rfl rfl rfl) ?_
        refine Oo uS9n114 .look rfl (wS9n3 rfl rfl rfl rfl) ?_
        refine Oo uS9n114 .calm rfl (v_move (.inl rfl) rfl) ?_
        refine Oo uS9n114 .calm rfl (v_move (.inl rfl) rfl) ?_
        refine Oo uS9n114 .calm rfl (wS9n4 rfl rfl rfl rfl rfl rfl rfl) ?_
        refine Oo uS9n114 .look rfl (wS9n3 rfl rfl rfl rfl) ?_
        refine Oo uS9n114 .calm rfl (v_shrW rfl rfl rfl (by first | assumption | omega | (simp [*]; done) | (simp at *; omega))) ?_
        refine Oo uS9n114 .calm rfl (v_andW (b := 1#64) rfl rfl rfl) ?_
        refine Oo uS9n114 .calm rfl (rfl) ?_
        refine Oo uS9n114 .calm rfl (v_pickT rfl rfl rfl) ?_
        refine Oo uS9n114 .calm rfl (v_move (.inr rfl) rfl) ?_
        refine O_nil [] (by kernel_rfl) (trivial) ?_
        refine K_seq ?_
        refine B_cond _ rfl (fun hc8 => ?_) (fun hc8 => ?_)
        ·try simp only [qB, qN] at hc8
         refine B_region ?_
         refine Lo uS9n114 (v_move (.inl rfl) rfl) ?_
         refine Lo uS9n114 (v_move (.inl rfl) rfl) ?_
         refine Lo uS9n114 (rfl) ?_
         refine Lo uS9n114 (v_buildSlice rfl rfl (by decide) rfl) ?_
         refine L_opX rfl rfl (v_appXh rfl rfl rfl rfl rfl rfl rfl (by simp) hl rfl rfl (by decide) (by show (_ + 1) * 24 ≤ _ ∧ _ + 1 ≤ _; omega) (by decide)) ?_
         rintro _ _ ⟨Y1, rfl, rfl, hY1, hY2, hY3⟩
         refine Le uS9n114 ?_
         refine Lo uS9n114 (v_move (.inr rfl) rfl) ?_
         refine L_nil (K_blk (K_blk (K_seq (B_region ?_))))
         refine Lo uS9n114 (v_move (.inl rfl) rfl) ?_
         refine Lo uS9n114 (wS9n5 rfl rfl rfl) ?_
         refine Lo uS9n114 (v_move (.inr rfl) rfl) ?_
         refine L_nil ?_
         refine K_loop (mk 114 20769187434139310514121985316880281) (env' := uS9n114) rfl ⟨⟨k + 1, _⟩, ?_, rfl, ?_⟩
         ·first | omega | (simp only []; omega)
         ·first | exact ⟨by omega, _, rfl, by rw [flU_no (by first | exact flk_0a (by omega) (by omega) (by omega) | exact flk_0b (by omega) (by omega) (sh_not0 (by assumption)))]; exact hl⟩ | exact ⟨by omega, _, rfl, LV.pushL hY3 (flU_yes (by first | exact flk_2 (by omega) | exact flk_3 (by omega) (by omega) (by omega) | exact flk_4 (by omega) (by omega) (sh0.1 (by assumption))) (by decide))⟩
        ·try simp only [qB, qN] at hc8
         refine B_skip (K_blk (K_blk (K_seq (B_region ?_))))
         refine Lo uS9n114 (v_move (.inl rfl) rfl) ?_
         refine Lo uS9n114 (wS9n5 rfl rfl rfl) ?_
         refine Lo uS9n114 (v_move (.inr rfl) rfl) ?_
         refine L_nil ?_
         refine K_loop (mk 114 20769187434139310514121985316880281) (env' := uS9n114) rfl ⟨⟨k + 1, _⟩, ?_, rfl, ?_⟩
         ·first | omega | (simp only []; omega)
         ·first | exact ⟨by omega, _, rfl, by rw [flU_no (by first | exact flk_0a (by omega) (by omega) (by omega) | exact flk_0b (by omega) (by omega) (sh_not0 (by assumption)))]; exact hl⟩ | exact ⟨by omega, _, rfl, LV.pushL hY3 (flU_yes (by first | exact flk_2 (by omega) | exact flk_3 (by omega) (by omega) (by omega) | exact flk_4 (by omega) (by omega) (sh0.1 (by assumption))) (by decide))⟩
       ·try simp only [qB, qN] at hg7
        refine Of uS9n114 rfl ?_
        refine Of uS9n114 rfl ?_
        refine Of uS9n114 rfl ?_
        refine Of uS9n114 rfl ?_
        refine Of uS9n114 rfl ?_
        refine Of uS9n114 rfl ?_
        refine Of uS9n114 rfl ?_
        refine Of uS9n114 rfl ?_
        refine Of uS9n114 rfl ?_
        refine Of uS9n114 rfl ?_
        refine Of uS9n114 rfl ?_
        refine Of uS9n114 rfl ?_
        refine Oo uS9n114 .calm rfl (v_pickFC (VVal.bool false) rfl rfl rfl) ?_
        refine Oo uS9n114 .calm rfl (v_move (.inr rfl) rfl) ?_
        refine O_nil [] (by kernel_rfl) (trivial) ?_
        refine K_seq ?_
        refine B_false rfl rfl ?_
        refine B_skip (K_blk (K_blk (K_seq (B_region ?_))))
        refine Lo uS9n114 (v_move (.inl rfl) rfl) ?_
        refine Lo uS9n114 (wS9n5 rfl rfl rfl) ?_
        refine Lo uS9n114 (v_move (.inr rfl) rfl) ?_
        refine L_nil ?_
        refine K_loop (mk 114 20769187434139310514121985316880281) (env' := uS9n114) rfl ⟨⟨k + 1, _⟩, ?_, rfl, ?_⟩
        ·first | omega | (simp only []; omega)
        ·first | exact ⟨by omega, _, rfl, by rw [flU_no (by first | exact flk_0a (by omega) (by omega) (by omega) | exact flk_0b (by omega) (by omega) (sh_not0 (by assumption)))]; exact hl⟩ | exact ⟨by omega, _, rfl, LV.pushL hY3 (flU_yes (by first | exact flk_2 (by omega) | exact flk_3 (by omega) (by omega) (by omega) | exact flk_4 (by omega) (by omega) (sh0.1 (by assumption))) (by decide))⟩
     ·try simp only [qB, qN] at hg5
      refine Of uS9n114 rfl ?_
      refine Of uS9n114 rfl ?_
      refine Of uS9n114 rfl ?_
      refine Of uS9n114 rfl ?_
      refine Of uS9n114 rfl ?_
      refine Of uS9n114 rfl ?_
      refine Of uS9n114 rfl ?_
      refine Of uS9n114 rfl ?_
      refine Of uS9n114 rfl ?_
      refine Of uS9n114 rfl ?_
      refine Oo uS9n114 .calm rfl (v_pickFC (VVal.bool false) rfl rfl rfl) ?_
      refine Oo uS9n114 .calm rfl (v_move (.inr rfl) rfl) ?_
      refine O_nil [] (by kernel_rfl) (trivial) ?_
      refine K_seq ?_
      refine B_false rfl rfl ?_
      refine B_seq ?_
      refine B_draw [0, 1, 2, 3, 4, 5, 6, 7, 8, 9, 10, 11, 12, 13, 14, 15, 16, 17, 18, 19, 20] #[0, 1, 0, 7, 15, 31, 63, 127, 255, 127, 1023, 2047, 127, 127, 12415, 28799, 65535, 131071, 262143, 524287, 1048575] (by kernel_rfl) (by kernel_rfl) (by kernel_rfl) ?_
      refine Oo uS9n114 .calm rfl (rfl) ?_
      refine Oo uS9n114 .look rfl (wS9n3 rfl rfl rfl rfl) ?_
      refine Oo uS9n114 .calm rfl (v_move (.inl rfl) rfl) ?_
      refine Oo uS9n114 .calm rfl (wS9n4 rfl rfl rfl rfl rfl rfl rfl) ?_
      refine Oo uS9n114 .look rfl (wS9n3 rfl rfl rfl rfl) ?_
      refine Oo uS9n114 .calm rfl (rfl) ?_
      refine Oo uS9n114 .calm rfl (v_move (.inl rfl) rfl) ?_
      refine O_split 76 (env1 := uS9n114) (env2 := uS9n114) rfl rfl rfl (fun hg9 => ?_) (fun hg9 => ?_)
      ·try simp only [qB, qN] at hg9
       refine Oo uS9n114 .calm rfl (rfl) ?_
       refine Oo uS9n114 .look rfl (wS9n3 rfl rfl rfl rfl) ?_
       refine Oo uS9n114 .calm rfl (v_move (.inl rfl) rfl) ?_
       refine Oo uS9n114 .calm rfl (wS9n4 rfl rfl rfl rfl rfl rfl rfl) ?_
       refine Oo uS9n114 .look rfl (wS9n3 rfl rfl rfl rfl) ?_
       refine Oo uS9n114 .calm rfl (v_move (.inl rfl) rfl) ?_
       refine Oo uS9n114 .calm rfl (v_move (.inl rfl) rfl) ?_
       refine Oo uS9n114 .calm rfl (wS9n4 rfl rfl rfl rfl rfl rfl rfl) ?_
       refine Oo uS9n114 .look rfl (wS9n3 rfl rfl rfl rfl) ?_
       refine Oo uS9n114 .calm rfl (v_shrW rfl rfl rfl (by first | assumption | omega | (simp [*]; done) | (simp at *; omega))) ?_
       refine Oo uS9n114 .calm rfl (v_andW (b := 1#64) rfl rfl rfl) ?_
       refine Oo uS9n114 .calm rfl (rfl) ?_
       refine Oo uS9n114 .calm rfl (v_pickT rfl rfl rfl) ?_
       refine Oo uS9n114 .calm rfl (v_move (.inr rfl) rfl) ?_
       refine O_nil [] (by kernel_rfl) (trivial) ?_
       refine K_seq ?_
       refine B_cond _ rfl (fun hc10 => ?_) (fun hc10 => ?_)
       ·try simp only [qB, qN] at hc10
        refine B_region ?_
        refine Lo uS9n114 (v_move (.inl rfl) rfl) ?_
        refine Lo uS9n114 (v_move (.inl rfl) rfl) ?_
        refine Lo uS9n114 (rfl) ?_
        refine Lo uS9n114 (v_buildSlice rfl rfl (by decide) rfl) ?_
        refine L_opX rfl rfl (v_appXh rfl rfl rfl rfl rfl rfl rfl (by simp) hl rfl rfl (by decide) (by show (_ + 1) * 24 ≤ _ ∧ _ + 1 ≤ _; omega) (by decide)) ?_
        rintro _ _ ⟨Y1, rfl, rfl, hY1, hY2, hY3⟩
        refine Le uS9n114 ?_
        refine Lo uS9n114 (v_move (.inr rfl) rfl) ?_
        refine L_nil (K_blk (K_blk (K_seq (B_region ?_))))
        refine Lo uS9n114 (v_move (.inl rfl) rfl) ?_
        refine Lo uS9n114 (wS9n5 rfl rfl rfl) ?_
        refine Lo uS9n114 (v_move (.inr rfl) rfl) ?_
        refine L_nil ?_
        refine K_loop (mk 114 20769187434139310514121985316880281) (env' := uS9n114) rfl ⟨⟨k + 1, _⟩, ?_, rfl, ?_⟩
        ·first | omega | (simp only []; omega)
        ·first | exact ⟨by omega, _, rfl, by rw [flU_no (by first | exact flk_0a (by omega) (by omega) (by omega) | exact flk_0b (by omega) (by omega) (sh_not0 (by assumption)))]; exact hl⟩ | exact ⟨by omega, _, rfl, LV.pushL hY3 (flU_yes (by first | exact flk_2 (by omega) | exact flk_3 (by omega) (by omega) (by omega) | exact flk_4 (by omega) (by omega) (sh0.1 (by assumption))) (by decide))⟩
       ·try simp only [qB, qN] at hc10
        refine B_skip (K_blk (K_blk (K_seq (B_region ?_))))
        refine Lo uS9n114 (v_move (.inl rfl) rfl) ?_
        refine Lo uS9n114 (wS9n5 rfl rfl rfl) ?_
        refine Lo uS9n114 (v_move (.inr rfl) rfl) ?_
        refine L_nil ?_
        refine K_loop (mk 114 20769187434139310514121985316880281) (env' := uS9n114) rfl ⟨⟨k + 1, _⟩, ?_, rfl, ?_⟩
        ·first | omega | (simp only []; omega)
        ·first | exact ⟨by omega, _, rfl, by rw [flU_no (by first | exact flk_0a (by omega) (by omega) (by omega) | exact flk_0b (by omega) (by omega) (sh_not0 (by assumption)))]; exact hl⟩ | exact ⟨by omega, _, rfl, LV.pushL hY3 (flU_yes (by first | exact flk_2 (by omega) | exact flk_3 (by omega) (by omega) (by omega) | exact flk_4 (by omega) (by omega) (sh0.1 (by assumption))) (by decide))⟩
      ·try simp only [qB, qN] at hg9
       refine Of uS9n114 rfl ?_
       refine Of uS9n114 rfl ?_
       refine Of uS9n114 rfl ?_
       refine Of uS9n114 rfl ?_
       refine Of uS9n114 rfl ?_
       refine Of uS9n114 rfl ?_
       refine Of uS9n114 rfl ?_
       refine Of uS9n114 rfl ?_
       refine Of uS9n114 rfl ?_
       refine Of uS9n114 rfl ?_
       refine Of uS9n114 rfl ?_
       refine Of uS9n114 rfl ?_
       refine Oo uS9n114 .calm rfl (v_pickFC (VVal.bool false) rfl rfl rfl) ?_
       refine Oo uS9n114 .calm rfl (v_move (.inr rfl) rfl) ?_
       refine O_nil [] (by kernel_rfl) (trivial) ?_
       refine K_seq ?_
       refine B_false rfl rfl ?_
       refine B_skip (K_blk (K_blk (K_seq (B_region ?_))))
       refine Lo uS9n114 (v_move (.inl rfl) rfl) ?_
       refine Lo uS9n114 (wS9n5 rfl rfl rfl) ?_
       refine Lo uS9n114 (v_move (.inr rfl) rfl) ?_
       refine L_nil ?_
       refine K_loop (mk 114 20769187434139310514121985316880281) (env' := uS9n114) rfl ⟨⟨k + 1, _⟩, ?_, rfl, ?_⟩
       ·first | omega | (simp only []; omega)
       ·first | exact ⟨by omega, _, rfl, by rw [flU_no (by first | exact flk_0a (by omega) (by omega) (by omega) | exact flk_0b (by omega) (by omega) (sh_not0 (by assumption)))]; exact hl⟩ | exact ⟨by omega, _, rfl, LV.pushL hY3 (flU_yes (by first | exact flk_2 (by omega) | exact flk_3 (by omega) (by omega) (by omega) | exact flk_4 (by omega) (by omega) (sh0.1 (by assumption))) (by decide))⟩
  ·try simp only [qB, qN] at hc2
   refine B_exit (K_seqX (K_loopX (K_blkX (K_seq (B_seq ?_)))))
   obtain rfl : k = us.length := by omega
   refine B_region ?_
   refine Lo uS9n114 (rfl) ?_
   refine Lo uS9n114 (wS9n3 rfl rfl rfl rfl) ?_
   refine Lo uS9n114 (v_move (.inl rfl) rfl) ?_
   refine L_call rfl rfl rfl (by exact fBroken_spec _ _ _ hR (by omega)) ?_
   rintro _ _ ⟨rfl, rfl⟩
   refine Le uS9n114 ?_
   refine Lo uS9n114 (v_move (.inr rfl) rfl) ?_
   refine L_nil (K_seq (B_seq (B_seq (B_region ?_))))
   refine Lo uS9n114 (v_const (VVal.int .i64 0) (.inr rfl) rfl) ?_
   refine L_nil (K_seq (B_block ?_))
   refine B_clear (mk 114 20769187434139310514121985316879967) (env' := uS9n114) rfl ?_
   refine B_loopE (fun (⟨j, lv⟩ : Nat × VVal) => (brk p.rules us).length - j) (fun (⟨j, lv⟩ : Nat × VVal) => [(5, lv), (8, iI (j : Nat))]) (fun (⟨j, lv⟩ : Nat × VVal) G => (j ≤ (brk p.rules us).length) ∧ ∃ X, G = (H ++ [VBlk.cells (pbB p) true]) ++ X ∧ LV (H.length + 1) 3 X lv ((flU p us us.length ++ flR ((brk p.rules us).take j)).flatMap flB) (flU p us us.length ++ flR ((brk p.rules us).take j)).length) ⟨0, _⟩ rfl ?_ ?_
   ·refine ⟨?_, ⟨X, rfl, by show LV _ _ _ _ ((flU p us us.length ++ []).flatMap flB) (flU p us us.length ++ []).length; rw [List.append_nil]; exact hl⟩⟩
    exact Nat.zero_le _
   rintro ⟨j, lv⟩ _ ⟨hj, ⟨X, rfl, hl⟩⟩
   refine B_env (env' := uS9n114) rfl ?_
   refine B_seq (B_seq ?_)
   have hfl := flU_len p us us.length
   refine B_region ?_
   refine Lo uS9n114 (v_move (.inl rfl) rfl) ?_
   refine Lo uS9n114 (v_move (.inl rfl) rfl) ?_
   refine Lo uS9n114 (rfl) ?_
   refine Lo uS9n114 (rfl) ?_
   refine L_nil (K_seq ?_)
   refine B_cond _ rfl (fun hc11 => ?_) (fun hc11 => ?_)
   ·try simp only [qB, qN] at hc11
    refine B_skip (K_seq (B_seq (B_block (B_region ?_))))
    refine Lo uS9n114 (v_move (.inl rfl) rfl) ?_
    refine Lo uS9n114 (v_move (.inl rfl) rfl) ?_
    refine Lo uS9n114 (v_move (.inl rfl) rfl) ?_
    refine Lo uS9n114 (wS9n4 rfl rfl rfl rfl rfl rfl rfl) ?_
    refine Lo uS9n114 (wS9n3 rfl rfl rfl rfl) ?_
    refine Lo uS9n114 (rfl) ?_
    refine Lo uS9n114 (v_buildSlice rfl rfl (by decide) rfl) ?_
    refine L_opX rfl rfl (v_appXh rfl rfl rfl rfl rfl rfl rfl (by simp) hl rfl rfl (by decide) (by rw [List.length_append, flR_len, List.length_take]; show (_ + 1) * 24 ≤ _ ∧ _ + 1 ≤ _; omega) (by decide)) ?_
    rintro _ _ ⟨Y1, rfl, rfl, hY1, hY2, hY3⟩
    refine Le uS9n114 ?_
    refine Lo uS9n114 (v_move (.inr rfl) rfl) ?_
    refine L_nil (K_blk (K_seq (B_region ?_)))
    refine Lo uS9n114 (v_move (.inl rfl) rfl) ?_
    refine Lo uS9n114 (wS9n5 rfl rfl rfl) ?_
    refine Lo uS9n114 (v_move (.inr rfl) rfl) ?_
    refine L_nil ?_
    refine K_loop (mk 114 20769187434139310514121985316879967) (env' := uS9n114) rfl ⟨⟨j + 1, _⟩, ?_, rfl, ?_⟩
    ·first | omega | (simp only []; omega)
    ·exact ⟨by omega, _, rfl, LV.pushL hY3 (app_flR (by omega))⟩
   ·try simp only [qB, qN] at hc11
    refine B_exit (K_seqX (K_loopX (K_blkX (K_seq (B_seq ?_)))))
    refine B_ghLVh (env' := uS9n114) 5 hl (by simp) rfl rfl fun X9 _ _ => ?_
    refine B_heap (List.append_assoc _ _ _) ?_
    refine B_region ?_
    refine Lo uS9n114 (v_move (.inl rfl) rfl) ?_
    refine Lo uS9n114 (v_move (.inr rfl) rfl) ?_
    refine L_nil (K_seq (B_ret ?_))
    refine wS9n6 (.inr rfl) (vres_tmp rfl rfl) ?_
    exact wS9n7

theorem flEq_spec {x : SW} (H : VHeap) (l : List (Int × Int × Int)) (hl : l.length ≤ 1000000) : F (psys x) 13 [fzF l, fzF l] H fun v G => v = .bool true ∧ G = H := by
 refine F_body Try.func13 rfl uS9n26 rfl ?_
 refine B_seq (B_region ?_)
 refine Lo uS9n26 (v_const (VVal.bool false) (.inr rfl) rfl) ?_
 refine L_nil (K_seq (B_seq (B_seq (B_region ?_))))
 refine Lo uS9n26 (v_move (.inl rfl) rfl) ?_
 refine Lo uS9n26 (rfl) ?_
 refine Lo uS9n26 (v_move (.inl rfl) rfl) ?_
 refine Lo uS9n26 (rfl) ?_
 refine Lo uS9n26 (v_is false rfl (by simp)) ?_
 refine L_nil (K_seq ?_)
 refine B_false rfl rfl ?_
 refine B_skip (K_seq (B_seq (B_seq (B_region ?_))))
 refine Lo uS9n26 (v_const (VVal.int .i64 0) (.inr rfl) rfl) ?_
 refine L_nil (K_seq (B_block ?_))
 refine B_clear (mk 26 67108828) (env' := uS9n26) rfl ?_
 refine B_loopE (fun (k : Nat) => l.length - k) (fun (k : Nat) => [(5, iI (k : Nat))]) (fun (k : Nat) G => (k ≤ l.length) ∧ G = H ++ []) 0 rfl ?_ ?_
 ·refine ⟨?_, rfl⟩
  exact Nat.zero_le _
 rintro k _ ⟨hk, rfl⟩
 refine B_env (env' := uS9n26) rfl ?_
 refine B_seq (B_seq (B_region ?_))
 refine Lo uS9n26 (v_move (.inl rfl) rfl) ?_
 refine Lo uS9n26 (v_move (.inl rfl) rfl) ?_
 refine Lo uS9n26 (rfl) ?_
 refine Lo uS9n26 (rfl) ?_
 refine L_nil (K_seq ?_)
 refine B_cond _ rfl (fun hc1 => ?_) (fun hc1 => ?_)
 ·try simp only [qB, qN] at hc1
  refine B_skip (K_seq (B_seq (B_block (B_seq ?_))))
  refine B_draw [0, 1, 2, 3, 4, 5, 6, 7, 8] #[0, 0, 3, 7, 0, 0, 48, 112, 255] (by kernel_rfl) (by kernel_rfl) (by kernel_rfl) ?_
  refine Oo uS9n26 .calm rfl (v_move (.inl rfl) rfl) ?_
  refine Oo uS9n26 .calm rfl (v_move (.inl rfl) rfl) ?_
  refine Oo uS9n26 .calm rfl (wS9n4 rfl rfl rfl rfl rfl rfl rfl) ?_
  refine Oo uS9n26 .look rfl (wS9n8 rfl rfl rfl rfl rfl) ?_
  refine Oo uS9n26 .calm rfl (v_move (.inl rfl) rfl) ?_
  refine Oo uS9n26 .calm rfl (v_move (.inl rfl) rfl) ?_
  refine Oo uS9n26 .calm rfl (wS9n4 rfl rfl rfl rfl rfl rfl rfl) ?_
  refine Oo uS9n26 .look rfl (wS9n8 rfl rfl rfl rfl rfl) ?_
  refine Oo uS9n26 .calm rfl (v_neF rfl rfl rfl rfl rfl rfl rfl) ?_
  refine O_nil [] (by kernel_rfl) (trivial) ?_
  refine K_seq ?_
  refine B_false rfl rfl ?_
  refine B_skip (K_blk (K_seq (B_region ?_)))
  refine Lo uS9n26 (v_move (.inl rfl) rfl) ?_
  refine Lo uS9n26 (wS9n5 rfl rfl rfl) ?_
  refine Lo uS9n26 (v_move (.inr rfl) rfl) ?_
  refine L_nil ?_
  refine K_loop (mk 26 67108828) (env' := uS9n26) rfl ⟨k + 1, ?_, rfl, ?_⟩
  ·first | omega | (simp only []; omega)
  ·exact ⟨by omega, rfl⟩
 ·try simp only [qB, qN] at hc1
  refine B_exit (K_seqX (K_loopX (K_blkX (K_seq (B_seq (B_region ?_))))))
  refine Lo uS9n26 (v_const (VVal.bool true) (.inr rfl) rfl) ?_
  refine L_nil (K_seq (B_ret ?_))
  refine wS9n9 (.inr rfl) (vres_tmp rfl rfl) ?_
  exact ⟨rfl, rfl⟩
end Go.Proofs.Ytbngdhlmggdaaaa.VT

set_option autoImplicit false
set_option linter.unusedVariables false
set_option linter.unusedSimpArgs false
namespace Go.V
open Go Go.RowKit
/-- a number in so many bytes, the highest first -/
def be (w : BitVec 64) (n : Nat) : List UInt8 := (List.range n).map fun i => bW (w >>> (8 * (n - 1 - i)))
theorem be_len (w : BitVec 64) (n : Nat) : (be w n).length = n := by simp [be]
theorem be_at {w : BitVec 64} {n i : Nat} (h : i < n) : (be w n).getD i 0 = bW (w >>> (8 * (n - 1 - i))) := by
  unfold be; rw [List.getD_eq_getElem?_getD, List.getElem?_map, List.getElem?_range h]; rfl
theorem be_step {w : BitVec 64} {n m : Nat} (h1 : 0 < m) (h2 : m ≤ n) : (be w n).take (n - (m - 1)) = (be w n).take (n - m) ++ [bW (w >>> (8 * (m - 1)))] := by
  rw [show n - (m - 1) = n - m + 1 by omega, take_at (d := 0) (by rw [be_len]; omega), be_at (by omega), show n - 1 - (n - m) = m - 1 by omega]
theorem be_drop {w : BitVec 64} {n m : Nat} (h1 : 0 < m) (h2 : m ≤ n) : (be w n).drop (m - 1) = bW (w >>> (8 * (n - m))) :: (be w n).drop m := by
  rw [List.drop_eq_getElem_cons (by rw [be_len]; omega)]
  have h := be_at (w := w) (n := n) (i := m - 1) (by omega)
  rw [List.getD_eq_getElem?_getD, List.getElem?_eq_getElem (by rw [be_len]; omega)] at h
  simp only [Option.getD_some] at h
  rw [h, show n - 1 - (m - 1) = n - m by omega, show m - 1 + 1 = m by omega]
theorem bW_ofInt (n : Int) : bW (BitVec.ofInt 64 n) = bI n := by
  unfold bW bI
  apply UInt8.toNat_inj.1
  rw [UInt8.toNat_ofNat', UInt8.toNat_ofNat', BitVec.toNat_ofInt]
  have h1 : 0 ≤ n % 256 := Int.emod_nonneg _ (by decide)
  have h2 : 0 ≤ n % ((2 : Nat) ^ 64 : Nat) := Int.emod_nonneg _ (by decide)
  omega
theorem be_1 (n : Int) : be (BitVec.ofInt 64 n) 1 = [bI n] := by
  rw [← bW_ofInt]; simp [be]
/-- a step's bytes, a rule's, a certificate's -/
def stB (p : Pb) (us : List Int) (i : Nat) : List UInt8 := be (p.who.getD i 0) 8 ++ [bI (p.fixed.getD i 0 + 1), bI (us.getD i 0)]
def ruB (r : Rul) : List UInt8 := [bI r.kind] ++ be (BitVec.ofInt 64 r.k) 4 ++ [bI r.steps.length] ++ r.steps.map bI
def stsB (p : Pb) (us : List Int) (k : Nat) : List UInt8 := (List.range k).flatMap (stB p us)
def hdB (p : Pb) : List UInt8 := [80, 67, bI p.users, bI p.who.length]
def cB (p : Pb) (us : List Int) : List UInt8 := hdB p ++ stsB p us p.who.length ++ [bI p.rules.length] ++ p.rules.flatMap ruB
theorem stB_len (p : Pb) (us : List Int) (i : Nat) : (stB p us i).length = 10 := by unfold stB; rw [List.length_append, be_len]; rfl
theorem stsB_succ (p : Pb) (us : List Int) (k : Nat) : stsB p us (k + 1) = stsB p us k ++ stB p us k := by unfold stsB; rw [List.range_succ, List.flatMap_append]; simp
theorem stsB_len (p : Pb) (us : List Int) (k : Nat) : (stsB p us k).length = 10 * k := by
  induction k with
  | zero => rfl
  | succ k ih => rw [stsB_succ, List.length_append, ih, stB_len]; omega
theorem ruB_len (r : Rul) : (ruB r).length = 6 + r.steps.length := by
  unfold ruB; simp only [List.length_append, be_len, List.length_map, List.length_cons, List.length_nil]
theorem rusB_len {n : Int} : ∀ rs : List Rul, (∀ r, r ∈ rs → r.steps.length ≤ 12) → (rs.flatMap ruB).length ≤ 18 * rs.length
  | [], _ => by simp
  | r :: rs, h => by
    have h1 := h r (List.mem_cons_self ..)
    have h2 := rusB_len (n := n) rs (fun r hr => h r (List.mem_cons_of_mem _ hr))
    rw [List.flatMap_cons, List.length_append, ruB_len, List.length_cons]; omega
theorem rusB_succ {rs : List Rul} {m : Nat} {d : Rul} (h : m < rs.length) : (rs.take (m + 1)).flatMap ruB = (rs.take m).flatMap ruB ++ ruB (rs.getD m d) := by
  rw [take_at (d := d) h, List.flatMap_append]; simp
/-- what Write answers -/
def eW (p : Pb) (us : List Int) : Int := if pck p = 0 then (if flw p us = [] then 0 else 1) else pck p
def cW (p : Pb) (us : List Int) : List UInt8 := if eW p us = 0 then cB p us else []
theorem eW_1 {p : Pb} {us : List Int} (h : ¬ pck p = 0) : eW p us = pck p := if_neg h
theorem eW_2 {p : Pb} {us : List Int} (h : pck p = 0) (h2 : ¬ flw p us = []) : eW p us = 1 := by unfold eW; rw [if_pos h, if_neg h2]
theorem eW_0 {p : Pb} {us : List Int} (h : pck p = 0) (h2 : flw p us = []) : eW p us = 0 := by unfold eW; rw [if_pos h, if_pos h2]
theorem flw_0len {p : Pb} {us : List Int} (h : flw p us = []) : us.length = p.who.length := by
  unfold flw at h
  split at h
  · cases h
  · rename_i h2; exact Decidable.of_not_not h2
/-! bytes that grow behind a pointer -/
abbrev RB (h : Nat) (X : VHeap) (j : Nat) (v : VVal) (L : List UInt8) : Prop := RG h 1 X j v (L.map iB) L.length
theorem RB.push {h : Nat} {X : VHeap} {j : Nat} {v : VVal} {L : List UInt8} {b : UInt8} (r : RG h 1 X j v (L.map iB ++ [iB b]) (L.length + 1)) : RB h X j v (L ++ [b]) := by
  show RG _ _ _ _ _ _ _
  rw [List.map_append, List.length_append]; exact r
theorem RB.cast {h : Nat} {X : VHeap} {j : Nat} {v : VVal} {L L' : List UInt8} (r : RB h X j v L) (e : L = L') : RB h X j v L' := e ▸ r
theorem RG.app {b es : Nat} {X : VHeap} {j : Nat} {v : VVal} {cs : List VVal} {n : Nat} (r : RG b es X j v cs n) (Y : VHeap) : RG b es (X ++ Y) j v cs n := ⟨get_append r.c, r.l.app Y, r.n⟩
abbrev LB (h : Nat) (X : VHeap) (v : VVal) (L : List UInt8) : Prop := LV h 1 X v (L.map iB) L.length
theorem LB.cast {h : Nat} {X : VHeap} {v : VVal} {L L' : List UInt8} (r : LB h X v L) (e : L = L') : LB h X v L' := e ▸ r
theorem LB.push {h : Nat} {X : VHeap} {v : VVal} {L M : List UInt8} {n : Nat} (r : LV h 1 X v (L.map iB ++ M.map iB) (L.length + n)) (e : n = M.length) : LB h X v (L ++ M) := by
  subst e
  show LV _ _ _ _ _ _
  rw [List.map_append, List.length_append]; exact r
section
variable {T : TypeId → Option VTy} {ρ : Operand → VVal} {B : VHeap} {op : Op}
/-- an append of a list that nobody writes any more to a list that grows -/
theorem v_appXF {h : Nat} {s x : Operand} {ats : Array TypeId} {t u e : TypeId} {z : VTy} {du : TypeDesc} {v : VVal} {Y : VHeap} {cs new : List VVal} {len k : Nat} {ex : Bool}
    (ho : op = .call { callee := .builtin .append, args := #[s, x], argTypes := ats }) (hat : ats = #[t, u]) (hz : velem T t = some (e, z)) (hu : (T u).map (·.desc) = some du) (hdu : isSeq du = true)
    (hs : ρ s = v) (hx : ρ x = .fsl new k z.size ex) (hh : B.length = h) (l : LV h z.size Y v cs len) (hn : new.length = k * z.size) (h1 : new.all VVal.one = true) (hp : 0 < z.size)
    (hb : (len + k) * z.bytes ≤ 140737488355328 ∧ len + k ≤ 140737488355328) (hk : 0 < k) :
    ∃ u G, vop T ρ (B ++ Y) op = some (u, G) ∧ ∃ Y1, u = .slice (some (h + Y.length, 0)) (len + k) (len + k) false z.size ∧ G = B ++ (Y1 ++ [.cells (cs ++ new) true]) ∧ Y1.length = Y.length ∧ (∀ i, vidx v ≠ some (h + i) → Y1[i]? = Y[i]?) ∧
      LV h z.size (Y1 ++ [.cells (cs ++ new) true]) (.slice (some (h + Y.length, 0)) (len + k) (len + k) false z.size) (cs ++ new) (len + k) := by
  subst hh
  have hsrc : srcCells (B ++ Y) z.size k (ρ x) = some new := by
    rw [hx]
    show cellsAt new 0 (k * z.size) = some new
    unfold cellsAt; rw [if_pos (by omega), List.drop_zero, List.take_of_length_le (by omega)]
  have hlen : srcLen (ρ x) = some k := by rw [hx]; rfl
  have hlc : (cs ++ new).length = (len + k) * z.size := by rw [List.length_append, l.1, hn, Nat.add_mul]
  rcases l.2 with ⟨h0, rfl⟩ | ⟨h0, b, rfl, hbk⟩
  · subst h0
    have hcs : cs = [] := List.eq_nil_of_length_eq_zero (by rw [l.1]; omega)
    subst hcs
    refine ⟨.slice (some (B.length + Y.length, 0)) (0 + k) (0 + k) false z.size, B ++ (Y ++ [.cells ([] ++ new) true]), ?_, Y, rfl, rfl, rfl, fun _ _ => rfl, ?_⟩
    · rw [ho, hat]
      simp only [vop, vbuiltin, List.map_cons, List.map_nil, vappend, hs, hz, hlen, hsrc, hu]
      rw [if_pos ⟨hn, h1, hp, by simpa using hb.1, by simpa using hb.2, hdu⟩, if_neg (by simp), if_neg (by omega), if_neg (by decide)]
      simp
    · exact ⟨hlc, .inr ⟨by omega, Y.length, rfl, by simp⟩⟩
  · have hbl : b < Y.length := lt_of_get hbk
    have hg : (B ++ Y)[B.length + b]? = some (.cells cs true) := get_app rfl hbk
    have hold : cellsAt cs 0 (len * z.size) = some cs := by
      unfold cellsAt; rw [if_pos (by rw [l.1]; omega), List.drop_zero, List.take_of_length_le (by rw [l.1]; omega)]
    refine ⟨.slice (some (B.length + Y.length, 0)) (len + k) (len + k) false z.size, B ++ (Y.set b .dead ++ [.cells (cs ++ new) true]), ?_, Y.set b .dead, rfl, rfl, by simp, fun i hi => by rw [List.getElem?_set_ne (fun e => hi (by subst e; rfl))], ?_⟩
    · rw [ho, hat]
      simp only [vop, vbuiltin, List.map_cons, List.map_nil, vappend, hs, hz, hlen, hsrc, hu]
      rw [if_pos ⟨hn, h1, hp, hb.1, hb.2, hdu⟩]
      simp only [hg, if_true]
      rw [if_neg (by omega)]
      simp only [hold]
      rw [if_neg (by decide), set_app rfl]
      simp
    · exact ⟨hlc, .inr ⟨by omega, Y.length, rfl, by rw [List.getElem?_append_right (by simp)]; simp⟩⟩
theorem v_quo256 {t ty : TypeId} {x y : Operand} {a : BitVec 64} (ho : op = .binOp .quo t x y ty) (hx : ρ x = iW a) (hy : ρ y = .int .u64 256) : vop T ρ B op = some (iW (a >>> 8), B) := by
  rw [v_quo ho hx hy (by decide)]
  have h1 : Int.tdiv (a.toNat : Int) 256 = ((a >>> 8).toNat : Int) := by
    rw [BitVec.toNat_ushiftRight, Nat.shiftRight_eq_div_pow]; rfl
  show some (VVal.int .u64 _, B) = some (VVal.int .u64 _, B)
  rw [h1, wrap_wd]
end
end Go.V
