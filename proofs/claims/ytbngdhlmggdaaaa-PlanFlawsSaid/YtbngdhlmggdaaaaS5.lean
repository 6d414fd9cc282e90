/- problems: Check; walk -/
import Derived.Test.YtbngdhlmggdaaaaS4
import Derived.Test.YtbngdhlmggdaaaaV29
set_option autoImplicit false
set_option linter.unusedVariables false
set_option linter.unusedSimpArgs false
set_option maxHeartbeats 4000000
set_option maxRecDepth 100000
namespace Go.Proofs.Ytbngdhlmggdaaaa.VT
open Go Go.V Go.RowKit

abbrev uS5n6 {a0 a1 a2 a3 a4 a5 : VVal} : VEnv := a0 :: a1 :: a2 :: a3 :: a4 :: a5 :: []
abbrev uS5n7 {a0 a1 a2 a3 a4 a5 a6 : VVal} : VEnv := a0 :: a1 :: a2 :: a3 :: a4 :: a5 :: a6 :: []
abbrev uS5n25 {a0 a1 a2 a3 a4 a5 a6 a7 a8 a9 a10 a11 a12 a13 a14 a15 a16 a17 a18 a19 a20 a21 a22 a23 a24 : VVal} : VEnv := a0 :: a1 :: a2 :: a3 :: a4 :: a5 :: a6 :: a7 :: a8 :: a9 :: a10 :: a11 :: a12 :: a13 :: a14 :: a15 :: a16 :: a17 :: a18 :: a19 :: a20 :: a21 :: a22 :: a23 :: a24 :: []
abbrev uS5n79 {a0 a1 a2 a3 a4 a5 a6 a7 a8 a9 a10 a11 a12 a13 a14 a15 a16 a17 a18 a19 a20 a21 a22 a23 a24 a25 a26 a27 a28 a29 a30 a31 a32 a33 a34 a35 a36 a37 a38 a39 a40 a41 a42 a43 a44 a45 a46 a47 a48 a49 a50 a51 a52 a53 a54 a55 a56 a57 a58 a59 a60 a61 a62 a63 a64 a65 a66 a67 a68 a69 a70 a71 a72 a73 a74 a75 a76 a77 a78 : VVal} : VEnv := a0 :: a1 :: a2 :: a3 :: a4 :: a5 :: a6 :: a7 :: a8 :: a9 :: a10 :: a11 :: a12 :: a13 :: a14 :: a15 :: a16 :: a17 :: a18 :: a19 :: a20 :: a21 :: a22 :: a23 :: a24 :: a25 :: a26 :: a27 :: a28 :: a29 :: a30 :: a31 :: a32 :: a33 :: a34 :: a35 :: a36 :: a37 :: a38 :: a39 :: a40 :: a41 :: a42 :: a43 :: a44 :: a45 :: a46 :: a47 :: a48 :: a49 :: a50 :: a51 :: a52 :: a53 :: a54 :: a55 :: a56 :: a57 :: a58 :: a59 :: a60 :: a61 :: a62 :: a63 :: a64 :: a65 :: a66 :: a67 :: a68 :: a69 :: a70 :: a71 :: a72 :: a73 :: a74 :: a75 :: a76 :: a77 :: a78 :: []

theorem wS5n0 {T : TypeId → Option VTy} {H : VHeap} {op : Op} {ρ : Operand → VVal} {t ty : TypeId} {x y : Operand} {n m : Int} (ho : op = .binOp .add t x y ty) (hx : ρ x = .int .i64 n) (hy : ρ y = .int .i64 m) (h : -9223372036854775808 ≤ n + m ∧ n + m < 9223372036854775808 := by first | assumption | omega | (simp [*]; done) | (simp at *; omega)) : vop T ρ H op = some (.int .i64 (n + m), H) := v_addI ho hx hy h
theorem wS5n1 {T : TypeId → Option VTy} {H : VHeap} {op : Op} {ρ : Operand → VVal} {t ty : TypeId} {x y : Operand} {n m : Int} (ho : op = .binOp .add t x y ty) (hx : ρ x = .int .i64 n) (hy : ρ y = .int .i64 m) (h : -9223372036854775808 ≤ n + m ∧ n + m < 9223372036854775808 := by exact ⟨by omega, Int.lt_of_le_of_lt (Int.add_le_add (by decide : _ ≤ (100 : Int)) (Int.ofNat_le.2 (ln_64 _))) (by decide)⟩) : vop T ρ H op = some (.int .i64 (n + m), H) := v_addI ho hx hy h
theorem wS5n2 {T : TypeId → Option VTy} {H : VHeap} {op : Op} {ρ : Operand → VVal} {t : TypeId} {a : Operand} {y : VTy} {p v : VVal} (ho : op = .load t a) (ha : ρ a = p) (hy : T t = some y) (hd : isAggDesc y.desc = false) (h : LdOk H p v := by first | exact .inl ⟨_, _, rfl, by first | rfl | assumption | exact fget (α := BitVec 64) 0 (by omega) | exact fget (α := Int) 0 (by omega) | exact fget0 (α := BitVec 64) 0 (by omega) | exact fget0 (α := Int) 0 (by omega) | exact fget (α := Bool) false (by omega) | exact fget0 (α := Bool) false (by omega) | (simp [*]; done)⟩ | exact .inr ⟨_, _, _, _, rfl, by first | exact get_app rfl rfl | exact get_out (by assumption) | exact getE0 rfl rfl | exact get_out (get_app rfl rfl) | exact get_app rfl (by assumption) | assumption | (simp only [List.append_assoc, List.singleton_append, List.cons_append, List.nil_append]; refine getE (i := 0) rfl ?_ rfl; simp; done) | (simp only [List.append_assoc, List.singleton_append, List.cons_append, List.nil_append]; refine getE (i := 1) rfl ?_ rfl; simp; done) | (simp only [List.append_assoc, List.singleton_append, List.cons_append, List.nil_append]; refine getE (i := 2) rfl ?_ rfl; simp; done) | (simp only [List.append_assoc, List.singleton_append, List.cons_append, List.nil_append]; refine getE (i := 3) rfl ?_ rfl; simp; done) | (simp [*]; done), by first | rfl | assumption | exact fget (α := BitVec 64) 0 (by omega) | exact fget (α := Int) 0 (by omega) | exact fget0 (α := BitVec 64) 0 (by omega) | exact fget0 (α := Int) 0 (by omega) | exact fget (α := Bool) false (by omega) | exact fget0 (α := Bool) false (by omega) | (simp [*]; done)⟩) : vop T ρ H op = some (v, H) := v_ld ho ha hy hd h
theorem wS5n3 {T : TypeId → Option VTy} {H : VHeap} {op : Op} {ρ : Operand → VVal} {t ty : TypeId} {x y : Operand} {n m : Int} (ho : op = .binOp .sub t x y ty) (hx : ρ x = .int .i64 n) (hy : ρ y = .int .i64 m) (h : -9223372036854775808 ≤ n - m ∧ n - m < 9223372036854775808 := by have h9 := ln_64 w; omega) : vop T ρ H op = some (.int .i64 (n - m), H) := v_subI ho hx hy h
theorem wS5n4 {T : TypeId → Option VTy} {H : VHeap} {op : Op} {ρ : VEnv} {H' : VHeap} {t : TypeId} {a : Operand} {i : Nat} {v : VVal} {y : VTy} {b off : Nat} {cs new : List VVal} (ho : op = .store t a (.tmp i)) (hv : ρ[i]? = some v) (ha : ρ.eval a = .ptr (some (b, off))) (hy : T t = some y) (hx : v.cells = some new) (hn : new.length = y.size) (h1 : new.all VVal.one = true) (hb : H[b]? = some (.cells cs true) := by first | exact get_app rfl rfl | exact get_out (by assumption) | exact getE0 rfl rfl | exact get_out (get_app rfl rfl) | exact get_app rfl (by assumption) | assumption | (simp only [List.append_assoc, List.singleton_append, List.cons_append, List.nil_append]; refine getE (i := 0) rfl ?_ rfl; simp; done) | (simp only [List.append_assoc, List.singleton_append, List.cons_append, List.nil_append]; refine getE (i := 1) rfl ?_ rfl; simp; done) | (simp only [List.append_assoc, List.singleton_append, List.cons_append, List.nil_append]; refine getE (i := 2) rfl ?_ rfl; simp; done) | (simp only [List.append_assoc, List.singleton_append, List.cons_append, List.nil_append]; refine getE (i := 3) rfl ?_ rfl; simp; done) | (simp [*]; done)) (hl : off + new.length ≤ cs.length := by first | exact Nat.le_of_ble_eq_true rfl | (simp only [List.length_map, List.length_cons, List.length_nil]; omega) | omega | (simp; done) | (simp; omega)) (hH : H.set b (.cells (splice cs off new) true) = H' := by first | exact setE0 rfl rfl | (simp only [List.append_assoc, List.singleton_append, List.cons_append, List.nil_append]; refine setE (i := 0) rfl ?_; simp; done) | (simp only [List.append_assoc, List.singleton_append, List.cons_append, List.nil_append]; refine setE (i := 1) rfl ?_; simp; done) | (simp only [List.append_assoc, List.singleton_append, List.cons_append, List.nil_append]; refine setE (i := 2) rfl ?_; simp; done) | (simp only [List.append_assoc, List.singleton_append, List.cons_append, List.nil_append]; refine setE (i := 3) rfl ?_; simp; done) | (refine setB rfl ?_; simp; done) | exact set_app rfl | exact set_out (lt_of_get (by assumption)) | rfl) : vop T ρ.eval H op = some (.skip, H') := v_storeT ho hv ha hy hx hn h1 hb hl hH
theorem wS5n5 {T : TypeId → Option VTy} {H : VHeap} {op : Op} {ρ : Operand → VVal} {t : TypeId} {a : Operand} {y : VTy} {p v : VVal} (ho : op = .load t a) (ha : ρ a = p) (hy : T t = some y) (hd : isAggDesc y.desc = false) (h : LdOk H p v := by first | exact .inl ⟨_, _, rfl, by first | rfl | assumption | exact fgetN (α := BitVec 64) 0 (by omega) | exact fgetN (α := Int) 0 (by omega) | exact rul_at (by omega)⟩ | exact .inr ⟨_, _, _, _, rfl, by first | exact get_app rfl rfl | exact get_out (by assumption) | exact getE0 rfl rfl | exact get_out (get_app rfl rfl) | exact get_app rfl (by assumption) | assumption | (simp only [List.append_assoc, List.singleton_append, List.cons_append, List.nil_append]; refine getE (i := 0) rfl ?_ rfl; simp; done) | (simp only [List.append_assoc, List.singleton_append, List.cons_append, List.nil_append]; refine getE (i := 1) rfl ?_ rfl; simp; done) | (simp only [List.append_assoc, List.singleton_append, List.cons_append, List.nil_append]; refine getE (i := 2) rfl ?_ rfl; simp; done) | (simp only [List.append_assoc, List.singleton_append, List.cons_append, List.nil_append]; refine getE (i := 3) rfl ?_ rfl; simp; done) | (simp [*]; done), by first | rfl | assumption | exact fgetN (α := BitVec 64) 0 (by omega) | exact fgetN (α := Int) 0 (by omega) | exact rul_at (by omega)⟩) : vop T ρ H op = some (v, H) := v_ld ho ha hy hd h
theorem wS5n6 {T : TypeId → Option VTy} {H : VHeap} {op : Op} {ρ : Operand → VVal} {t e : TypeId} {x i : Operand} {y z : VTy} {k : IntKind} {n : Int} {p v : VVal} {es : Nat} (ho : op = .indexAddr t x i) (hx : ρ x = p) (hi : ρ i = .int k n) (hy : T t = some y) (hd : y.desc = .slice e) (hz : T e = some z) (hs : z.size = es) (h : IxOk p es n v := by first | exact .inl ⟨_, _, _, rfl, by first | assumption | omega | (simp [*]; done) | (simp at *; omega), rfl⟩ | exact .inr ⟨_, _, _, _, _, rfl, by first | assumption | omega | (simp [*]; done) | (simp at *; omega), rfl⟩) : vop T ρ H op = some (v, H) := v_ix ho hx hi hy hd hz hs h
theorem wS5n7 {T : TypeId → Option VTy} {H : VHeap} {op : Op} {ρ : Operand → VVal} {t ty : TypeId} {x y : Operand} {n m : Int} (ho : op = .binOp .add t x y ty) (hx : ρ x = .int .i64 n) (hy : ρ y = .int .i64 m) (h : -9223372036854775808 ≤ n + m ∧ n + m < 9223372036854775808 := by omega) : vop T ρ H op = some (.int .i64 (n + m), H) := v_addI ho hx hy h
theorem wS5n8 {T : TypeId → Option VTy} {H : VHeap} {op : Op} {ρ : Operand → VVal} {t : TypeId} {a : Operand} {y : VTy} {p : VVal} {n : Nat} {vs : List VVal} (ho : op = .load t a) (ha : ρ a = p) (hy : T t = some y) (hd : isAggDesc y.desc = true) (hn : y.size = n) (h : LdOkA H p n vs := by first | exact .inl ⟨_, _, rfl, by first | rfl | assumption | exact fgetN (α := BitVec 64) 0 (by omega) | exact fgetN (α := Int) 0 (by omega) | exact rul_at (by omega)⟩ | exact .inr ⟨_, _, _, _, rfl, by first | exact get_app rfl rfl | exact get_out (by assumption) | exact getE0 rfl rfl | exact get_out (get_app rfl rfl) | exact get_app rfl (by assumption) | assumption | (simp only [List.append_assoc, List.singleton_append, List.cons_append, List.nil_append]; refine getE (i := 0) rfl ?_ rfl; simp; done) | (simp only [List.append_assoc, List.singleton_append, List.cons_append, List.nil_append]; refine getE (i := 1) rfl ?_ rfl; simp; done) | (simp only [List.append_assoc, List.singleton_append, List.cons_append, List.nil_append]; refine getE (i := 2) rfl ?_ rfl; simp; done) | (simp only [List.append_assoc, List.singleton_append, List.cons_append, List.nil_append]; refine getE (i := 3) rfl ?_ rfl; simp; done) | (simp [*]; done), by first | rfl | assumption | exact fgetN (α := BitVec 64) 0 (by omega) | exact fgetN (α := Int) 0 (by omega) | exact rul_at (by omega)⟩) : vop T ρ H op = some (.agg vs, H) := v_ldA ho ha hy hd hn h

theorem Len64_spec {x : SW} (H : VHeap) (w : BitVec 64) : F (psys x) 64 [iW w] H fun v G => v = iI (ln w : Nat) ∧ G = H := by
 have hw := w.isLt; have d1 : (w >>> 32).toNat = w.toNat / 4294967296 := by rw [BitVec.toNat_ushiftRight, Nat.shiftRight_eq_div_pow]
 have d2 : (w >>> 16).toNat = w.toNat / 65536 := by rw [BitVec.toNat_ushiftRight, Nat.shiftRight_eq_div_pow]
 have d3 : (w >>> 8).toNat = w.toNat / 256 := by rw [BitVec.toNat_ushiftRight, Nat.shiftRight_eq_div_pow]
 have d4 : (w >>> 32 >>> 16).toNat = (w >>> 32).toNat / 65536 := by rw [BitVec.toNat_ushiftRight, Nat.shiftRight_eq_div_pow]
 have d5 : (w >>> 32 >>> 8).toNat = (w >>> 32).toNat / 256 := by rw [BitVec.toNat_ushiftRight, Nat.shiftRight_eq_div_pow]
 have d6 : (w >>> 16 >>> 8).toNat = (w >>> 16).toNat / 256 := by rw [BitVec.toNat_ushiftRight, Nat.shiftRight_eq_div_pow]
 have d7 : (w >>> 32 >>> 16 >>> 8).toNat = (w >>> 32 >>> 16).toNat / 256 := by rw [BitVec.toNat_ushiftRight, Nat.shiftRight_eq_div_pow]
 refine F_body Try.func64 rfl uS5n25 rfl ?_
 refine B_seq (B_region ?_)
 refine L_op (env' := uS5n25) rfl rfl (v_const (VVal.int .i64 0) (.inr rfl) rfl) rfl ?_
 refine L_nil (K_seq (B_seq (B_seq (B_region ?_))))
 refine L_op (env' := uS5n25) rfl rfl (v_move (.inl rfl) rfl) rfl ?_
 refine L_op (env' := uS5n25) rfl rfl (rfl) rfl ?_
 refine L_nil (K_seq ?_)
 refine B_cond _ rfl (fun hc1 => ?_) (fun hc1 => ?_)
 ·try simp only [qB] at hc1
  refine B_seq (B_region ?_)
  refine L_op (env' := uS5n25) rfl rfl (v_move (.inl rfl) rfl) rfl ?_
  refine L_op (env' := uS5n25) rfl rfl (v_shrN 32 rfl rfl rfl) rfl ?_
  refine L_op (env' := uS5n25) rfl rfl (v_move (.inr rfl) rfl) rfl ?_
  refine L_nil (K_seq (B_region ?_))
  refine L_op (env' := uS5n25) rfl rfl (v_const (VVal.int .i64 32) (.inr rfl) rfl) rfl ?_
  refine L_nil (K_seq (B_seq (B_seq (B_region ?_))))
  refine L_op (env' := uS5n25) rfl rfl (v_move (.inl rfl) rfl) rfl ?_
  refine L_op (env' := uS5n25) rfl rfl (rfl) rfl ?_
  refine L_nil (K_seq ?_)
  refine B_cond _ rfl (fun hc2 => ?_) (fun hc2 => ?_)
  ·try simp only [qB] at hc2
   refine B_seq (B_region ?_)
   refine L_op (env' := uS5n25) rfl rfl (v_move (.inl rfl) rfl) rfl ?_
   refine L_op (env' := uS5n25) rfl rfl (v_shrN 16 rfl rfl rfl) rfl ?_
   refine L_op (env' := uS5n25) rfl rfl (v_move (.inr rfl) rfl) rfl ?_
   refine L_nil (K_seq (B_region ?_))
   refine L_op (env' := uS5n25) rfl rfl (v_move (.inl rfl) rfl) rfl ?_
   refine L_op (env' := uS5n25) rfl rfl (wS5n0 rfl rfl rfl) rfl ?_
   refine L_op (env' := uS5n25) rfl rfl (v_move (.inr rfl) rfl) rfl ?_
   refine L_nil (K_seq (B_seq (B_seq (B_region ?_))))
   refine L_op (env' := uS5n25) rfl rfl (v_move (.inl rfl) rfl) rfl ?_
   refine L_op (env' := uS5n25) rfl rfl (rfl) rfl ?_
   refine L_nil (K_seq ?_)
   refine B_cond _ rfl (fun hc3 => ?_) (fun hc3 => ?_)
   ·try simp only [qB] at hc3
    refine B_seq (B_region ?_)
    refine L_op (env' := uS5n25) rfl rfl (v_move (.inl rfl) rfl) rfl ?_
    refine L_op (env' := uS5n25) rfl rfl (v_shrN 8 rfl rfl rfl) rfl ?_
    refine L_op (env' := uS5n25) rfl rfl (v_move (.inr rfl) rfl) rfl ?_
    refine L_nil (K_seq (B_region ?_))
    refine L_op (env' := uS5n25) rfl rfl (v_move (.inl rfl) rfl) rfl ?_
    refine L_op (env' := uS5n25) rfl rfl (wS5n0 rfl rfl rfl) rfl ?_
    refine L_op (env' := uS5n25) rfl rfl (v_move (.inr rfl) rfl) rfl ?_
    refine L_nil (K_seq (B_seq (B_region ?_)))
    refine L_op (env' := uS5n25) rfl rfl (v_move (.inl rfl) rfl) rfl ?_
    refine L_op (env' := uS5n25) rfl rfl (v_move (.inl rfl) rfl) rfl ?_
    refine L_op (env' := uS5n25) rfl rfl (rfl) rfl ?_
    refine L_op (env' := uS5n25) rfl rfl (v_l8 rfl rfl (by kernel_rfl) rfl rfl rfl (by omega)) rfl ?_
    refine L_op (env' := uS5n25) rfl rfl (v_cvI rfl rfl rfl rfl rfl (by have h9 := ln_64 w; exact ⟨by omega, Int.lt_of_le_of_lt (Int.ofNat_le.2 (ln_64 _)) (by decide)⟩)) rfl ?_
    refine L_op (env' := uS5n25) rfl rfl (wS5n1 rfl rfl rfl) rfl ?_
    refine L_op (env' := uS5n25) rfl rfl (v_move (.inr rfl) rfl) rfl ?_
    refine L_nil (K_seq (B_ret ?_))
    refine E_app (.inr rfl) (vres_tmp rfl rfl) (by first | exact BaseOk.refl _ | exact BaseOk.set (BaseOk.refl _) _ rfl) (by first | rfl | simp [VVal.under, VVal.underL, *]) ?_
    have e1 := fun h => @ln_shr w 32 h
    have e2 := fun h => @ln_shr w 16 h
    have e3 := fun h => @ln_shr (w >>> 32) 16 h
    have e4 := fun h => @ln_shr w 8 h
    have e5 := fun h => @ln_shr (w >>> 32) 8 h
    have e6 := fun h => @ln_shr (w >>> 16) 8 h
    have e7 := fun h => @ln_shr (w >>> 32 >>> 16) 8 h
    simp only [show (2 : Nat) ^ 32 = 4294967296 from rfl, show (2 : Nat) ^ 16 = 65536 from rfl, show (2 : Nat) ^ 8 = 256 from rfl] at e1 e2 e3 e4 e5 e6 e7
    refine ⟨congrArg iI ?_, rfl⟩
    first
      | omega
      | (have := e1 (by omega); have := e3 (by omega); have := e7 (by omega); omega)
   ·try simp only [qB] at hc3
    refine B_skip (K_seq (B_seq (B_region ?_)))
    refine L_op (env' := uS5n25) rfl rfl (v_move (.inl rfl) rfl) rfl ?_
    refine L_op (env' := uS5n25) rfl rfl (v_move (.inl rfl) rfl) rfl ?_
    refine L_op (env' := uS5n25) rfl rfl (rfl) rfl ?_
    refine L_op (env' := uS5n25) rfl rfl (v_l8 rfl rfl (by kernel_rfl) rfl rfl rfl (by omega)) rfl ?_
    refine L_op (env' := uS5n25) rfl rfl (v_cvI rfl rfl rfl rfl rfl (by have h9 := ln_64 w; exact ⟨by omega, Int.lt_of_le_of_lt (Int.ofNat_le.2 (ln_64 _)) (by decide)⟩)) rfl ?_
    refine L_op (env' := uS5n25) rfl rfl (wS5n1 rfl rfl rfl) rfl ?_
    refine L_op (env' := uS5n25) rfl rfl (v_move (.inr rfl) rfl) rfl ?_
    refine L_nil (K_seq (B_ret ?_))
    refine E_app (.inr rfl) (vres_tmp rfl rfl) (by first | exact BaseOk.refl _ | exact BaseOk.set (BaseOk.refl _) _ rfl) (by first | rfl | simp [VVal.under, VVal.underL, *]) ?_
    have e1 := fun h => @ln_shr w 32 h
    have e2 := fun h => @ln_shr w 16 h
    have e3 := fun h => @ln_shr (w >>> 32) 16 h
    have e4 := fun h => @ln_shr w 8 h
    have e5 := fun h => @ln_shr (w >>> 32) 8 h
    have e6 := fun h => @ln_shr (w >>> 16) 8 h
    have e7 := fun h => @ln_shr (w >>> 32 >>> 16) 8 h
    simp only [show (2 : Nat) ^ 32 = 4294967296 from rfl, show (2 : Nat) ^ 16 = 65536 from rfl, show (2 : Nat) ^ 8 = 256 from rfl] at e1 e2 e3 e4 e5 e6 e7
    refine ⟨congrArg iI ?_, rfl⟩
    first
      | omega
      | (have := e1 (by omega); have := e3 (by omega); have := e7 (by omega); omega)
  ·try simp only [qB] at hc2
   refine B_skip (K_seq (B_seq (B_seq (B_region ?_))))
   refine L_op (env' := uS5n25) rfl rfl (v_move (.inl rfl) rfl) rfl ?_
   refine L_op (env' := uS5n25) rfl rfl (rfl) rfl ?_
   refine L_nil (K_seq ?_)
   refine B_cond _ rfl (fun hc4 => ?_) (fun hc4 => ?_)
   ·try simp only [qB] at hc4
    refine B_seq (B_region ?_)
    refine L_op (env' := uS5n25) rfl rfl (v_move (.inl rfl) rfl) rfl ?_
    refine L_op (env' := uS5n25) rfl rfl (v_shrN 8 rfl rfl rfl) rfl ?_
    refine L_op (env' := uS5n25) rfl rfl (v_move (.inr rfl) rfl) rfl ?_
    refine L_nil (K_seq (B_region ?_))
    refine L_op (env' := uS5n25) rfl rfl (v_move (.inl rfl) rfl) rfl ?_
    refine L_op (env' := uS5n25) rfl rfl (wS5n0 rfl rfl rfl) rfl ?_
    refine L_op (env' := uS5n25) rfl rfl (v_move (.inr rfl) rfl) rfl ?_
    refine L_nil (K_seq (B_seq (B_region ?_)))
    refine L_op (env' := uS5n25) rfl rfl (v_move (.inl rfl) rfl) rfl ?_
    refine L_op (env' := uS5n25) rfl rfl (v_move (.inl rfl) rfl) rfl ?_
    refine L_op (env' := uS5n25) rfl rfl (rfl) rfl ?_
    refine L_op (env' := uS5n25) rfl rfl (v_l8 rfl rfl (by kernel_rfl) rfl rfl rfl (by omega)) rfl ?_
    refine L_op (env' := uS5n25) rfl rfl (v_cvI rfl rfl rfl rfl rfl (by have h9 := ln_64 w; exact ⟨by omega, Int.lt_of_le_of_lt (Int.ofNat_le.2 (ln_64 _)) (by decide)⟩)) rfl ?_
    refine L_op (env' := uS5n25) rfl rfl (wS5n1 rfl rfl rfl) rfl ?_
    refine L_op (env' := uS5n25) rfl rfl (v_move (.inr rfl) rfl) rfl ?_
    refine L_nil (K_seq (B_ret ?_))
    refine E_app (.inr rfl) (vres_tmp rfl rfl) (by first | exact BaseOk.refl _ | exact BaseOk.set (BaseOk.refl _) _ rfl) (by first | rfl | simp [VVal.under, VVal.underL, *]) ?_
    have e1 := fun h => @ln_shr w 32 h
    have e2 := fun h => @ln_shr w 16 h
    have e3 := fun h => @ln_shr (w >>> 32) 16 h
    have e4 := fun h => @ln_shr w 8 h
    have e5 := fun h => @ln_shr (w >>> 32) 8 h
    have e6 := fun h => @ln_shr (w >>> 16) 8 h
    have e7 := fun h => @ln_shr (w >>> 32 >>> 16) 8 h
    simp only [show (2 : Nat) ^ 32 = 4294967296 from rfl, show (2 : Nat) ^ 16 = 65536 from rfl, show (2 : Nat) ^ 8 = 256 from rfl] at e1 e2 e3 e4 e5 e6 e7
    refine ⟨congrArg iI ?_, rfl⟩
    first
      | omega
      | (have := e1 (by omega); have := e3 (by omega); have := e7 (by omega); omega)
   ·try simp only [qB] at hc4
    refine B_skip (K_seq (B_seq (B_region ?_)))
    refine L_op (env' := uS5n25) rfl rfl (v_move (.inl rfl) rfl) rfl ?_
    refine L_op (env' := uS5n25) rfl rfl (v_move (.inl rfl) rfl) rfl ?_
    refine L_op (env' := uS5n25) rfl rfl (rfl) rfl ?_
    refine L_op (env' := uS5n25) rfl rfl (v_l8 rfl rfl (by kernel_rfl) rfl rfl rfl (by omega)) rfl ?_
    refine L_op (env' := uS5n25) rfl rfl (v_cvI rfl rfl rfl rfl rfl (by have h9 := ln_64 w; exact ⟨by omega, Int.lt_of_le_of_lt (Int.ofNat_le.2 (ln_64 _)) (by decide)⟩)) rfl ?_
    refine L_op (env' := uS5n25) rfl rfl (wS5n1 rfl rfl rfl) rfl ?_
    refine L_op (env' := uS5n25) rfl rfl (v_move (.inr rfl) rfl) rfl ?_
    refine L_nil (K_seq (B_ret ?_))
    refine E_app (.inr rfl) (vres_tmp rfl rfl) (by first | exact BaseOk.refl _ | exact BaseOk.set (BaseOk.refl _) _ rfl) (by first | rfl | simp [VVal.under, VVal.underL, *]) ?_
    have e1 := fun h => @ln_shr w 32 h
    have e2 := fun h => @ln_shr w 16 h
    have e3 := fun h => @ln_shr (w >>> 32) 16 h
    have e4 := fun h => @ln_shr w 8 h
    have e5 := fun h => @ln_shr (w >>> 32) 8 h
    have e6 := fun h => @ln_shr (w >>> 16) 8 h
    have e7 := fun h => @ln_shr (w >>> 32 >>> 16) 8 h
    simp only [show (2 : Nat) ^ 32 = 4294967296 from rfl, show (2 : Nat) ^ 16 = 65536 from rfl, show (2 : Nat) ^ 8 = 256 from rfl] at e1 e2 e3 e4 e5 e6 e7
    refine ⟨congrArg iI ?_, rfl⟩
    first
      | omega
      | (have := e1 (by omega); have := e3 (by omega); have := e7 (by omega); omega)
 ·try simp only [qB] at hc1
  refine B_skip (K_seq (B_seq (B_seq (B_region ?_))))
  refine L_op (env' := uS5n25) rfl rfl (v_move (.inl rfl) rfl) rfl ?_
  refine L_op (env' := uS5n25) rfl rfl (rfl) rfl ?_
  refine L_nil (K_seq ?_)
  refine B_cond _ rfl (fun hc5 => ?_) (fun hc5 => ?_)
  ·try simp only [qB] at hc5
   refine B_seq (B_region ?_)
   refine L_op (env' := uS5n25) rfl rfl (v_move (.inl rfl) rfl) rfl ?_
   refine L_op (env' := uS5n25) rfl rfl (v_shrN 16 rfl rfl rfl) rfl ?_
   refine L_op (env' := uS5n25) rfl rfl (v_move (.inr rfl) rfl) rfl ?_
   refine L_nil (K_seq (B_region ?_))
   refine L_op (env' := uS5n25) rfl rfl (v_move (.inl rfl) rfl) rfl ?_
   refine L_op (env' := uS5n25) rfl rfl (wS5n0 rfl rfl rfl) rfl ?_
   refine L_op (env' := uS5n25) rfl rfl (v_move (.inr rfl) rfl) rfl ?_
   refine L_nil (K_seq (B_seq (B_seq (B_region ?_))))
   refine L_op (env' := uS5n25) rfl rfl (v_move (.inl rfl) rfl) rfl ?_
   refine L_op (env' := uS5n25) rfl rfl (rfl) rfl ?_
   refine L_nil (K_seq ?_)
   refine B_cond _ rfl (fun hc6 => ?_) (fun hc6 => ?_)
   ·try simp only [qB] at hc6
    refine B_seq (B_region ?_)
    refine L_op (env' := uS5n25) rfl rfl (v_move (.inl rfl) rfl) rfl ?_
    refine L_op (env' := uS5n25) rfl rfl (v_shrN 8 rfl rfl rfl) rfl ?_
    refine L_op (env' := uS5n25) rfl rfl (v_move (.inr rfl) rfl) rfl ?_
    refine L_nil (K_seq (B_region ?_))
    refine L_op (env' := uS5n25) rfl rfl (v_move (.inl rfl) rfl) rfl ?_
    refine L_op (env' := uS5n25) rfl rfl (wS5n0 rfl rfl rfl) rfl ?_
    refine L_op (env' := uS5n25) rfl rfl (v_move (.inr rfl) rfl) rfl ?_
    refine L_nil (K_seq (B_seq (B_region ?_)))
    refine L_op (env' := uS5n25) rfl rfl (v_move (.inl rfl) rfl) rfl ?_
    refine L_op (env' := uS5n25) rfl rfl (v_move (.inl rfl) rfl) rfl ?_
    refine L_op (env' := uS5n25) rfl rfl (rfl) rfl ?_
    refine L_op (env' := uS5n25) rfl rfl (v_l8 rfl rfl (by kernel_rfl) rfl rfl rfl (by omega)) rfl ?_
    refine L_op (env' := uS5n25) rfl rfl (v_cvI rfl rfl rfl rfl rfl (by have h9 := ln_64 w; exact ⟨by omega, Int.lt_of_le_of_lt (Int.ofNat_le.2 (ln_64 _)) (by decide)⟩)) rfl ?_
    refine L_op (env' := uS5n25) rfl rfl (wS5n1 rfl rfl rfl) rfl ?_
    refine L_op (env' := uS5n25) rfl rfl (v_move (.inr rfl) rfl) rfl ?_
    refine L_nil (K_seq (B_ret ?_))
    refine E_app (.inr rfl) (vres_tmp rfl rfl) (by first | exact BaseOk.refl _ | exact BaseOk.set (BaseOk.refl _) _ rfl) (by first | rfl | simp [VVal.under, VVal.underL, *]) ?_
    have e1 := fun h => @ln_shr w 32 h
    have e2 := fun h => @ln_shr w 16 h
    have e3 := fun h => @ln_shr (w >>> 32) 16 h
    have e4 := fun h => @ln_shr w 8 h
    have e5 := fun h => @ln_shr (w >>> 32) 8 h
    have e6 := fun h => @ln_shr (w >>> 16) 8 h
    have e7 := fun h => @ln_shr (w >>> 32 >>> 16) 8 h
    simp only [show (2 : Nat) ^ 32 = 4294967296 from rfl, show (2 : Nat) ^ 16 = 65536 from rfl, show (2 : Nat) ^ 8 = 256 from rfl] at e1 e2 e3 e4 e5 e6 e7
    refine ⟨congrArg iI ?_, rfl⟩
    first
      | omega
      | (have := e1 (by omega); have := e3 (by omega); have := e7 (by omega); omega)
   ·try simp only [qB] at hc6
    refine B_skip (K_seq (B_seq (B_region ?_)))
    refine L_op (env' := uS5n25) rfl rfl (v_move (.inl rfl) rfl) rfl ?_
    refine L_op (env' := uS5n25) rfl rfl (v_move (.inl rfl) rfl) rfl ?_
    refine L_op (env' := uS5n25) rfl rfl (rfl) rfl ?_
    refine L_op (env' := uS5n25) rfl rfl (v_l8 rfl rfl (by kernel_rfl) rfl rfl rfl (by omega)) rfl ?_
    refine L_op (env' := uS5n25) rfl rfl (v_cvI rfl rfl rfl rfl rfl (by have h9 := ln_64 w; exact ⟨by omega, Int.lt_of_le_of_lt (Int.ofNat_le.2 (ln_64 _)) (by decide)⟩)) rfl ?_
    refine L_op (env' := uS5n25) rfl rfl (wS5n1 rfl rfl rfl) rfl ?_
    refine L_op (env' := uS5n25) rfl rfl (v_move (.inr rfl) rfl) rfl ?_
    refine L_nil (K_seq (B_ret ?_))
    refine E_app (.inr rfl) (vres_tmp rfl rfl) (by first | exact BaseOk.refl _ | exact BaseOk.set (BaseOk.refl _) _ rfl) (by first | rfl | simp [VVal.under, VVal.underL, *]) ?_
    have e1 := fun h => @ln_shr w 32 h
    have e2 := fun h => @ln_shr w 16 h
    have e3 := fun h => @ln_shr (w >>> 32) 16 h
    have e4 := fun h => @ln_shr w 8 h
    have e5 := fun h => @ln_shr (w >>> 32) 8 h
    have e6 := fun h => @ln_shr (w >>> 16) 8 h
    have e7 := fun h => @ln_shr (w >>> 32 >>> 16) 8 h
    simp only [show (2 : Nat) ^ 32 = 4294967296 from rfl, show (2 : Nat) ^ 16 = 65536 from rfl, show (2 : Nat) ^ 8 = 256 from rfl] at e1 e2 e3 e4 e5 e6 e7
    refine ⟨congrArg iI ?_, rfl⟩
    first
      | omega
      | (have := e1 (by omega); have := e3 (by omega); have := e7 (by omega); omega)
  ·try simp only [qB] at hc5
   refine B_skip (K_seq (B_seq (B_seq (B_region ?_))))
   refine L_op (env' := uS5n25) rfl rfl (v_move (.inl rfl) rfl) rfl ?_
   refine L_op (env' := uS5n25) rfl rfl (rfl) rfl ?_
   refine L_nil (K_seq ?_)
   refine B_cond _ rfl (fun hc7 => ?_) (fun hc7 => ?_)
   ·try simp only [qB] at hc7
    refine B_seq (B_region ?_)
    refine L_op (env' := uS5n25) rfl rfl (v_move (.inl rfl) rfl) rfl ?_
    refine L_op (env' := uS5n25) rfl rfl (v_shrN 8 rfl rfl rfl) rfl ?_
    refine L_op (env' := uS5n25) rfl rfl (v_move (.inr rfl) rfl) rfl ?_
    refine L_nil (K_seq (B_region ?_))
    refine L_op (env' := uS5n25) rfl rfl (v_move (.inl rfl) rfl) rfl ?_
    refine L_op (env' := uS5n25) rfl rfl (wS5n0 rfl rfl rfl) rfl ?_
    refine L_op (env' := uS5n25) rfl rfl (v_move (.inr rfl) rfl) rfl ?_
    refine L_nil (K_seq (B_seq (B_region ?_)))
    refine L_op (env' := uS5n25) rfl rfl (v_move (.inl rfl) rfl) rfl ?_
    refine L_op (env' := uS5n25) rfl rfl (v_move (.inl rfl) rfl) rfl ?_
    refine L_op (env' := uS5n25) rfl rfl (rfl) rfl ?_
    refine L_op (env' := uS5n25) rfl rfl (v_l8 rfl rfl (by kernel_rfl) rfl rfl rfl (by omega)) rfl ?_
    refine L_op (env' := uS5n25) rfl rfl (v_cvI rfl rfl rfl rfl rfl (by have h9 := ln_64 w; exact ⟨by omega, Int.lt_of_le_of_lt (Int.ofNat_le.2 (ln_64 _)) (by decide)⟩)) rfl ?_
    refine L_op (env' := uS5n25) rfl rfl (wS5n1 rfl rfl rfl) rfl ?_
    refine L_op (env' := uS5n25) rfl rfl (v_move (.inr rfl) rfl) rfl ?_
    refine L_nil (K_seq (B_ret ?_))
    refine E_app (.inr rfl) (vres_tmp rfl rfl) (by first | exact BaseOk.refl _ | exact BaseOk.set (BaseOk.refl _) _ rfl) (by first | rfl | simp [VVal.under, VVal.underL, *]) ?_
    have e1 := fun h => @ln_shr w 32 h
    have e2 := fun h => @ln_shr w 16 h
    have e3 := fun h => @ln_shr (w >>> 32) 16 h
    have e4 := fun h => @ln_shr w 8 h
    have e5 := fun h => @ln_shr (w >>> 32) 8 h
    have e6 := fun h => @ln_shr (w >>> 16) 8 h
    have e7 := fun h => @ln_shr (w >>> 32 >>> 16) 8 h
    simp only [show (2 : Nat) ^ 32 = 4294967296 from rfl, show (2 : Nat) ^ 16 = 65536 from rfl, show (2 : Nat) ^ 8 = 256 from rfl] at e1 e2 e3 e4 e5 e6 e7
    refine ⟨congrArg iI ?_, rfl⟩
    first
      | omega
      | (have := e1 (by omega); have := e3 (by omega); have := e7 (by omega); omega)
   ·try simp only [qB] at hc7
    refine B_skip (K_seq (B_seq (B_region ?_)))
    refine L_op (env' := uS5n25) rfl rfl (v_move (.inl rfl) rfl) rfl ?_
    refine L_op (env' := uS5n25) rfl rfl (v_move (.inl rfl) rfl) rfl ?_
    refine L_op (env' := uS5n25) rfl rfl (rfl) rfl ?_
    refine L_op (env' := uS5n25) rfl rfl (v_l8 rfl rfl (by kernel_rfl) rfl rfl rfl (by omega)) rfl ?_
    refine L_op (env' := uS5n25) rfl rfl (v_cvI rfl rfl rfl rfl rfl (by have h9 := ln_64 w; exact ⟨by omega, Int.lt_of_le_of_lt (Int.ofNat_le.2 (ln_64 _)) (by decide)⟩)) rfl ?_
    refine L_op (env' := uS5n25) rfl rfl (wS5n1 rfl rfl rfl) rfl ?_
    refine L_op (env' := uS5n25) rfl rfl (v_move (.inr rfl) rfl) rfl ?_
    refine L_nil (K_seq (B_ret ?_))
    refine E_app (.inr rfl) (vres_tmp rfl rfl) (by first | exact BaseOk.refl _ | exact BaseOk.set (BaseOk.refl _) _ rfl) (by first | rfl | simp [VVal.under, VVal.underL, *]) ?_
    have e1 := fun h => @ln_shr w 32 h
    have e2 := fun h => @ln_shr w 16 h
    have e3 := fun h => @ln_shr (w >>> 32) 16 h
    have e4 := fun h => @ln_shr w 8 h
    have e5 := fun h => @ln_shr (w >>> 32) 8 h
    have e6 := fun h => @ln_shr (w >>> 16) 8 h
    have e7 := fun h => @ln_shr (w >>> 32 >>> 16) 8 h
    simp only [show (2 : Nat) ^ 32 = 4294967296 from rfl, show (2 : Nat) ^ 16 = 65536 from rfl, show (2 : Nat) ^ 8 = 256 from rfl] at e1 e2 e3 e4 e5 e6 e7
    refine ⟨congrArg iI ?_, rfl⟩
    first
      | omega
      | (have := e1 (by omega); have := e3 (by omega); have := e7 (by omega); omega)

theorem High_spec {x : SW} (H : VHeap) (w : BitVec 64) : F (psys x) 52 [.agg [iW w]] H fun v G => v = iI ((ln w : Nat) - 1) ∧ G = H := by
 refine F_body Try.func52 rfl uS5n7 rfl ?_
 refine B_seq (B_region ?_)
 refine L_op (env' := uS5n7) rfl rfl (v_boxT rfl rfl rfl) rfl ?_
 refine L_op (env' := uS5n7) rfl rfl (v_const (VVal.int .i64 0) (.inr rfl) rfl) rfl ?_
 refine L_nil (K_seq (B_seq (B_region ?_)))
 refine L_op (env' := uS5n7) rfl rfl (rfl) rfl ?_
 refine L_op (env' := uS5n7) rfl rfl (wS5n2 rfl rfl rfl rfl) rfl ?_
 refine L_call rfl rfl rfl (by exact Len64_spec _ _) ?_
 rintro _ _ ⟨rfl, rfl⟩
 refine L_env (env' := uS5n7) rfl ?_
 refine L_op (env' := uS5n7) rfl rfl (wS5n3 rfl rfl rfl) rfl ?_
 refine L_op (env' := uS5n7) rfl rfl (v_move (.inr rfl) rfl) rfl ?_
 refine L_nil (K_seq (B_ret ?_))
 refine E_app (.inr rfl) (vres_tmp rfl rfl) (by first | exact BaseOk.refl _ | exact BaseOk.set (BaseOk.refl _) _ rfl) (by first | rfl | simp [VVal.under, VVal.underL, *]) ?_
 exact ⟨rfl, rfl⟩

/-- a problem that fits into a memory -/
structure PbL (p : Pb) : Prop where
  u : -9223372036854775808 ≤ p.users ∧ p.users < 9223372036854775808
  w : p.who.length ≤ 1000000
  f : p.fixed.length ≤ 1000000
  r : p.rules.length ≤ 1000000
  s : ∀ r, r ∈ p.rules → r.steps.length ≤ 1000000
theorem okW_bad {u f : Int} {w : BitVec 64} (hu : 0 ≤ u) (h : f < -1 ∨ u ≤ f ∨ u ≤ (ln w : Int) - 1) : okW u f w = false := by
  unfold okW
  rcases h with h | h | h
  · rw [decide_eq_false (by omega), Bool.false_and]
  · rw [decide_eq_false (by omega), Bool.false_and]
  · rw [decide_eq_false ((ln_high hu).1 h), Bool.and_false]
theorem okW_ok {u f : Int} {w : BitVec 64} (hu : 0 ≤ u) (h1 : -1 ≤ f) (h2 : f < u) (h : ¬ u ≤ (ln w : Int) - 1) : okW u f w = true := by
  unfold okW
  rw [decide_eq_true ⟨h1, h2⟩, decide_eq_true (Decidable.of_not_not fun e => h ((ln_high hu).2 e))]; rfl
theorem pck_2 {p : Pb} (h : 12 < p.who.length ∨ 64 < p.users ∨ 32 < p.rules.length) : pck p = 2 := if_pos h
theorem pck_1 {p : Pb} (h : ¬ (12 < p.who.length ∨ 64 < p.users ∨ 32 < p.rules.length)) (h2 : p.users < 0 ∨ p.fixed.length ≠ p.who.length) : pck p = 1 := by unfold pck; rw [if_neg h, if_pos h2]
theorem pck_1w {p : Pb} (h : ¬ (12 < p.who.length ∨ 64 < p.users ∨ 32 < p.rules.length)) (h2 : ¬ (p.users < 0 ∨ p.fixed.length ≠ p.who.length)) {i : Nat} (hi : i < p.who.length) (h3 : okW p.users (p.fixed.getD i 0) (p.who.getD i 0) = false) : pck p = 1 := by
  unfold pck; rw [if_neg h, if_neg h2, if_neg]
  intro e
  rw [Bool.and_eq_true, List.all_eq_true] at e
  have := e.1 i (List.mem_range.2 hi); rw [h3] at this; cases this
theorem pck_1r {p : Pb} (h : ¬ (12 < p.who.length ∨ 64 < p.users ∨ 32 < p.rules.length)) (h2 : ¬ (p.users < 0 ∨ p.fixed.length ≠ p.who.length)) {i : Nat} (hi : i < p.rules.length) (h3 : ¬ rck p.who.length (p.rules.getD i r0) = true) : pck p = 1 := by
  unfold pck; rw [if_neg h, if_neg h2, if_neg]
  intro e
  rw [Bool.and_eq_true, List.all_eq_true, List.all_eq_true] at e
  exact h3 (e.2 _ (rul_mem hi))
theorem all_at {rs : List Rul} {f : Rul → Bool} (h : ∀ i, i < rs.length → f (rs.getD i r0) = true) : ∀ r, r ∈ rs → f r = true := fun r hr => by
  obtain ⟨i, hi, e⟩ := List.getElem_of_mem hr
  have := h i hi
  rw [List.getD_eq_getElem?_getD, List.getElem?_eq_getElem hi] at this
  simpa [e] using this
theorem pck_0 {p : Pb} (h : ¬ (12 < p.who.length ∨ 64 < p.users ∨ 32 < p.rules.length)) (h2 : ¬ (p.users < 0 ∨ p.fixed.length ≠ p.who.length)) (h3 : ∀ i, i < p.who.length → okW p.users (p.fixed.getD i 0) (p.who.getD i 0) = true) (h4 : ∀ i, i < p.rules.length → rck p.who.length (p.rules.getD i r0) = true) : pck p = 0 :=
  pck_good.2 ⟨by omega, by omega, by omega, by omega, by omega, h3, all_at h4⟩
theorem pb_under {n : Nat} {p : Pb} : (VVal.agg (pbB p)).under n = true := by
  simp [VVal.under, VVal.underL, fzR, fzI_under, fzW_under, fm_under (f := rlB) (fun a => by simp [VVal.underL, VVal.under, fzI_under])]
theorem pbB_under {n : Nat} {p : Pb} : VVal.underL n (pbB p) = true := pb_under
theorem flR_under {n : Nat} {l : List Rul} : VVal.underL n (l.flatMap rlB) = true := fm_under (f := rlB) (fun a => by simp [VVal.underL, VVal.under, fzI_under]) l

theorem sset_spec {x : SW} (H : VHeap) (w : BitVec 64) : F (psys x) 50 [iW w] H fun v G => v = .agg [iW w] ∧ G = H := by
 refine F_body Try.func50 rfl uS5n6 rfl ?_
 refine B_seq (B_region ?_)
 refine L_op (env' := uS5n6) rfl rfl (v_alloc rfl rfl) rfl ?_
 refine L_nil (K_seq (B_seq (B_region ?_)))
 refine L_op (env' := uS5n6) rfl rfl (rfl) rfl ?_
 refine L_op (env' := uS5n6) rfl rfl (v_move (.inl rfl) rfl) rfl ?_
 refine L_call rfl rfl rfl (by exact Of_spec _ 0#64 _) ?_
 rintro _ _ ⟨rfl, rfl⟩
 refine L_env (env' := uS5n6) rfl ?_
 refine L_op (env' := uS5n6) rfl rfl (wS5n4 rfl rfl rfl rfl rfl rfl rfl) rfl ?_
 refine L_nil (K_seq (B_ret ?_))
 refine E_app (.inr rfl) (vres_cellA rfl rfl rfl rfl (by first | exact get_app rfl rfl | exact get_out (by assumption) | exact getE0 rfl rfl | exact get_out (get_app rfl rfl) | exact get_app rfl (by assumption) | assumption | (simp only [List.append_assoc, List.singleton_append, List.cons_append, List.nil_append]; refine getE (i := 0) rfl ?_ rfl; simp; done) | (simp only [List.append_assoc, List.singleton_append, List.cons_append, List.nil_append]; refine getE (i := 1) rfl ?_ rfl; simp; done) | (simp only [List.append_assoc, List.singleton_append, List.cons_append, List.nil_append]; refine getE (i := 2) rfl ?_ rfl; simp; done) | (simp only [List.append_assoc, List.singleton_append, List.cons_append, List.nil_append]; refine getE (i := 3) rfl ?_ rfl; simp; done) | (simp [*]; done)) (by first | rfl | assumption | exact fget (α := BitVec 64) 0 (by omega) | exact fget (α := Int) 0 (by omega) | exact fget0 (α := BitVec 64) 0 (by omega) | exact fget0 (α := Int) 0 (by omega) | exact fget (α := Bool) false (by omega) | exact fget0 (α := Bool) false (by omega) | (simp [*]; done))) (by first | exact BaseOk.refl _ | exact BaseOk.set (BaseOk.refl _) _ rfl) (by first | rfl | simp [VVal.under, VVal.underL, *]) ?_
 exact ⟨rfl, rfl⟩

theorem sCheck_spec {x : SW} (H : VHeap) (p : Pb) (hp : PbL p) : F (psys x) 31 [.agg (pbB p)] H fun v G => v = iI (pck p) ∧ G = H := by
 have hp1 := hp.u; have hp2 := hp.w; have hp3 := hp.f; have hp4 := hp.r
 refine F_body Try.func31 rfl uS5n79 rfl ?_
 refine B_seq (B_region ?_)
 refine L_op (env' := uS5n79) rfl rfl (v_boxT rfl rfl rfl) rfl ?_
 refine L_op (env' := uS5n79) rfl rfl (v_const (VVal.int .i64 0) (.inr rfl) rfl) rfl ?_
 refine L_nil (K_seq (B_seq (B_region ?_)))
 refine L_op (env' := uS5n79) rfl rfl (rfl) rfl ?_
 refine L_op (env' := uS5n79) rfl rfl (wS5n5 rfl rfl rfl rfl) rfl ?_
 refine L_op (env' := uS5n79) rfl rfl (rfl) rfl ?_
 refine L_op (env' := uS5n79) rfl rfl (v_move (.inr rfl) rfl) rfl ?_
 refine L_nil (K_seq (B_seq (B_block (B_seq (B_region ?_)))))
 refine L_op (env' := uS5n79) rfl rfl (v_move (.inl rfl) rfl) rfl ?_
 refine L_op (env' := uS5n79) rfl rfl (rfl) rfl ?_
 refine L_op (env' := uS5n79) rfl rfl (v_move (.inl rfl) rfl) rfl ?_
 refine L_split 15 (env1 := uS5n79) (env2 := uS5n79) rfl rfl rfl (fun hg1 => ?_) (fun hg1 => ?_)
 ·try simp only [qB, qN] at hg1
  refine L_off (env' := uS5n79) rfl rfl ?_
  refine L_off (env' := uS5n79) rfl rfl ?_
  refine L_off (env' := uS5n79) rfl rfl ?_
  refine L_op (env' := uS5n79) rfl rfl (v_pickTC (VVal.bool true) rfl rfl rfl) rfl ?_
  refine L_op (env' := uS5n79) rfl rfl (v_move (.inl rfl) rfl) rfl ?_
  refine L_off (env' := uS5n79) rfl rfl ?_
  refine L_off (env' := uS5n79) rfl rfl ?_
  refine L_off (env' := uS5n79) rfl rfl ?_
  refine L_off (env' := uS5n79) rfl rfl ?_
  refine L_op (env' := uS5n79) rfl rfl (v_pickTC (VVal.bool true) rfl rfl rfl) rfl ?_
  refine L_op (env' := uS5n79) rfl rfl (v_move (.inr rfl) rfl) rfl ?_
  refine L_nil (K_seq ?_)
  refine B_true rfl rfl ?_
  refine B_seq (B_region ?_)
  refine L_op (env' := uS5n79) rfl rfl (v_const (VVal.int .i64 2) (.inr rfl) rfl) rfl ?_
  refine L_nil (K_seq (B_ret (K_blkR (K_seqR ?_))))
  refine E_app (.inr rfl) (vres_tmp rfl rfl) (by first | exact BaseOk.refl _ | exact BaseOk.set (BaseOk.refl _) _ rfl) (by first | rfl | simp [VVal.under, VVal.underL, *]) ?_
  first
    | exact ⟨by rw [pck_2 (by omega)], rfl⟩
    | exact ⟨by rw [pck_1 (by omega) (by omega)], rfl⟩
    | exact ⟨by rw [pck_1w (i := k) hn1 hn2 (by omega) (okW_bad (by omega) (by omega))], rfl⟩
    | exact ⟨by rw [pck_1r (i := m) hn1 hn2 (by omega) (fun e => by have := rcE_eq.2 e; omega)], rfl⟩
    | exact ⟨by rw [pck_0 hn1 hn2 (fun i hi => hw i (by omega)) (fun i hi => hr i (by omega))], rfl⟩
 ·try simp only [qB, qN] at hg1
  refine L_op (env' := uS5n79) rfl rfl (rfl) rfl ?_
  refine L_op (env' := uS5n79) rfl rfl (wS5n5 rfl rfl rfl rfl) rfl ?_
  refine L_op (env' := uS5n79) rfl rfl (rfl) rfl ?_
  refine L_op (env' := uS5n79) rfl rfl (v_pickF rfl rfl rfl) rfl ?_
  refine L_op (env' := uS5n79) rfl rfl (v_move (.inl rfl) rfl) rfl ?_
  refine L_split 20 (env1 := uS5n79) (env2 := uS5n79) rfl rfl rfl (fun hg2 => ?_) (fun hg2 => ?_)
  ·try simp only [qB, qN] at hg2
   refine L_off (env' := uS5n79) rfl rfl ?_
   refine L_off (env' := uS5n79) rfl rfl ?_
   refine L_off (env' := uS5n79) rfl rfl ?_
   refine L_off (env' := uS5n79) rfl rfl ?_
   refine L_op (env' := uS5n79) rfl rfl (v_pickTC (VVal.bool true) rfl rfl rfl) rfl ?_
   refine L_op (env' := uS5n79) rfl rfl (v_move (.inr rfl) rfl) rfl ?_
   refine L_nil (K_seq ?_)
   refine B_true rfl rfl ?_
   refine B_seq (B_region ?_)
   refine L_op (env' := uS5n79) rfl rfl (v_const (VVal.int .i64 2) (.inr rfl) rfl) rfl ?_
   refine L_nil (K_seq (B_ret (K_blkR (K_seqR ?_))))
   refine E_app (.inr rfl) (vres_tmp rfl rfl) (by first | exact BaseOk.refl _ | exact BaseOk.set (BaseOk.refl _) _ rfl) (by first | rfl | simp [VVal.under, VVal.underL, *]) ?_
   first
     | exact ⟨by rw [pck_2 (by omega)], rfl⟩
     | exact ⟨by rw [pck_1 (by omega) (by omega)], rfl⟩
     | exact ⟨by rw [pck_1w (i := k) hn1 hn2 (by omega) (okW_bad (by omega) (by omega))], rfl⟩
     | exact ⟨by rw [pck_1r (i := m) hn1 hn2 (by omega) (fun e => by have := rcE_eq.2 e; omega)], rfl⟩
     | exact ⟨by rw [pck_0 hn1 hn2 (fun i hi => hw i (by omega)) (fun i hi => hr i (by omega))], rfl⟩
  ·try simp only [qB, qN] at hg2
   refine L_op (env' := uS5n79) rfl rfl (rfl) rfl ?_
   refine L_op (env' := uS5n79) rfl rfl (wS5n5 rfl rfl rfl rfl) rfl ?_
   refine L_op (env' := uS5n79) rfl rfl (rfl) rfl ?_
   refine L_op (env' := uS5n79) rfl rfl (rfl) rfl ?_
   refine L_op (env' := uS5n79) rfl rfl (v_pickF rfl rfl rfl) rfl ?_
   refine L_op (env' := uS5n79) rfl rfl (v_move (.inr rfl) rfl) rfl ?_
   refine L_nil (K_seq ?_)
   refine B_cond _ rfl (fun hc3 => ?_) (fun hc3 => ?_)
   ·try simp only [qB, qN] at hc3
    refine B_seq (B_region ?_)
    refine L_op (env' := uS5n79) rfl rfl (v_const (VVal.int .i64 2) (.inr rfl) rfl) rfl ?_
    refine L_nil (K_seq (B_ret (K_blkR (K_seqR ?_))))
    refine E_app (.inr rfl) (vres_tmp rfl rfl) (by first | exact BaseOk.refl _ | exact BaseOk.set (BaseOk.refl _) _ rfl) (by first | rfl | simp [VVal.under, VVal.underL, *]) ?_
    first
      | exact ⟨by rw [pck_2 (by omega)], rfl⟩
      | exact ⟨by rw [pck_1 (by omega) (by omega)], rfl⟩
      | exact ⟨by rw [pck_1w (i := k) hn1 hn2 (by omega) (okW_bad (by omega) (by omega))], rfl⟩
      | exact ⟨by rw [pck_1r (i := m) hn1 hn2 (by omega) (fun e => by have := rcE_eq.2 e; omega)], rfl⟩
      | exact ⟨by rw [pck_0 hn1 hn2 (fun i hi => hw i (by omega)) (fun i hi => hr i (by omega))], rfl⟩
   ·try simp only [qB, qN] at hc3
    refine B_seq (B_region ?_)
    refine L_op (env' := uS5n79) rfl rfl (rfl) rfl ?_
    refine L_op (env' := uS5n79) rfl rfl (wS5n5 rfl rfl rfl rfl) rfl ?_
    refine L_op (env' := uS5n79) rfl rfl (rfl) rfl ?_
    refine L_op (env' := uS5n79) rfl rfl (v_move (.inl rfl) rfl) rfl ?_
    refine L_split 30 (env1 := uS5n79) (env2 := uS5n79) rfl rfl rfl (fun hg4 => ?_) (fun hg4 => ?_)
    ·try simp only [qB, qN] at hg4
     refine L_off (env' := uS5n79) rfl rfl ?_
     refine L_off (env' := uS5n79) rfl rfl ?_
     refine L_off (env' := uS5n79) rfl rfl ?_
     refine L_off (env' := uS5n79) rfl rfl ?_
     refine L_off (env' := uS5n79) rfl rfl ?_
     refine L_op (env' := uS5n79) rfl rfl (v_pickTC (VVal.bool true) rfl rfl rfl) rfl ?_
     refine L_op (env' := uS5n79) rfl rfl (v_move (.inr rfl) rfl) rfl ?_
     refine L_nil (K_seq ?_)
     refine B_true rfl rfl ?_
     refine B_seq (B_region ?_)
     refine L_op (env' := uS5n79) rfl rfl (v_const (VVal.int .i64 1) (.inr rfl) rfl) rfl ?_
     refine L_nil (K_seq (B_ret (K_blkR (K_seqR ?_))))
     refine E_app (.inr rfl) (vres_tmp rfl rfl) (by first | exact BaseOk.refl _ | exact BaseOk.set (BaseOk.refl _) _ rfl) (by first | rfl | simp [VVal.under, VVal.underL, *]) ?_
     first
       | exact ⟨by rw [pck_2 (by omega)], rfl⟩
       | exact ⟨by rw [pck_1 (by omega) (by omega)], rfl⟩
       | exact ⟨by rw [pck_1w (i := k) hn1 hn2 (by omega) (okW_bad (by omega) (by omega))], rfl⟩
       | exact ⟨by rw [pck_1r (i := m) hn1 hn2 (by omega) (fun e => by have := rcE_eq.2 e; omega)], rfl⟩
       | exact ⟨by rw [pck_0 hn1 hn2 (fun i hi => hw i (by omega)) (fun i hi => hr i (by omega))], rfl⟩
    ·try simp only [qB, qN] at hg4
     refine L_op (env' := uS5n79) rfl rfl (rfl) rfl ?_
     refine L_op (env' := uS5n79) rfl rfl (wS5n5 rfl rfl rfl rfl) rfl ?_
     refine L_op (env' := uS5n79) rfl rfl (rfl) rfl ?_
     refine L_op (env' := uS5n79) rfl rfl (v_move (.inl rfl) rfl) rfl ?_
     refine L_op (env' := uS5n79) rfl rfl (rfl) rfl ?_
     refine L_op (env' := uS5n79) rfl rfl (v_pickF rfl rfl rfl) rfl ?_
     refine L_op (env' := uS5n79) rfl rfl (v_move (.inr rfl) rfl) rfl ?_
     refine L_nil (K_seq ?_)
     refine B_cond _ rfl (fun hc5 => ?_) (fun hc5 => ?_)
     ·try simp only [qB, qN] at hc5
      refine B_seq (B_region ?_)
      refine L_op (env' := uS5n79) rfl rfl (v_const (VVal.int .i64 1) (.inr rfl) rfl) rfl ?_
      refine L_nil (K_seq (B_ret (K_blkR (K_seqR ?_))))
      refine E_app (.inr rfl) (vres_tmp rfl rfl) (by first | exact BaseOk.refl _ | exact BaseOk.set (BaseOk.refl _) _ rfl) (by first | rfl | simp [VVal.under, VVal.underL, *]) ?_
      first
        | exact ⟨by rw [pck_2 (by omega)], rfl⟩
        | exact ⟨by rw [pck_1 (by omega) (by omega)], rfl⟩
        | exact ⟨by rw [pck_1w (i := k) hn1 hn2 (by omega) (okW_bad (by omega) (by omega))], rfl⟩
        | exact ⟨by rw [pck_1r (i := m) hn1 hn2 (by omega) (fun e => by have := rcE_eq.2 e; omega)], rfl⟩
        | exact ⟨by rw [pck_0 hn1 hn2 (fun i hi => hw i (by omega)) (fun i hi => hr i (by omega))], rfl⟩
     ·try simp only [qB, qN] at hc5
      refine B_skip (K_blk (K_seq (B_seq (B_seq ?_))))
      have hn1 : ¬ (12 < p.who.length ∨ 64 < p.users ∨ 32 < p.rules.length) := by omega
      have hn2 : ¬ (p.users < 0 ∨ p.fixed.length ≠ p.who.length) := by omega
      refine B_region ?_
      refine L_op (env' := uS5n79) rfl rfl (rfl) rfl ?_
      refine L_op (env' := uS5n79) rfl rfl (wS5n5 rfl rfl rfl rfl) rfl ?_
      refine L_op (env' := uS5n79) rfl rfl (rfl) rfl ?_
      refine L_op (env' := uS5n79) rfl rfl (v_const (VVal.int .i64 0) (.inl rfl) rfl) rfl ?_
      refine L_nil (K_seq (B_block ?_))
      refine B_clear (mk 79 604462909805390442004469) (env' := uS5n79) rfl ?_
      refine B_loopE (fun (k : Nat) => p.who.length - k) (fun (k : Nat) => [(40, iI (k : Nat))]) (fun (k : Nat) G => (k ≤ p.who.length ∧ ∀ i, i < k → okW p.users (p.fixed.getD i 0) (p.who.getD i 0) = true) ∧ G = H ++ [.cells (pbB p) true]) 0 rfl ?_ ?_
      ·refine ⟨?_, rfl⟩
       exact ⟨Nat.zero_le _, fun i h => by omega⟩
      rintro k _ ⟨⟨hk, hw⟩, rfl⟩
      refine B_env (env' := uS5n79) rfl ?_
      refine B_seq (B_region ?_)
      refine L_op (env' := uS5n79) rfl rfl (rfl) rfl ?_
      refine L_nil (K_seq (B_seq ?_))
      refine B_cond _ rfl (fun hc6 => ?_) (fun hc6 => ?_)
      ·try simp only [qB, qN] at hc6
       refine B_skip (K_seq (B_seq (B_block (B_seq (B_region ?_)))))
       refine L_op (env' := uS5n79) rfl rfl (v_move (.inl rfl) rfl) rfl ?_
       refine L_op (env' := uS5n79) rfl rfl (wS5n6 rfl rfl rfl rfl rfl rfl rfl) rfl ?_
       refine L_op (env' := uS5n79) rfl rfl (wS5n5 rfl rfl rfl rfl) rfl ?_
       refine L_op (env' := uS5n79) rfl rfl (v_move (.inr rfl) rfl) rfl ?_
       refine L_op (env' := uS5n79) rfl rfl (v_move (.inr rfl) rfl) rfl ?_
       refine L_nil (K_seq (B_seq (B_region ?_)))
       refine L_op (env' := uS5n79) rfl rfl (rfl) rfl ?_
       refine L_op (env' := uS5n79) rfl rfl (wS5n5 rfl rfl rfl rfl) rfl ?_
       refine L_op (env' := uS5n79) rfl rfl (v_move (.inl rfl) rfl) rfl ?_
       refine L_op (env' := uS5n79) rfl rfl (wS5n6 rfl rfl rfl rfl rfl rfl rfl) rfl ?_
       refine L_op (env' := uS5n79) rfl rfl (wS5n5 rfl rfl rfl rfl) rfl ?_
       refine L_op (env' := uS5n79) rfl rfl (v_move (.inr rfl) rfl) rfl ?_
       refine L_nil (K_seq (B_seq ?_))
       refine B_draw [0, 1, 2, 3, 4, 5, 6, 7, 8, 9, 12, 13, 10, 11, 14, 15] #[0, 1, 3, 7, 7, 23, 63, 127, 255, 511, 1023, 2047, 511, 4607, 16383, 32767] (by kernel_rfl) (by kernel_rfl) (by kernel_rfl) ?_
       refine O_op (env' := uS5n79) (c := .calm) rfl rfl rfl (v_move (.inl rfl) rfl) rfl rfl rfl ?_
       refine O_op (env' := uS5n79) (c := .calm) rfl rfl rfl (rfl) rfl rfl rfl ?_
       refine O_op (env' := uS5n79) (c := .calm) rfl rfl rfl (v_move (.inl rfl) rfl) rfl rfl rfl ?_
       refine O_split 52 (env1 := uS5n79) (env2 := uS5n79) rfl rfl rfl (fun hg7 => ?_) (fun hg7 => ?_)
       ·try simp only [qB, qN] at hg7
        refine O_off (env' := uS5n79) rfl rfl rfl rfl ?_
        refine O_off (env' := uS5n79) rfl rfl rfl rfl ?_
        refine O_off (env' := uS5n79) rfl rfl rfl rfl ?_
        refine O_off (env' := uS5n79) rfl rfl rfl rfl ?_
        refine O_op (env' := uS5n79) (c := .calm) rfl rfl rfl (v_pickTC (VVal.bool true) rfl rfl rfl) rfl rfl rfl ?_
        refine O_op (env' := uS5n79) (c := .calm) rfl rfl rfl (v_move (.inl rfl) rfl) rfl rfl rfl ?_
        refine O_off (env' := uS5n79) rfl rfl rfl rfl ?_
        refine O_off (env' := uS5n79) rfl rfl rfl rfl ?_
        refine O_off (env' := uS5n79) rfl rfl rfl rfl ?_
        refine O_off (env' := uS5n79) rfl rfl rfl rfl ?_
        refine O_off (env' := uS5n79) rfl rfl rfl rfl ?_
        refine O_off (env' := uS5n79) rfl rfl rfl rfl ?_
        refine O_op (env' := uS5n79) (c := .calm) rfl rfl rfl (v_pickTC (VVal.bool true) rfl rfl rfl) rfl rfl rfl ?_
        refine O_nil [] (by kernel_rfl) (trivial) ?_
        refine K_seq ?_
        refine B_true rfl rfl ?_
        refine B_seq (B_region ?_)
        refine L_op (env' := uS5n79) rfl rfl (v_const (VVal.int .i64 1) (.inr rfl) rfl) rfl ?_
        refine L_nil (K_seq (B_ret (K_blkR (K_seqR (K_loopR (K_blkR (K_seqR ?_)))))))
        refine E_app (.inr rfl) (vres_tmp rfl rfl) (by first | exact BaseOk.refl _ | exact BaseOk.set (BaseOk.refl _) _ rfl) (by first | rfl | simp [VVal.under, VVal.underL, *]) ?_
        first
          | exact ⟨by rw [pck_2 (by omega)], rfl⟩
          | exact ⟨by rw [pck_1 (by omega) (by omega)], rfl⟩
          | exact ⟨by rw [pck_1w (i := k) hn1 hn2 (by omega) (okW_bad (by omega) (by omega))], rfl⟩
          | exact ⟨by rw [pck_1r (i := m) hn1 hn2 (by omega) (fun e => by have := rcE_eq.2 e; omega)], rfl⟩
          | exact ⟨by rw [pck_0 hn1 hn2 (fun i hi => hw i (by omega)) (fun i hi => hr i (by omega))], rfl⟩
       ·try simp only [qB, qN] at hg7
        refine O_op (env' := uS5n79) (c := .calm) rfl rfl rfl (v_move (.inl rfl) rfl) rfl rfl rfl ?_
        refine O_op (env' := uS5n79) (c := .calm) rfl rfl rfl (rfl) rfl rfl rfl ?_
        refine O_op (env' := uS5n79) (c := .look) rfl rfl rfl (wS5n5 rfl rfl rfl rfl) rfl rfl rfl ?_
        refine O_op (env' := uS5n79) (c := .calm) rfl rfl rfl (rfl) rfl rfl rfl ?_
        refine O_op (env' := uS5n79) (c := .calm) rfl rfl rfl (v_pickF rfl rfl rfl) rfl rfl rfl ?_
        refine O_op (env' := uS5n79) (c := .calm) rfl rfl rfl (v_move (.inl rfl) rfl) rfl rfl rfl ?_
        refine O_split 58 (env1 := uS5n79) (env2 := uS5n79) rfl rfl rfl (fun hg8 => ?_) (fun hg8 => ?_)
        ·try simp only [qB, qN] at hg8
         refine O_off (env' := uS5n79) rfl rfl rfl rfl ?_
         refine O_off (env' := uS5n79) rfl rfl rfl rfl ?_
         refine O_off (env' := uS5n79) rfl rfl rfl rfl ?_
         refine O_off (env' := uS5n79) rfl rfl rfl rfl ?_
         refine O_off (env' := uS5n79) rfl rfl rfl rfl ?_
         refine O_off (env' := uS5n79) rfl rfl rfl rfl ?_
         refine O_op (env' := uS5n79) (c := .calm) rfl rfl rfl (v_pickTC (VVal.bool true) rfl rfl rfl) rfl rfl rfl ?_
         refine O_nil [] (by kernel_rfl) (trivial) ?_
         refine K_seq ?_
         refine B_true rfl rfl ?_
         refine B_seq (B_region ?_)
         refine L_op (env' := uS5n79) rfl rfl (v_const (VVal.int .i64 1) (.inr rfl) rfl) rfl ?_
         refine L_nil (K_seq (B_ret (K_blkR (K_seqR (K_loopR (K_blkR (K_seqR ?_)))))))
         refine E_app (.inr rfl) (vres_tmp rfl rfl) (by first | exact BaseOk.refl _ | exact BaseOk.set (BaseOk.refl _) _ rfl) (by first | rfl | simp [VVal.under, VVal.underL, *]) ?_
         first
           | exact ⟨by rw [pck_2 (by omega)], rfl⟩
           | exact ⟨by rw [pck_1 (by omega) (by omega)], rfl⟩
           | exact ⟨by rw [pck_1w (i := k) hn1 hn2 (by omega) (okW_bad (by omega) (by omega))], rfl⟩
           | exact ⟨by rw [pck_1r (i := m) hn1 hn2 (by omega) (fun e => by have := rcE_eq.2 e; omega)], rfl⟩
           | exact ⟨by rw [pck_0 hn1 hn2 (fun i hi => hw i (by omega)) (fun i hi => hr i (by omega))], rfl⟩
        ·try simp only [qB, qN] at hg8
         refine O_op (env' := uS5n79) (c := .calm) rfl rfl rfl (v_move (.inl rfl) rfl) rfl rfl rfl ?_
         refine O_op (env' := uS5n79) (c := .calm) rfl rfl rfl (rfl) rfl rfl rfl ?_
         refine O_opI (env' := uS5n79) (x := .look _ _) rfl rfl rfl (wS5n5 rfl rfl rfl rfl) rfl rfl rfl ?_
         refine O_call (env' := uS5n79) rfl rfl rfl rfl rfl (by exact sset_spec _ _) (by first | exact Nat.le_refl _ | simp) rfl rfl ?_
         refine O_call (env' := uS5n79) rfl rfl rfl rfl rfl (by exact High_spec _ _) (by first | exact Nat.le_refl _ | simp) rfl rfl ?_
         refine O_op (env' := uS5n79) (c := .calm) rfl rfl rfl (rfl) rfl rfl rfl ?_
         refine O_op (env' := uS5n79) (c := .calm) rfl rfl rfl (v_pickF rfl rfl rfl) rfl rfl rfl ?_
         refine O_nil [_, _] (by rfl) (And.intro (And.intro (wS5n5 rfl rfl rfl rfl) (wS5n5 rfl rfl rfl rfl)) (And.intro (And.intro (wS5n5 rfl rfl rfl rfl) (wS5n5 rfl rfl rfl rfl)) trivial)) ?_
         refine K_seq ?_
         refine B_cond _ rfl (fun hc9 => ?_) (fun hc9 => ?_)
         ·try simp only [qB, qN] at hc9
          refine B_seq (B_region ?_)
          refine L_op (env' := uS5n79) rfl rfl (v_const (VVal.int .i64 1) (.inr rfl) rfl) rfl ?_
          refine L_nil (K_seq (B_ret (K_blkR (K_seqR (K_loopR (K_blkR (K_seqR ?_)))))))
          refine E_app (.inr rfl) (vres_tmp rfl rfl) (by first | exact BaseOk.refl _ | exact BaseOk.set (BaseOk.refl _) _ rfl) (by first | rfl | simp [VVal.under, VVal.underL, *]) ?_
          first
            | exact ⟨by rw [pck_2 (by omega)], rfl⟩
            | exact ⟨by rw [pck_1 (by omega) (by omega)], rfl⟩
            | exact ⟨by rw [pck_1w (i := k) hn1 hn2 (by omega) (okW_bad (by omega) (by omega))], rfl⟩
            | exact ⟨by rw [pck_1r (i := m) hn1 hn2 (by omega) (fun e => by have := rcE_eq.2 e; omega)], rfl⟩
            | exact ⟨by rw [pck_0 hn1 hn2 (fun i hi => hw i (by omega)) (fun i hi => hr i (by omega))], rfl⟩
         ·try simp only [qB, qN] at hc9
          refine B_skip (K_blk (K_seq (B_region ?_)))
          refine L_op (env' := uS5n79) rfl rfl (wS5n7 rfl rfl rfl) rfl ?_
          refine L_op (env' := uS5n79) rfl rfl (v_move (.inl rfl) rfl) rfl ?_
          refine L_nil ?_
          refine K_loop (mk 79 604462909805390442004469) (env' := uS5n79) rfl ⟨k + 1, ?_, rfl, ?_⟩
          ·first | omega | (simp only []; omega)
          ·exact ⟨⟨by omega, fun i hi => by by_cases e : i = k; (subst e; exact okW_ok (by omega) (by omega) (by omega) (by omega)); exact hw i (by omega)⟩, rfl⟩
      ·try simp only [qB, qN] at hc6
       refine B_exit (K_seqX (K_loopX (K_blkX (K_seq (B_seq (B_seq (B_region ?_)))))))
       refine L_op (env' := uS5n79) rfl rfl (rfl) rfl ?_
       refine L_op (env' := uS5n79) rfl rfl (wS5n5 rfl rfl rfl rfl) rfl ?_
       refine L_op (env' := uS5n79) rfl rfl (rfl) rfl ?_
       refine L_op (env' := uS5n79) rfl rfl (v_const (VVal.int .i64 0) (.inl rfl) rfl) rfl ?_
       refine L_nil (K_seq (B_block ?_))
       refine B_clear (mk 79 602396874471059117572087) (env' := uS5n79) rfl ?_
       refine B_loopE (fun (m : Nat) => p.rules.length - m) (fun (m : Nat) => [(70, iI (m : Nat))]) (fun (m : Nat) G => (m ≤ p.rules.length ∧ ∀ i, i < m → rck p.who.length (p.rules.getD i r0) = true) ∧ ∃ X, G = H ++ (.cells (pbB p) true :: X)) 0 rfl ?_ ?_
       ·refine ⟨?_, ⟨[], rfl⟩⟩
        exact ⟨Nat.zero_le _, fun i h => by omega⟩
       rintro m _ ⟨⟨hm, hr⟩, ⟨X, rfl⟩⟩
       refine B_env (env' := uS5n79) rfl ?_
       refine B_seq (B_region ?_)
       refine L_op (env' := uS5n79) rfl rfl (rfl) rfl ?_
       refine L_nil (K_seq (B_seq ?_))
       refine B_cond _ rfl (fun hc10 => ?_) (fun hc10 => ?_)
       ·try simp only [qB, qN] at hc10
        refine B_skip (K_seq (B_seq (B_block (B_seq (B_region ?_)))))
        refine L_op (env' := uS5n79) rfl rfl (wS5n6 rfl rfl rfl rfl rfl rfl rfl) rfl ?_
        refine L_op (env' := uS5n79) rfl rfl (wS5n8 rfl rfl rfl rfl rfl) rfl ?_
        refine L_op (env' := uS5n79) rfl rfl (v_alloc rfl rfl) rfl ?_
        refine L_op (env' := uS5n79) rfl rfl (wS5n4 rfl rfl rfl rfl rfl rfl rfl) rfl ?_
        refine L_nil (K_seq (B_seq (B_region ?_)))
        refine L_op (env' := uS5n79) rfl rfl (v_move (.inl rfl) rfl) rfl ?_
        refine L_op (env' := uS5n79) rfl rfl (wS5n8 rfl rfl rfl rfl rfl) rfl ?_
        refine L_call rfl rfl rfl (by exact rCheck_spec _ _ _ (hp.s _ (rul_mem (by omega)))) ?_
        rintro _ _ ⟨rfl, rfl⟩
        refine L_env (env' := uS5n79) rfl ?_
        refine L_op (env' := uS5n79) rfl rfl (rfl) rfl ?_
        refine L_nil (K_seq ?_)
        refine B_cond _ rfl (fun hc11 => ?_) (fun hc11 => ?_)
        ·try simp only [qB, qN] at hc11
         refine B_seq (B_region ?_)
         refine L_op (env' := uS5n79) rfl rfl (v_const (VVal.int .i64 1) (.inr rfl) rfl) rfl ?_
         refine L_nil (K_seq (B_ret (K_blkR (K_seqR (K_loopR (K_blkR (K_seqR ?_)))))))
         refine E_app (.inr rfl) (vres_tmp rfl rfl) (by first | exact BaseOk.refl _ | exact BaseOk.set (BaseOk.refl _) _ rfl) (by first | rfl | simp [VVal.under, VVal.underL, *]) ?_
         first
           | exact ⟨by rw [pck_2 (by omega)], rfl⟩
           | exact ⟨by rw [pck_1 (by omega) (by omega)], rfl⟩
           | exact ⟨by rw [pck_1w (i := k) hn1 hn2 (by omega) (okW_bad (by omega) (by omega))], rfl⟩
           | exact ⟨by rw [pck_1r (i := m) hn1 hn2 (by omega) (fun e => by have := rcE_eq.2 e; omega)], rfl⟩
           | exact ⟨by rw [pck_0 hn1 hn2 (fun i hi => hw i (by omega)) (fun i hi => hr i (by omega))], rfl⟩
        ·try simp only [qB, qN] at hc11
         refine B_skip (K_blk (K_seq (B_region ?_)))
         refine L_op (env' := uS5n79) rfl rfl (wS5n0 rfl rfl rfl) rfl ?_
         refine L_op (env' := uS5n79) rfl rfl (v_move (.inl rfl) rfl) rfl ?_
         refine L_nil ?_
         refine K_loop (mk 79 602396874471059117572087) (env' := uS5n79) rfl ⟨m + 1, ?_, rfl, ?_⟩
         ·first | omega | (simp only []; omega)
         ·exact ⟨⟨by omega, fun i hi => by by_cases e : i = m; (subst e; exact rcE_eq.1 (by assumption)); exact hr i (by omega)⟩, ⟨_, rfl⟩⟩
       ·try simp only [qB, qN] at hc10
        refine B_exit (K_seqX (K_loopX (K_blkX (K_seq (B_seq (B_region ?_))))))
        refine L_op (env' := uS5n79) rfl rfl (v_const (VVal.int .i64 0) (.inr rfl) rfl) rfl ?_
        refine L_nil (K_seq (B_ret ?_))
        refine E_app (.inr rfl) (vres_tmp rfl rfl) (by first | exact BaseOk.refl _ | exact BaseOk.set (BaseOk.refl _) _ rfl) (by first | rfl | simp [VVal.under, VVal.underL, *]) ?_
        first
          | exact ⟨by rw [pck_2 (by omega)], rfl⟩
          | exact ⟨by rw [pck_1 (by omega) (by omega)], rfl⟩
          | exact ⟨by rw [pck_1w (i := k) hn1 hn2 (by omega) (okW_bad (by omega) (by omega))], rfl⟩
          | exact ⟨by rw [pck_1r (i := m) hn1 hn2 (by omega) (fun e => by have := rcE_eq.2 e; omega)], rfl⟩
          | exact ⟨by rw [pck_0 hn1 hn2 (fun i hi => hw i (by omega)) (fun i hi => hr i (by omega))], rfl⟩
end Go.Proofs.Ytbngdhlmggdaaaa.VT
