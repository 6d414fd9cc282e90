/- Proved: Rows.SolveBeforeCardSaid, the statement SolveBefore with its card, of the given program at the commit; no conditions beyond those in the statement. -/
import Derived.Test.YtnbihdflnjpinaaDoorC4x12
set_option autoImplicit false
set_option linter.unusedVariables false
set_option linter.unusedSimpArgs false
set_option maxHeartbeats 4000000
set_option maxRecDepth 100000
namespace Go.Proofs.YtnbihdflnjpinaaDoor.VT
open Go Go.V Go.RowKit
abbrev u25 {a0 a1 a2 a3 a4 a5 a6 a7 a8 a9 a10 a11 a12 a13 a14 a15 a16 a17 a18 a19 a20 a21 a22 a23 a24 : VVal} : VEnv := a0 :: a1 :: a2 :: a3 :: a4 :: a5 :: a6 :: a7 :: a8 :: a9 :: a10 :: a11 :: a12 :: a13 :: a14 :: a15 :: a16 :: a17 :: a18 :: a19 :: a20 :: a21 :: a22 :: a23 :: a24 :: []
theorem W2z {T : TypeId → Option VTy} {H : VHeap} {op : Op} {ρ : Operand → VVal} {t : TypeId} {a : Operand} {y : VTy} {p : VVal} {n : Nat} {vs : List VVal} (ho : op = .load t a) (ha : ρ a = p) (hy : T t = some y) (hd : isAggDesc y.desc = true) (hn : y.size = n) (h : LdOkA H p n vs := by first | exact .inl ⟨_, _, rfl, by first | rfl | assumption | exact rul_at (by omega)⟩ | exact .inr ⟨_, _, _, _, rfl, by first | exact get_app rfl rfl | exact get_out (by assumption) | exact getE0 rfl rfl | exact get_out (get_app rfl rfl) | exact get_app rfl (by assumption) | assumption | (simp only [List.append_assoc, List.singleton_append, List.cons_append, List.nil_append]; refine getE (i := 0) rfl ?_ rfl; simp; done) | (simp only [List.append_assoc, List.singleton_append, List.cons_append, List.nil_append]; refine getE (i := 1) rfl ?_ rfl; simp; done) | (simp only [List.append_assoc, List.singleton_append, List.cons_append, List.nil_append]; refine getE (i := 2) rfl ?_ rfl; simp; done) | (simp only [List.append_assoc, List.singleton_append, List.cons_append, List.nil_append]; refine getE (i := 3) rfl ?_ rfl; simp; done) | (simp [*]; done), by first | rfl | assumption | exact rul_at (by omega)⟩) : vop T ρ H op = some (.agg vs, H) := v_ldA ho ha hy hd hn h
theorem Broken_spec {x : SW} (H : VHeap) (rs : List Rul) (l : List Int) (hR : ∀ r, r ∈ rs → r.steps.length ≤ 1000000) (hn : rs.length ≤ 1000000) : F (psys x) 48 [fzR rs, fzI l] H fun v G => v = fzI (brk rs l) ∧ G = H := by
 refine F_body Tryd.func48 rfl u25 rfl ?_
 refine B_seq (B_region ?_)
 refine Lo u25 (v_const (VVal.slice none 0 0 true 0) (.inr rfl) rfl) ?_
 refine L_nil (K_seq (B_seq (B_region ?_)))
 refine Lo u25 (v_const (VVal.slice none 0 0 true 0) (.inr rfl) rfl) ?_
 refine L_nil (K_seq (B_seq (B_seq (B_region ?_))))
 refine Lo u25 (v_move (.inl rfl) rfl) ?_
 refine Lo u25 (rfl) ?_
 refine Lo u25 (v_const (VVal.int .i64 0) (.inl rfl) rfl) ?_
 refine L_nil (K_seq (B_block ?_))
 refine B_clear (mk 25 33552605) (env' := u25) rfl ?_
 refine B_loopE (fun (⟨k, lv⟩ : Nat × VVal) => rs.length - k) (fun (⟨k, lv⟩ : Nat × VVal) => [(5, lv), (10, iI (k : Nat))]) (fun (⟨k, lv⟩ : Nat × VVal) G => (k ≤ rs.length) ∧ ∃ X, G = H ++ X ∧ LV H.length 1 X lv ((brk (rs.take k) l).map iI) (brk (rs.take k) l).length) ⟨0, _⟩ rfl ?_ ?_
 ·refine ⟨?_, ⟨_, rfl, LV.nil _ _ _⟩⟩
  exact Nat.zero_le _
 rintro ⟨k, lv⟩ _ ⟨hk, ⟨X, rfl, hl⟩⟩
 refine B_env (env' := u25) rfl ?_
 refine B_seq (B_region ?_)
 refine Lo u25 (rfl) ?_
 refine L_nil (K_seq (B_seq ?_))
 refine B_cond _ rfl (fun hc1 => ?_) (fun hc1 => ?_)
 ·try simp only [qB, qN] at hc1
  refine B_skip (K_seq (B_seq (B_block (B_seq (B_region ?_)))))
  refine Lo u25 (v_move (.inl rfl) rfl) ?_
  refine Lo u25 (W18 rfl rfl rfl rfl rfl rfl rfl) ?_
  refine Lo u25 (W2z rfl rfl rfl rfl rfl) ?_
  refine Lo u25 (v_alloc rfl rfl) ?_
  refine Lo u25 (v_move (.inr rfl) rfl) ?_
  refine Lo u25 (W13 rfl rfl rfl rfl rfl rfl rfl) ?_
  refine L_nil (K_seq (B_seq (B_region ?_)))
  refine Lo u25 (W2z rfl rfl rfl rfl rfl) ?_
  refine Lo u25 (v_move (.inl rfl) rfl) ?_
  refine L_call rfl rfl rfl (by exact rHolds_spec _ _ _ (hR _ (rul_mem (by omega)))) ?_
  rintro _ _ ⟨rfl, rfl⟩
  refine Le u25 ?_
  refine Lo u25 (rfl) ?_
  refine L_nil (K_seq ?_)
  refine B_cond _ rfl (fun hc2 => ?_) (fun hc2 => ?_)
  ·try simp only [qB, qN] at hc2
   refine B_region ?_
   refine Lo u25 (v_move (.inl rfl) rfl) ?_
   refine Lo u25 (v_move (.inl rfl) rfl) ?_
   refine Lo u25 (v_buildSlice rfl rfl (by decide) rfl) ?_
   refine L_opX rfl rfl (v_appX rfl rfl rfl rfl rfl rfl rfl (LV.app hl _) rfl rfl (by decide) (by have := brk_lenK (rs := rs) (l := l) (k := k); show (_ + 1) * 8 ≤ _ ∧ _ + 1 ≤ _; omega) (by decide)) ?_
   rintro _ _ ⟨Y1, rfl, rfl, hY1, hY2, hY3⟩
   refine Le u25 ?_
   refine Lo u25 (v_move (.inr rfl) rfl) ?_
   refine L_nil (K_blk (K_seq (B_region ?_)))
   refine Lo u25 (W14 rfl rfl rfl) ?_
   refine Lo u25 (v_move (.inl rfl) rfl) ?_
   refine L_nil ?_
   refine K_loop (mk 25 33552605) (env' := u25) rfl ⟨⟨k + 1, _⟩, ?_, rfl, ?_⟩
   ·first | omega | (simp only []; omega)
   ·first | exact ⟨by omega, _, rfl, by rw [brk_yes (by omega) (by simpa using ‹_›)]; exact LV.app hl _⟩ | exact ⟨by omega, _, rfl, by rw [brk_yes (by omega) (by simpa using ‹_›)]; exact hl⟩ | exact ⟨by omega, _, rfl, by rw [brk_no (by omega) (by simpa using ‹_›)]; exact LV.pushI hY3⟩
  ·try simp only [qB, qN] at hc2
   refine B_skip (K_blk (K_seq (B_region ?_)))
   refine Lo u25 (W14 rfl rfl rfl) ?_
   refine Lo u25 (v_move (.inl rfl) rfl) ?_
   refine L_nil ?_
   refine K_loop (mk 25 33552605) (env' := u25) rfl ⟨⟨k + 1, _⟩, ?_, rfl, ?_⟩
   ·first | omega | (simp only []; omega)
   ·first | exact ⟨by omega, _, rfl, by rw [brk_yes (by omega) (by simpa using ‹_›)]; exact LV.app hl _⟩ | exact ⟨by omega, _, rfl, by rw [brk_yes (by omega) (by simpa using ‹_›)]; exact hl⟩ | exact ⟨by omega, _, rfl, by rw [brk_no (by omega) (by simpa using ‹_›)]; exact LV.pushI hY3⟩
 ·try simp only [qB, qN] at hc1
  refine B_exit (K_seqX (K_loopX (K_blkX (K_seq (B_seq (B_region ?_))))))
  refine Lo u25 (v_move (.inl rfl) rfl) ?_
  refine Lo u25 (v_move (.inr rfl) rfl) ?_
  refine L_nil (K_seq (B_ret ?_))
  refine E_gh (.inr rfl) (vres_tmp rfl rfl) (Gh.ansLV (BaseOk.refl _) hl (mapI_under _ _)) ?_
  obtain rfl : k = rs.length := by omega
  rw [List.take_of_length_le (Nat.le_refl _)]
  exact ⟨rfl, rfl⟩
end Go.Proofs.YtnbihdflnjpinaaDoor.VT

set_option autoImplicit false
set_option linter.unusedVariables false
set_option linter.unusedSimpArgs false
set_option maxHeartbeats 4000000
set_option maxRecDepth 100000
namespace Go.Proofs.YtnbihdflnjpinaaDoor.VT
open Go Go.V Go.RowKit
abbrev u79 {a0 a1 a2 a3 a4 a5 a6 a7 a8 a9 a10 a11 a12 a13 a14 a15 a16 a17 a18 a19 a20 a21 a22 a23 a24 a25 a26 a27 a28 a29 a30 a31 a32 a33 a34 a35 a36 a37 a38 a39 a40 a41 a42 a43 a44 a45 a46 a47 a48 a49 a50 a51 a52 a53 a54 a55 a56 a57 a58 a59 a60 a61 a62 a63 a64 a65 a66 a67 a68 a69 a70 a71 a72 a73 a74 a75 a76 a77 a78 : VVal} : VEnv := a0 :: a1 :: a2 :: a3 :: a4 :: a5 :: a6 :: a7 :: a8 :: a9 :: a10 :: a11 :: a12 :: a13 :: a14 :: a15 :: a16 :: a17 :: a18 :: a19 :: a20 :: a21 :: a22 :: a23 :: a24 :: a25 :: a26 :: a27 :: a28 :: a29 :: a30 :: a31 :: a32 :: a33 :: a34 :: a35 :: a36 :: a37 :: a38 :: a39 :: a40 :: a41 :: a42 :: a43 :: a44 :: a45 :: a46 :: a47 :: a48 :: a49 :: a50 :: a51 :: a52 :: a53 :: a54 :: a55 :: a56 :: a57 :: a58 :: a59 :: a60 :: a61 :: a62 :: a63 :: a64 :: a65 :: a66 :: a67 :: a68 :: a69 :: a70 :: a71 :: a72 :: a73 :: a74 :: a75 :: a76 :: a77 :: a78 :: []
theorem W33 {T : TypeId → Option VTy} {H : VHeap} {op : Op} {ρ : Operand → VVal} {t ty : TypeId} {x y : Operand} {n m : Int} (ho : op = .binOp .add t x y ty) (hx : ρ x = .int .i64 n) (hy : ρ y = .int .i64 m) (h : -9223372036854775808 ≤ n + m ∧ n + m < 9223372036854775808 := by exact ⟨by omega, Int.lt_of_le_of_lt (Int.add_le_add (by decide : _ ≤ (100 : Int)) (Int.ofNat_le.2 (ln_64 _))) (by decide)⟩) : vop T ρ H op = some (.int .i64 (n + m), H) := v_addI ho hx hy h
theorem W35 {P : Prop} (h : P := by first | omega | (have := e1 (by omega); have := e3 (by omega); have := e7 (by omega); omega)) : P := h
theorem W37 {T : TypeId → Option VTy} {H : VHeap} {op : Op} {ρ : Operand → VVal} {t ty : TypeId} {x y : Operand} {n m : Int} (ho : op = .binOp .sub t x y ty) (hx : ρ x = .int .i64 n) (hy : ρ y = .int .i64 m) (h : -9223372036854775808 ≤ n - m ∧ n - m < 9223372036854775808 := by have h9 := ln_64 w; omega) : vop T ρ H op = some (.int .i64 (n - m), H) := v_subI ho hx hy h
theorem W39 {T : TypeId → Option VTy} {H : VHeap} {op : Op} {ρ : Operand → VVal} {t : TypeId} {a : Operand} {y : VTy} {p v : VVal} (ho : op = .load t a) (ha : ρ a = p) (hy : T t = some y) (hd : isAggDesc y.desc = false) (h : LdOk H p v := by first | exact .inl ⟨_, _, rfl, by first | rfl | assumption | exact fgetN (α := BitVec 64) 0 (by omega) | exact fgetN (α := Int) 0 (by omega) | exact rul_at (by omega)⟩ | exact .inr ⟨_, _, _, _, rfl, by first | exact get_app rfl rfl | exact get_out (by assumption) | exact getE0 rfl rfl | exact get_out (get_app rfl rfl) | exact get_app rfl (by assumption) | assumption | (simp only [List.append_assoc, List.singleton_append, List.cons_append, List.nil_append]; refine getE (i := 0) rfl ?_ rfl; simp; done) | (simp only [List.append_assoc, List.singleton_append, List.cons_append, List.nil_append]; refine getE (i := 1) rfl ?_ rfl; simp; done) | (simp only [List.append_assoc, List.singleton_append, List.cons_append, List.nil_append]; refine getE (i := 2) rfl ?_ rfl; simp; done) | (simp only [List.append_assoc, List.singleton_append, List.cons_append, List.nil_append]; refine getE (i := 3) rfl ?_ rfl; simp; done) | (simp [*]; done), by first | rfl | assumption | exact fgetN (α := BitVec 64) 0 (by omega) | exact fgetN (α := Int) 0 (by omega) | exact rul_at (by omega)⟩) : vop T ρ H op = some (v, H) := v_ld ho ha hy hd h
theorem W3a {P : Prop} (h : P := by first | exact ⟨by rw [pck_2 (by omega)], rfl⟩ | exact ⟨by rw [pck_1 (by omega) (by omega)], rfl⟩ | exact ⟨by rw [pck_1w (i := k) hn1 hn2 (by omega) (okW_bad (by omega) (by omega))], rfl⟩ | exact ⟨by rw [pck_1r (i := m) hn1 hn2 (by omega) (fun e => by have := rcE_eq.2 e; omega)], rfl⟩ | exact ⟨by rw [pck_0 hn1 hn2 (fun i hi => hw i (by omega)) (fun i hi => hr i (by omega))], rfl⟩) : P := h
theorem W3c {T : TypeId → Option VTy} {H : VHeap} {op : Op} {ρ : Operand → VVal} {t ty : TypeId} {x y : Operand} {n m : Int} (ho : op = .binOp .add t x y ty) (hx : ρ x = .int .i64 n) (hy : ρ y = .int .i64 m) (h : -9223372036854775808 ≤ n + m ∧ n + m < 9223372036854775808 := by omega) : vop T ρ H op = some (.int .i64 (n + m), H) := v_addI ho hx hy h
theorem W3d {T : TypeId → Option VTy} {H : VHeap} {op : Op} {ρ : Operand → VVal} {t : TypeId} {a : Operand} {y : VTy} {p : VVal} {n : Nat} {vs : List VVal} (ho : op = .load t a) (ha : ρ a = p) (hy : T t = some y) (hd : isAggDesc y.desc = true) (hn : y.size = n) (h : LdOkA H p n vs := by first | exact .inl ⟨_, _, rfl, by first | rfl | assumption | exact fgetN (α := BitVec 64) 0 (by omega) | exact fgetN (α := Int) 0 (by omega) | exact rul_at (by omega)⟩ | exact .inr ⟨_, _, _, _, rfl, by first | exact get_app rfl rfl | exact get_out (by assumption) | exact getE0 rfl rfl | exact get_out (get_app rfl rfl) | exact get_app rfl (by assumption) | assumption | (simp only [List.append_assoc, List.singleton_append, List.cons_append, List.nil_append]; refine getE (i := 0) rfl ?_ rfl; simp; done) | (simp only [List.append_assoc, List.singleton_append, List.cons_append, List.nil_append]; refine getE (i := 1) rfl ?_ rfl; simp; done) | (simp only [List.append_assoc, List.singleton_append, List.cons_append, List.nil_append]; refine getE (i := 2) rfl ?_ rfl; simp; done) | (simp only [List.append_assoc, List.singleton_append, List.cons_append, List.nil_append]; refine getE (i := 3) rfl ?_ rfl; simp; done) | (simp [*]; done), by first | rfl | assumption | exact fgetN (α := BitVec 64) 0 (by omega) | exact fgetN (α := Int) 0 (by omega) | exact rul_at (by omega)⟩) : vop T ρ H op = some (.agg vs, H) := v_ldA ho ha hy hd hn h
theorem Len64_spec {x : SW} (H : VHeap) (w : BitVec 64) : F (psys x) 69 [iW w] H fun v G => v = iI (ln w : Nat) ∧ G = H := by
 have hw := w.isLt; have d1 : (w >>> 32).toNat = w.toNat / 4294967296 := by rw [BitVec.toNat_ushiftRight, Nat.shiftRight_eq_div_pow]
 have d2 : (w >>> 16).toNat = w.toNat / 65536 := by rw [BitVec.toNat_ushiftRight, Nat.shiftRight_eq_div_pow]
 have d3 : (w >>> 8).toNat = w.toNat / 256 := by rw [BitVec.toNat_ushiftRight, Nat.shiftRight_eq_div_pow]
 have d4 : (w >>> 32 >>> 16).toNat = (w >>> 32).toNat / 65536 := by rw [BitVec.toNat_ushiftRight, Nat.shiftRight_eq_div_pow]
 have d5 : (w >>> 32 >>> 8).toNat = (w >>> 32).toNat / 256 := by rw [BitVec.toNat_ushiftRight, Nat.shiftRight_eq_div_pow]
 have d6 : (w >>> 16 >>> 8).toNat = (w >>> 16).toNat / 256 := by rw [BitVec.toNat_ushiftRight, Nat.shiftRight_eq_div_pow]
 have d7 : (w >>> 32 >>> 16 >>> 8).toNat = (w >>> 32 >>> 16).toNat / 256 := by rw [BitVec.toNat_ushiftRight, Nat.shiftRight_eq_div_pow]
 refine F_body Tryd.func69 rfl u25 rfl ?_
 refine B_seq (B_region ?_)
 refine Lo u25 (v_const (VVal.int .i64 0) (.inr rfl) rfl) ?_
 refine L_nil (K_seq (B_seq (B_seq (B_region ?_))))
 refine Lo u25 (v_move (.inl rfl) rfl) ?_
 refine Lo u25 (rfl) ?_
 refine L_nil (K_seq ?_)
 refine B_cond _ rfl (fun hc1 => ?_) (fun hc1 => ?_)
 ·try simp only [qB] at hc1
  refine B_seq (B_region ?_)
  refine Lo u25 (v_move (.inl rfl) rfl) ?_
  refine Lo u25 (v_shrN 32 rfl rfl rfl) ?_
  refine Lo u25 (v_move (.inr rfl) rfl) ?_
  refine L_nil (K_seq (B_region ?_))
  refine Lo u25 (v_const (VVal.int .i64 32) (.inr rfl) rfl) ?_
  refine L_nil (K_seq (B_seq (B_seq (B_region ?_))))
  refine Lo u25 (v_move (.inl rfl) rfl) ?_
  refine Lo u25 (rfl) ?_
  refine L_nil (K_seq ?_)
  refine B_cond _ rfl (fun hc2 => ?_) (fun hc2 => ?_)
  ·try simp only [qB] at hc2
   refine B_seq (B_region ?_)
   refine Lo u25 (v_move (.inl rfl) rfl) ?_
   refine Lo u25 (v_shrN 16 rfl rfl rfl) ?_
   refine Lo u25 (v_move (.inr rfl) rfl) ?_
   refine L_nil (K_seq (B_region ?_))
   refine Lo u25 (v_move (.inl rfl) rfl) ?_
   refine Lo u25 (W14 rfl rfl rfl) ?_
   refine Lo u25 (v_move (.inr rfl) rfl) ?_
   refine L_nil (K_seq (B_seq (B_seq (B_region ?_))))
   refine Lo u25 (v_move (.inl rfl) rfl) ?_
   refine Lo u25 (rfl) ?_
   refine L_nil (K_seq ?_)
   refine B_cond _ rfl (fun hc3 => ?_) (fun hc3 => ?_)
   ·try simp only [qB] at hc3
    refine B_seq (B_region ?_)
    refine Lo u25 (v_move (.inl rfl) rfl) ?_
    refine Lo u25 (v_shrN 8 rfl rfl rfl) ?_
    refine Lo u25 (v_move (.inr rfl) rfl) ?_
    refine L_nil (K_seq (B_region ?_))
    refine Lo u25 (v_move (.inl rfl) rfl) ?_
    refine Lo u25 (W14 rfl rfl rfl) ?_
    refine Lo u25 (v_move (.inr rfl) rfl) ?_
    refine L_nil (K_seq (B_seq (B_region ?_)))
    refine Lo u25 (v_move (.inl rfl) rfl) ?_
    refine Lo u25 (v_move (.inl rfl) rfl) ?_
    refine Lo u25 (rfl) ?_
    refine Lo u25 (v_l8 rfl rfl (by kernel_rfl) rfl rfl rfl (by omega)) ?_
    refine Lo u25 (v_cvI rfl rfl rfl rfl rfl (by have h9 := ln_64 w; exact ⟨by omega, Int.lt_of_le_of_lt (Int.ofNat_le.2 (ln_64 _)) (by decide)⟩)) ?_
    refine Lo u25 (W33 rfl rfl rfl) ?_
    refine Lo u25 (v_move (.inr rfl) rfl) ?_
    refine L_nil (K_seq (B_ret ?_))
    refine W10 (.inr rfl) (vres_tmp rfl rfl) ?_
    have e1 := fun h => @ln_shr w 32 h
    have e2 := fun h => @ln_shr w 16 h
    have e3 := fun h => @ln_shr (w >>> 32) 16 h
    have e4 := fun h => @ln_shr w 8 h
    have e5 := fun h => @ln_shr (w >>> 32) 8 h
    have e6 := fun h => @ln_shr (w >>> 16) 8 h
    have e7 := fun h => @ln_shr (w >>> 32 >>> 16) 8 h
    simp only [show (2 : Nat) ^ 32 = 4294967296 from rfl, show (2 : Nat) ^ 16 = 65536 from rfl, show (2 : Nat) ^ 8 = 256 from rfl] at e1 e2 e3 e4 e5 e6 e7
    refine ⟨congrArg iI ?_, rfl⟩
    exact W35
   ·try simp only [qB] at hc3
    refine B_skip (K_seq (B_seq (B_region ?_)))
    refine Lo u25 (v_move (.inl rfl) rfl) ?_
    refine Lo u25 (v_move (.inl rfl) rfl) ?_
    refine Lo u25 (rfl) ?_
    refine Lo u25 (v_l8 rfl rfl (by kernel_rfl) rfl rfl rfl (by omega)) ?_
    refine Lo u25 (v_cvI rfl rfl rfl rfl rfl (by have h9 := ln_64 w; exact ⟨by omega, Int.lt_of_le_of_lt (Int.ofNat_le.2 (ln_64 _)) (by decide)⟩)) ?_
    refine Lo u25 (W33 rfl rfl rfl) ?_
    refine Lo u25 (v_move (.inr rfl) rfl) ?_
    refine L_nil (K_seq (B_ret ?_))
    refine W10 (.inr rfl) (vres_tmp rfl rfl) ?_
    have e1 := fun h => @ln_shr w 32 h
    have e2 := fun h => @ln_shr w 16 h
    have e3 := fun h => @ln_shr (w >>> 32) 16 h
    have e4 := fun h => @ln_shr w 8 h
    have e5 := fun h => @ln_shr (w >>> 32) 8 h
    have e6 := fun h => @ln_shr (w >>> 16) 8 h
    have e7 := fun h => @ln_shr (w >>> 32 >>> 16) 8 h
    simp only [show (2 : Nat) ^ 32 = 4294967296 from rfl, show (2 : Nat) ^ 16 = 65536 from rfl, show (2 : Nat) ^ 8 = 256 from rfl] at e1 e2 e3 e4 e5 e6 e7
    refine ⟨congrArg iI ?_, rfl⟩
    exact W35
  ·try simp only [qB] at hc2
   refine B_skip (K_seq (B_seq (B_seq (B_region ?_))))
   refine Lo u25 (v_move (.inl rfl) rfl) ?_
   refine Lo u25 (rfl) ?_
   refine L_nil (K_seq ?_)
   refine B_cond _ rfl (fun hc4 => ?_) (fun hc4 => ?_)
   ·try simp only [qB] at hc4
    refine B_seq (B_region ?_)
    refine Lo u25 (v_move (.inl rfl) rfl) ?_
    refine Lo u25 (v_shrN 8 rfl rfl rfl) ?_
    refine Lo u25 (v_move (.inr rfl) rfl) ?_
    refine L_nil (K_seq (B_region ?_))
    refine Lo u25 (v_move (.inl rfl) rfl) ?_
    refine Lo u25 (W14 rfl rfl rfl) ?_
    refine Lo u25 (v_move (.inr rfl) rfl) ?_
    refine L_nil (K_seq (B_seq (B_region ?_)))
    refine Lo u25 (v_move (.inl rfl) rfl) ?_
    refine Lo u25 (v_move (.inl rfl) rfl) ?_
    refine Lo u25 (rfl) ?_
    refine Lo u25 (v_l8 rfl rfl (by kernel_rfl) rfl rfl rfl (by omega)) ?_
    refine Lo u25 (v_cvI rfl rfl rfl rfl rfl (by have h9 := ln_64 w; exact ⟨by omega, Int.lt_of_le_of_lt (Int.ofNat_le.2 (ln_64 _)) (by decide)⟩)) ?_
    refine Lo u25 (W33 rfl rfl rfl) ?_
    refine Lo u25 (v_move (.inr rfl) rfl) ?_
    refine L_nil (K_seq (B_ret ?_))
    refine W10 (.inr rfl) (vres_tmp rfl rfl) ?_
    have e1 := fun h => @ln_shr w 32 h
    have e2 := fun h => @ln_shr w 16 h
    have e3 := fun h => @ln_shr (w >>> 32) 16 h
    have e4 := fun h => @ln_shr w 8 h
    have e5 := fun h => @ln_shr (w >>> 32) 8 h
    have e6 := fun h => @ln_shr (w >>> 16) 8 h
    have e7 := fun h => @ln_shr (w >>> 32 >>> 16) 8 h
    simp only [show (2 : Nat) ^ 32 = 4294967296 from rfl, show (2 : Nat) ^ 16 = 65536 from rfl, show (2 : Nat) ^ 8 = 256 from rfl] at e1 e2 e3 e4 e5 e6 e7
    refine ⟨congrArg iI ?_, rfl⟩
    exact W35
   ·try simp only [qB] at hc4
    refine B_skip (K_seq (B_seq (B_region ?_)))
    refine Lo u25 (v_move (.inl rfl) rfl) ?_
    refine Lo u25 (v_move (.inl rfl) rfl) ?_
    refine Lo u25 (rfl) ?_
    refine Lo u25 (v_l8 rfl rfl (by kernel_rfl) rfl rfl rfl (by omega)) ?_
    refine Lo u25 (v_cvI rfl rfl rfl rfl rfl (by have h9 := ln_64 w; exact ⟨by omega, Int.lt_of_le_of_lt (Int.ofNat_le.2 (ln_64 _)) (by decide)⟩)) ?_
    refine Lo u25 (W33 rfl rfl rfl) ?_
    refine Lo u25 (v_move (.inr rfl) rfl) ?_
    refine L_nil (K_seq (B_ret ?_))
    refine W10 (.inr rfl) (vres_tmp rfl rfl) ?_
    have e1 := fun h => @ln_shr w 32 h
    have e2 := fun h => @ln_shr w 16 h
    have e3 := fun h => @ln_shr (w >>> 32) 16 h
    have e4 := fun h => @ln_shr w 8 h
    have e5 := fun h => @ln_shr (w >>> 32) 8 h
    have e6 := fun h => @ln_shr (w >>> 16) 8 h
    have e7 := fun h => @ln_shr (w >>> 32 >>> 16) 8 h
    simp only [show (2 : Nat) ^ 32 = 4294967296 from rfl, show (2 : Nat) ^ 16 = 65536 from rfl, show (2 : Nat) ^ 8 = 256 from rfl] at e1 e2 e3 e4 e5 e6 e7
    refine ⟨congrArg iI ?_, rfl⟩
    exact W35
 ·try simp only [qB] at hc1
  refine B_skip (K_seq (B_seq (B_seq (B_region ?_))))
  refine Lo u25 (v_move (.inl rfl) rfl) ?_
  refine Lo u25 (rfl) ?_
  refine L_nil (K_seq ?_)
  refine B_cond _ rfl (fun hc5 => ?_) (fun hc5 => ?_)
  ·try simp only [qB] at hc5
   refine B_seq (B_region ?_)
   refine Lo u25 (v_move (.inl rfl) rfl) ?_
   refine Lo u25 (v_shrN 16 rfl rfl rfl) ?_
   refine Lo u25 (v_move (.inr rfl) rfl) ?_
   refine L_nil (K_seq (B_region ?_))
   refine Lo u25 (v_move (.inl rfl) rfl) ?_
   refine Lo u25 (W14 rfl rfl rfl) ?_
   refine Lo u25 (v_move (.inr rfl) rfl) ?_
   refine L_nil (K_seq (B_seq (B_seq (B_region ?_))))
   refine Lo u25 (v_move (.inl rfl) rfl) ?_
   refine Lo u25 (rfl) ?_
   refine L_nil (K_seq ?_)
   refine B_cond _ rfl (fun hc6 => ?_) (fun hc6 => ?_)
   ·try simp only [qB] at hc6
    refine B_seq (B_region ?_)
    refine Lo u25 (v_move (.inl rfl) rfl) ?_
    refine Lo u25 (v_shrN 8 rfl rfl rfl) ?_
    refine Lo u25 (v_move (.inr rfl) rfl) ?_
    refine L_nil (K_seq (B_region ?_))
    refine Lo u25 (v_move (.inl rfl) rfl) ?_
    refine Lo u25 (W14 rfl rfl rfl) ?_
    refine Lo u25 (v_move (.inr rfl) rfl) ?_
    refine L_nil (K_seq (B_seq (B_region ?_)))
    refine Lo u25 (v_move (.inl rfl) rfl) ?_
    refine Lo u25 (v_move (.inl rfl) rfl) ?_
    refine Lo u25 (rfl) ?_
    refine Lo u25 (v_l8 rfl rfl (by kernel_rfl) rfl rfl rfl (by omega)) ?_
    refine Lo u25 (v_cvI rfl rfl rfl rfl rfl (by have h9 := ln_64 w; exact ⟨by omega, Int.lt_of_le_of_lt (Int.ofNat_le.2 (ln_64 _)) (by decide)⟩)) ?_
    refine Lo u25 (W33 rfl rfl rfl) ?_
    refine Lo u25 (v_move (.inr rfl) rfl) ?_
    refine L_nil (K_seq (B_ret ?_))
    refine W10 (.inr rfl) (vres_tmp rfl rfl) ?_
    have e1 := fun h => @ln_shr w 32 h
    have e2 := fun h => @ln_shr w 16 h
    have e3 := fun h => @ln_shr (w >>> 32) 16 h
    have e4 := fun h => @ln_shr w 8 h
    have e5 := fun h => @ln_shr (w >>> 32) 8 h
    have e6 := fun h => @ln_shr (w >>> 16) 8 h
    have e7 := fun h => @ln_shr (w >>> 32 >>> 16) 8 h
    simp only [show (2 : Nat) ^ 32 = 4294967296 from rfl, show (2 : Nat) ^ 16 = 65536 from rfl, show (2 : Nat) ^ 8 = 256 from rfl] at e1 e2 e3 e4 e5 e6 e7
    refine ⟨congrArg iI ?_, rfl⟩
    exact W35
   ·try simp only [qB] at hc6
    refine B_skip (K_seq (B_seq (B_region ?_)))
    refine Lo u25 (v_move (.inl rfl) rfl) ?_
    refine Lo u25 (v_move (.inl rfl) rfl) ?_
    refine Lo u25 (rfl) ?_
    refine Lo u25 (v_l8 rfl rfl (by kernel_rfl) rfl rfl rfl (by omega)) ?_
    refine Lo u25 (v_cvI rfl rfl rfl rfl rfl (by have h9 := ln_64 w; exact ⟨by omega, Int.lt_of_le_of_lt (Int.ofNat_le.2 (ln_64 _)) (by decide)⟩)) ?_
    refine Lo u25 (W33 rfl rfl rfl) ?_
    refine Lo u25 (v_move (.inr rfl) rfl) ?_
    refine L_nil (K_seq (B_ret ?_))
    refine W10 (.inr rfl) (vres_tmp rfl rfl) ?_
    have e1 := fun h => @ln_shr w 32 h
    have e2 := fun h => @ln_shr w 16 h
    have e3 := fun h => @ln_shr (w >>> 32) 16 h
    have e4 := fun h => @ln_shr w 8 h
    have e5 := fun h => @ln_shr (w >>> 32) 8 h
    have e6 := fun h => @ln_shr (w >>> 16) 8 h
    have e7 := fun h => @ln_shr (w >>> 32 >>> 16) 8 h
    simp only [show (2 : Nat) ^ 32 = 4294967296 from rfl, show (2 : Nat) ^ 16 = 65536 from rfl, show (2 : Nat) ^ 8 = 256 from rfl] at e1 e2 e3 e4 e5 e6 e7
    refine ⟨congrArg iI ?_, rfl⟩
    exact W35
  ·try simp only [qB] at hc5
   refine B_skip (K_seq (B_seq (B_seq (B_region ?_))))
   refine Lo u25 (v_move (.inl rfl) rfl) ?_
   refine Lo u25 (rfl) ?_
   refine L_nil (K_seq ?_)
   refine B_cond _ rfl (fun hc7 => ?_) (fun hc7 => ?_)
   ·try simp only [qB] at hc7
    refine B_seq (B_region ?_)
    refine Lo u25 (v_move (.inl rfl) rfl) ?_
    refine Lo u25 (v_shrN 8 rfl rfl rfl) ?_
    refine Lo u25 (v_move (.inr rfl) rfl) ?_
    refine L_nil (K_seq (B_region ?_))
    refine Lo u25 (v_move (.inl rfl) rfl) ?_
    refine Lo u25 (W14 rfl rfl rfl) ?_
    refine Lo u25 (v_move (.inr rfl) rfl) ?_
    refine L_nil (K_seq (B_seq (B_region ?_)))
    refine Lo u25 (v_move (.inl rfl) rfl) ?_
    refine Lo u25 (v_move (.inl rfl) rfl) ?_
    refine Lo u25 (rfl) ?_
    refine Lo u25 (v_l8 rfl rfl (by kernel_rfl) rfl rfl rfl (by omega)) ?_
    refine Lo u25 (v_cvI rfl rfl rfl rfl rfl (by have h9 := ln_64 w; exact ⟨by omega, Int.lt_of_le_of_lt (Int.ofNat_le.2 (ln_64 _)) (by decide)⟩)) ?_
    refine Lo u25 (W33 rfl rfl rfl) ?_
    refine Lo u25 (v_move (.inr rfl) rfl) ?_
    refine L_nil (K_seq (B_ret ?_))
    refine W10 (.inr rfl) (vres_tmp rfl rfl) ?_
    have e1 := fun h => @ln_shr w 32 h
    have e2 := fun h => @ln_shr w 16 h
    have e3 := fun h => @ln_shr (w >>> 32) 16 h
    have e4 := fun h => @ln_shr w 8 h
    have e5 := fun h => @ln_shr (w >>> 32) 8 h
    have e6 := fun h => @ln_shr (w >>> 16) 8 h
    have e7 := fun h => @ln_shr (w >>> 32 >>> 16) 8 h
    simp only [show (2 : Nat) ^ 32 = 4294967296 from rfl, show (2 : Nat) ^ 16 = 65536 from rfl, show (2 : Nat) ^ 8 = 256 from rfl] at e1 e2 e3 e4 e5 e6 e7
    refine ⟨congrArg iI ?_, rfl⟩
    exact W35
   ·try simp only [qB] at hc7
    refine B_skip (K_seq (B_seq (B_region ?_)))
    refine Lo u25 (v_move (.inl rfl) rfl) ?_
    refine Lo u25 (v_move (.inl rfl) rfl) ?_
    refine Lo u25 (rfl) ?_
    refine Lo u25 (v_l8 rfl rfl (by kernel_rfl) rfl rfl rfl (by omega)) ?_
    refine Lo u25 (v_cvI rfl rfl rfl rfl rfl (by have h9 := ln_64 w; exact ⟨by omega, Int.lt_of_le_of_lt (Int.ofNat_le.2 (ln_64 _)) (by decide)⟩)) ?_
    refine Lo u25 (W33 rfl rfl rfl) ?_
    refine Lo u25 (v_move (.inr rfl) rfl) ?_
    refine L_nil (K_seq (B_ret ?_))
    refine W10 (.inr rfl) (vres_tmp rfl rfl) ?_
    have e1 := fun h => @ln_shr w 32 h
    have e2 := fun h => @ln_shr w 16 h
    have e3 := fun h => @ln_shr (w >>> 32) 16 h
    have e4 := fun h => @ln_shr w 8 h
    have e5 := fun h => @ln_shr (w >>> 32) 8 h
    have e6 := fun h => @ln_shr (w >>> 16) 8 h
    have e7 := fun h => @ln_shr (w >>> 32 >>> 16) 8 h
    simp only [show (2 : Nat) ^ 32 = 4294967296 from rfl, show (2 : Nat) ^ 16 = 65536 from rfl, show (2 : Nat) ^ 8 = 256 from rfl] at e1 e2 e3 e4 e5 e6 e7
    refine ⟨congrArg iI ?_, rfl⟩
    exact W35
theorem High_spec {x : SW} (H : VHeap) (w : BitVec 64) : F (psys x) 43 [.agg [iW w]] H fun v G => v = iI ((ln w : Nat) - 1) ∧ G = H := by
 refine F_body Tryd.func43 rfl u7 rfl ?_
 refine B_seq (B_region ?_)
 refine Lo u7 (v_boxT rfl rfl rfl) ?_
 refine Lo u7 (v_const (VVal.int .i64 0) (.inr rfl) rfl) ?_
 refine L_nil (K_seq (B_seq (B_region ?_)))
 refine Lo u7 (rfl) ?_
 refine Lo u7 (W12 rfl rfl rfl rfl) ?_
 refine L_call rfl rfl rfl (by exact Len64_spec _ _) ?_
 rintro _ _ ⟨rfl, rfl⟩
 refine Le u7 ?_
 refine Lo u7 (W37 rfl rfl rfl) ?_
 refine Lo u7 (v_move (.inr rfl) rfl) ?_
 refine L_nil (K_seq (B_ret ?_))
 refine W10 (.inr rfl) (vres_tmp rfl rfl) ?_
 exact ⟨rfl, rfl⟩
/-- a problem that fits into a memory -/
structure PbL (p : Pb) : Prop where
  u : -9223372036854775808 ≤ p.users ∧ p.users < 9223372036854775808
  w : p.who.length ≤ 1000000
  f : p.fixed.length ≤ 1000000
  r : p.rules.length ≤ 1000000
  s : ∀ r, r ∈ p.rules → r.steps.length ≤ 1000000
theorem okW_bad {u f : Int} {w : BitVec 64} (hu : 0 ≤ u) (h : f < -1 ∨ u ≤ f ∨ u ≤ (ln w : Int) - 1) : okW u f w = false := by
  unfold okW
  rcases h with h | h | h
  · rw [decide_eq_false (by omega), Bool.false_and]
  · rw [decide_eq_false (by omega), Bool.false_and]
  · rw [decide_eq_false ((ln_high hu).1 h), Bool.and_false]
theorem okW_ok {u f : Int} {w : BitVec 64} (hu : 0 ≤ u) (h1 : -1 ≤ f) (h2 : f < u) (h : ¬ u ≤ (ln w : Int) - 1) : okW u f w = true := by
  unfold okW
  rw [decide_eq_true ⟨h1, h2⟩, decide_eq_true (Decidable.of_not_not fun e => h ((ln_high hu).2 e))]; rfl
theorem pck_2 {p : Pb} (h : 12 < p.who.length ∨ 64 < p.users ∨ 32 < p.rules.length) : pck p = 2 := if_pos h
theorem pck_1 {p : Pb} (h : ¬ (12 < p.who.length ∨ 64 < p.users ∨ 32 < p.rules.length)) (h2 : p.users < 0 ∨ p.fixed.length ≠ p.who.length) : pck p = 1 := by unfold pck; rw [if_neg h, if_pos h2]
theorem pck_1w {p : Pb} (h : ¬ (12 < p.who.length ∨ 64 < p.users ∨ 32 < p.rules.length)) (h2 : ¬ (p.users < 0 ∨ p.fixed.length ≠ p.who.length)) {i : Nat} (hi : i < p.who.length) (h3 : okW p.users (p.fixed.getD i 0) (p.who.getD i 0) = false) : pck p = 1 := by
  unfold pck; rw [if_neg h, if_neg h2, if_neg]
  intro e
  rw [Bool.and_eq_true, List.all_eq_true] at e
  have := e.1 i (List.mem_range.2 hi); rw [h3] at this; cases this
theorem pck_1r {p : Pb} (h : ¬ (12 < p.who.length ∨ 64 < p.users ∨ 32 < p.rules.length)) (h2 : ¬ (p.users < 0 ∨ p.fixed.length ≠ p.who.length)) {i : Nat} (hi : i < p.rules.length) (h3 : ¬ rck p.who.length (p.rules.getD i r0) = true) : pck p = 1 := by
  unfold pck; rw [if_neg h, if_neg h2, if_neg]
  intro e
  rw [Bool.and_eq_true, List.all_eq_true, List.all_eq_true] at e
  exact h3 (e.2 _ (rul_mem hi))
theorem all_at {rs : List Rul} {f : Rul → Bool} (h : ∀ i, i < rs.length → f (rs.getD i r0) = true) : ∀ r, r ∈ rs → f r = true := fun r hr => by
  obtain ⟨i, hi, e⟩ := List.getElem_of_mem hr
  have := h i hi
  rw [List.getD_eq_getElem?_getD, List.getElem?_eq_getElem hi] at this
  simpa [e] using this
theorem pck_0 {p : Pb} (h : ¬ (12 < p.who.length ∨ 64 < p.users ∨ 32 < p.rules.length)) (h2 : ¬ (p.users < 0 ∨ p.fixed.length ≠ p.who.length)) (h3 : ∀ i, i < p.who.length → okW p.users (p.fixed.getD i 0) (p.who.getD i 0) = true) (h4 : ∀ i, i < p.rules.length → rck p.who.length (p.rules.getD i r0) = true) : pck p = 0 :=
  pck_good.2 ⟨by omega, by omega, by omega, by omega, by omega, h3, all_at h4⟩
theorem sset_spec {x : SW} (H : VHeap) (w : BitVec 64) : F (psys x) 42 [iW w] H fun v G => v = .agg [iW w] ∧ G = H := by
 refine F_body Tryd.func42 rfl u6 rfl ?_
 refine B_seq (B_region ?_)
 refine Lo u6 (v_alloc rfl rfl) ?_
 refine L_nil (K_seq (B_seq (B_region ?_)))
 refine Lo u6 (rfl) ?_
 refine Lo u6 (v_move (.inl rfl) rfl) ?_
 refine L_call rfl rfl rfl (by exact Of_spec _ 0#64 _) ?_
 rintro _ _ ⟨rfl, rfl⟩
 refine Le u6 ?_
 refine Lo u6 (W13 rfl rfl rfl rfl rfl rfl rfl) ?_
 refine L_nil (K_seq (B_ret ?_))
 refine W10 (.inr rfl) (vres_cellA rfl rfl rfl rfl (by first | exact get_app rfl rfl | exact get_out (by assumption) | exact getE0 rfl rfl | exact get_out (get_app rfl rfl) | exact get_app rfl (by assumption) | assumption | (simp only [List.append_assoc, List.singleton_append, List.cons_append, List.nil_append]; refine getE (i := 0) rfl ?_ rfl; simp; done) | (simp only [List.append_assoc, List.singleton_append, List.cons_append, List.nil_append]; refine getE (i := 1) rfl ?_ rfl; simp; done) | (simp only [List.append_assoc, List.singleton_append, List.cons_append, List.nil_append]; refine getE (i := 2) rfl ?_ rfl; simp; done) | (simp only [List.append_assoc, List.singleton_append, List.cons_append, List.nil_append]; refine getE (i := 3) rfl ?_ rfl; simp; done) | (simp [*]; done)) (by first | rfl | assumption | exact fget (α := BitVec 64) 0 (by omega) | exact fget (α := Int) 0 (by omega) | exact fget0 (α := BitVec 64) 0 (by omega) | exact fget0 (α := Int) 0 (by omega) | exact fget (α := Bool) false (by omega) | exact fget0 (α := Bool) false (by omega) | (simp [*]; done))) ?_
 exact ⟨rfl, rfl⟩
theorem sCheck_spec {x : SW} (H : VHeap) (p : Pb) (hp : PbL p) : F (psys x) 14 [.agg (pbB p)] H fun v G => v = iI (pck p) ∧ G = H := by
 have hp1 := hp.u; have hp2 := hp.w; have hp3 := hp.f; have hp4 := hp.r
 refine F_body Tryd.func14 rfl u79 rfl ?_
 refine B_seq (B_region ?_)
 refine Lo u79 (v_boxT rfl rfl rfl) ?_
 refine Lo u79 (v_const (VVal.int .i64 0) (.inr rfl) rfl) ?_
 refine L_nil (K_seq (B_seq (B_region ?_)))
 refine Lo u79 (rfl) ?_
 refine Lo u79 (W39 rfl rfl rfl rfl) ?_
 refine Lo u79 (rfl) ?_
 refine Lo u79 (v_move (.inr rfl) rfl) ?_
 refine L_nil (K_seq (B_seq (B_block (B_seq (B_region ?_)))))
 refine Lo u79 (v_move (.inl rfl) rfl) ?_
 refine Lo u79 (rfl) ?_
 refine Lo u79 (v_move (.inl rfl) rfl) ?_
 refine L_split 15 (env1 := u79) (env2 := u79) rfl rfl rfl (fun hg1 => ?_) (fun hg1 => ?_)
 ·try simp only [qB, qN] at hg1
  refine Lf u79 ?_
  refine Lf u79 ?_
  refine Lf u79 ?_
  refine Lo u79 (v_pickTC (VVal.bool true) rfl rfl rfl) ?_
  refine Lo u79 (v_move (.inl rfl) rfl) ?_
  refine Lf u79 ?_
  refine Lf u79 ?_
  refine Lf u79 ?_
  refine Lf u79 ?_
  refine Lo u79 (v_pickTC (VVal.bool true) rfl rfl rfl) ?_
  refine Lo u79 (v_move (.inr rfl) rfl) ?_
  refine L_nil (K_seq ?_)
  refine B_true rfl rfl ?_
  refine B_seq (B_region ?_)
  refine Lo u79 (v_const (VVal.int .i64 2) (.inr rfl) rfl) ?_
  refine L_nil (K_seq (B_ret (K_blkR (K_seqR ?_))))
  refine W10 (.inr rfl) (vres_tmp rfl rfl) ?_
  exact W3a
 ·try simp only [qB, qN] at hg1
  refine Lo u79 (rfl) ?_
  refine Lo u79 (W39 rfl rfl rfl rfl) ?_
  refine Lo u79 (rfl) ?_
  refine Lo u79 (v_pickF rfl rfl rfl) ?_
  refine Lo u79 (v_move (.inl rfl) rfl) ?_
  refine L_split 20 (env1 := u79) (env2 := u79) rfl rfl rfl (fun hg2 => ?_) (fun hg2 => ?_)
  ·try simp only [qB, qN] at hg2
   refine Lf u79 ?_
   refine Lf u79 ?_
   refine Lf u79 ?_
   refine Lf u79 ?_
   refine Lo u79 (v_pickTC (VVal.bool true) rfl rfl rfl) ?_
   refine Lo u79 (v_move (.inr rfl) rfl) ?_
   refine L_nil (K_seq ?_)
   refine B_true rfl rfl ?_
   refine B_seq (B_region ?_)
   refine Lo u79 (v_const (VVal.int .i64 2) (.inr rfl) rfl) ?_
   refine L_nil (K_seq (B_ret (K_blkR (K_seqR ?_))))
   refine W10 (.inr rfl) (vres_tmp rfl rfl) ?_
   exact W3a
  ·try simp only [qB, qN] at hg2
   refine Lo u79 (rfl) ?_
   refine Lo u79 (W39 rfl rfl rfl rfl) ?_
   refine Lo u79 (rfl) ?_
   refine Lo u79 (rfl) ?_
   refine Lo u79 (v_pickF rfl rfl rfl) ?_
   refine Lo u79 (v_move (.inr rfl) rfl) ?_
   refine L_nil (K_seq ?_)
   refine B_cond _ rfl (fun hc3 => ?_) (fun hc3 => ?_)
   ·try simp only [qB, qN] at hc3
    refine B_seq (B_region ?_)
    refine Lo u79 (v_const (VVal.int .i64 2) (.inr rfl) rfl) ?_
    refine L_nil (K_seq (B_ret (K_blkR (K_seqR ?_))))
    refine W10 (.inr rfl) (vres_tmp rfl rfl) ?_
    exact W3a
   ·try simp only [qB, qN] at hc3
    refine B_seq (B_region ?_)
    refine Lo u79 (rfl) ?_
    refine Lo u79 (W39 rfl rfl rfl rfl) ?_
    refine Lo u79 (rfl) ?_
    refine Lo u79 (v_move (.inl rfl) rfl) ?_
    refine L_split 30 (env1 := u79) (env2 := u79) rfl rfl rfl (fun hg4 => ?_) (fun hg4 => ?_)
    ·try simp only [qB, qN] at hg4
     refine Lf u79 ?_
     refine Lf u79 ?_
     refine Lf u79 ?_
     refine Lf u79 ?_
     refine Lf u79 ?_
     refine Lo u79 (v_pickTC (VVal.bool true) rfl rfl rfl) ?_
     refine Lo u79 (v_move (.inr rfl) rfl) ?_
     refine L_nil (K_seq ?_)
     refine B_true rfl rfl ?_
     refine B_seq (B_region ?_)
     refine Lo u79 (v_const (VVal.int .i64 1) (.inr rfl) rfl) ?_
     refine L_nil (K_seq (B_ret (K_blkR (K_seqR ?_))))
     refine W10 (.inr rfl) (vres_tmp rfl rfl) ?_
     exact W3a
    ·try simp only [qB, qN] at hg4
     refine Lo u79 (rfl) ?_
     refine Lo u79 (W39 rfl rfl rfl rfl) ?_
     refine Lo u79 (rfl) ?_
     refine Lo u79 (v_move (.inl rfl) rfl) ?_
     refine Lo u79 (rfl) ?_
     refine Lo u79 (v_pickF rfl rfl rfl) ?_
     refine Lo u79 (v_move (.inr rfl) rfl) ?_
     refine L_nil (K_seq ?_)
     refine B_cond _ rfl (fun hc5 => ?_) (fun hc5 => ?_)
     ·try simp only [qB, qN] at hc5
      refine B_seq (B_region ?_)
      refine Lo u79 (v_const (VVal.int .i64 1) (.inr rfl) rfl) ?_
      refine L_nil (K_seq (B_ret (K_blkR (K_seqR ?_))))
      refine W10 (.inr rfl) (vres_tmp rfl rfl) ?_
      exact W3a
     ·try simp only [qB, qN] at hc5
      refine B_skip (K_blk (K_seq (B_seq (B_seq ?_))))
      have hn1 : ¬ (12 < p.who.length ∨ 64 < p.users ∨ 32 < p.rules.length) := by omega
      have hn2 : ¬ (p.users < 0 ∨ p.fixed.length ≠ p.who.length) := by omega
      refine B_region ?_
      refine Lo u79 (rfl) ?_
      refine Lo u79 (W39 rfl rfl rfl rfl) ?_
      refine Lo u79 (rfl) ?_
      refine Lo u79 (v_const (VVal.int .i64 0) (.inl rfl) rfl) ?_
      refine L_nil (K_seq (B_block ?_))
      refine B_clear (mk 79 604462909805390442004469) (env' := u79) rfl ?_
      refine B_loopE (fun (k : Nat) => p.who.length - k) (fun (k : Nat) => [(40, iI (k : Nat))]) (fun (k : Nat) G => (k ≤ p.who.length ∧ ∀ i, i < k → okW p.users (p.fixed.getD i 0) (p.who.getD i 0) = true) ∧ G = H ++ [.cells (pbB p) true]) 0 rfl ?_ ?_
      ·refine ⟨?_, rfl⟩
       exact ⟨Nat.zero_le _, fun i h => by omega⟩
      rintro k _ ⟨⟨hk, hw⟩, rfl⟩
      refine B_env (env' := u79) rfl ?_
      refine B_seq (B_region ?_)
      refine Lo u79 (rfl) ?_
      refine L_nil (K_seq (B_seq ?_))
      refine B_cond _ rfl (fun hc6 => ?_) (fun hc6 => ?_)
      ·try simp only [qB, qN] at hc6
       refine B_skip (K_seq (B_seq (B_block (B_seq (B_region ?_)))))
       refine Lo u79 (v_move (.inl rfl) rfl) ?_
       refine Lo u79 (W18 rfl rfl rfl rfl rfl rfl rfl) ?_
       refine Lo u79 (W39 rfl rfl rfl rfl) ?_
       refine Lo u79 (v_move (.inr rfl) rfl) ?_
       refine Lo u79 (v_move (.inr rfl) rfl) ?_
       refine L_nil (K_seq (B_seq (B_region ?_)))
       refine Lo u79 (rfl) ?_
       refine Lo u79 (W39 rfl rfl rfl rfl) ?_
       refine Lo u79 (v_move (.inl rfl) rfl) ?_
       refine Lo u79 (W18 rfl rfl rfl rfl rfl rfl rfl) ?_
       refine Lo u79 (W39 rfl rfl rfl rfl) ?_
       refine Lo u79 (v_move (.inr rfl) rfl) ?_
       refine L_nil (K_seq (B_seq ?_))
       refine B_draw [0, 1, 2, 3, 4, 5, 6, 7, 8, 9, 12, 13, 10, 11, 14, 15] #[0, 1, 3, 7, 7, 23, 63, 127, 255, 511, 1023, 2047, 511, 4607, 16383, 32767] (by kernel_rfl) (by kernel_rfl) (by kernel_rfl) ?_
       refine Oo u79 .calm rfl (v_move (.inl rfl) rfl) ?_
       refine Oo u79 .calm rfl (rfl) ?_
       refine Oo u79 .calm rfl (v_move (.inl rfl) rfl) ?_
       refine O_split 52 (env1 := u79) (env2 := u79) rfl rfl rfl (fun hg7 => ?_) (fun hg7 => ?_)
       ·try simp only [qB, qN] at hg7
        refine Of u79 rfl ?_
        refine Of u79 rfl ?_
        refine Of u79 rfl ?_
        refine Of u79 rfl ?_
        refine Oo u79 .calm rfl (v_pickTC (VVal.bool true) rfl rfl rfl) ?_
        refine Oo u79 .calm rfl (v_move (.inl rfl) rfl) ?_
        refine Of u79 rfl ?_
        refine Of u79 rfl ?_
        refine Of u79 rfl ?_
        refine Of u79 rfl ?_
        refine Of u79 rfl ?_
        refine Of u79 rfl ?_
        refine Oo u79 .calm rfl (v_pickTC (VVal.bool true) rfl rfl rfl) ?_
        refine O_nil [] (by kernel_rfl) (trivial) ?_
        refine K_seq ?_
        refine B_true rfl rfl ?_
        refine B_seq (B_region ?_)
        refine Lo u79 (v_const (VVal.int .i64 1) (.inr rfl) rfl) ?_
        refine L_nil (K_seq (B_ret (K_blkR (K_seqR (K_loopR (K_blkR (K_seqR ?_)))))))
        refine W10 (.inr rfl) (vres_tmp rfl rfl) ?_
        exact W3a
       ·try simp only [qB, qN] at hg7
        refine Oo u79 .calm rfl (v_move (.inl rfl) rfl) ?_
        refine Oo u79 .calm rfl (rfl) ?_
        refine Oo u79 .look rfl (W39 rfl rfl rfl rfl) ?_
        refine Oo u79 .calm rfl (rfl) ?_
        refine Oo u79 .calm rfl (v_pickF rfl rfl rfl) ?_
        refine Oo u79 .calm rfl (v_move (.inl rfl) rfl) ?_
        refine O_split 58 (env1 := u79) (env2 := u79) rfl rfl rfl (fun hg8 => ?_) (fun hg8 => ?_)
        ·try simp only [qB, qN] at hg8
         refine Of u79 rfl ?_
         refine Of u79 rfl ?_
         refine Of u79 rfl ?_
         refine Of u79 rfl ?_
         refine Of u79 rfl ?_
         refine Of u79 rfl ?_
         refine Oo u79 .calm rfl (v_pickTC (VVal.bool true) rfl rfl rfl) ?_
         refine O_nil [] (by kernel_rfl) (trivial) ?_
         refine K_seq ?_
         refine B_true rfl rfl ?_
         refine B_seq (B_region ?_)
         refine Lo u79 (v_const (VVal.int .i64 1) (.inr rfl) rfl) ?_
         refine L_nil (K_seq (B_ret (K_blkR (K_seqR (K_loopR (K_blkR (K_seqR ?_)))))))
         refine W10 (.inr rfl) (vres_tmp rfl rfl) ?_
         exact W3a
        ·try simp only [qB, qN] at hg8
         refine Oo u79 .calm rfl (v_move (.inl rfl) rfl) ?_
         refine Oo u79 .calm rfl (rfl) ?_
         refine O_opI (env' := u79) (x := .look _ _) rfl rfl rfl (W39 rfl rfl rfl rfl) rfl rfl rfl ?_
         refine O_call (env' := u79) rfl rfl rfl rfl rfl (by exact sset_spec _ _) (by first | exact Nat.le_refl _ | simp) rfl rfl ?_
         refine O_call (env' := u79) rfl rfl rfl rfl rfl (by exact High_spec _ _) (by first | exact Nat.le_refl _ | simp) rfl rfl ?_
         refine Oo u79 .calm rfl (rfl) ?_
         refine Oo u79 .calm rfl (v_pickF rfl rfl rfl) ?_
         refine O_nil [_, _] (by rfl) (And.intro (And.intro (W39 rfl rfl rfl rfl) (W39 rfl rfl rfl rfl)) (And.intro (And.intro (W39 rfl rfl rfl rfl) (W39 rfl rfl rfl rfl)) trivial)) ?_
         refine K_seq ?_
         refine B_cond _ rfl (fun hc9 => ?_) (fun hc9 => ?_)
         ·try simp only [qB, qN] at hc9
          refine B_seq (B_region ?_)
          refine Lo u79 (v_const (VVal.int .i64 1) (.inr rfl) rfl) ?_
          refine L_nil (K_seq (B_ret (K_blkR (K_seqR (K_loopR (K_blkR (K_seqR ?_)))))))
          refine W10 (.inr rfl) (vres_tmp rfl rfl) ?_
          exact W3a
         ·try simp only [qB, qN] at hc9
          refine B_skip (K_blk (K_seq (B_region ?_)))
          refine Lo u79 (W3c rfl rfl rfl) ?_
          refine Lo u79 (v_move (.inl rfl) rfl) ?_
          refine L_nil ?_
          refine K_loop (mk 79 604462909805390442004469) (env' := u79) rfl ⟨k + 1, ?_, rfl, ?_⟩
          ·first | omega | (simp only []; omega)
          ·exact ⟨⟨by omega, fun i hi => by by_cases e : i = k; (subst e; exact okW_ok (by omega) (by omega) (by omega) (by omega)); exact hw i (by omega)⟩, rfl⟩
      ·try simp only [qB, qN] at hc6
       refine B_exit (K_seqX (K_loopX (K_blkX (K_seq (B_seq (B_seq (B_region ?_)))))))
       refine Lo u79 (rfl) ?_
       refine Lo u79 (W39 rfl rfl rfl rfl) ?_
       refine Lo u79 (rfl) ?_
       refine Lo u79 (v_const (VVal.int .i64 0) (.inl rfl) rfl) ?_
       refine L_nil (K_seq (B_block ?_))
       refine B_clear (mk 79 602396874471059117572087) (env' := u79) rfl ?_
       refine B_loopE (fun (m : Nat) => p.rules.length - m) (fun (m : Nat) => [(70, iI (m : Nat))]) (fun (m : Nat) G => (m ≤ p.rules.length ∧ ∀ i, i < m → rck p.who.length (p.rules.getD i r0) = true) ∧ ∃ X, G = H ++ (.cells (pbB p) true :: X)) 0 rfl ?_ ?_
       ·refine ⟨?_, ⟨[], rfl⟩⟩
        exact ⟨Nat.zero_le _, fun i h => by omega⟩
       rintro m _ ⟨⟨hm, hr⟩, ⟨X, rfl⟩⟩
       refine B_env (env' := u79) rfl ?_
       refine B_seq (B_region ?_)
       refine Lo u79 (rfl) ?_
       refine L_nil (K_seq (B_seq ?_))
       refine B_cond _ rfl (fun hc10 => ?_) (fun hc10 => ?_)
       ·try simp only [qB, qN] at hc10
        refine B_skip (K_seq (B_seq (B_block (B_seq (B_region ?_)))))
        refine Lo u79 (W18 rfl rfl rfl rfl rfl rfl rfl) ?_
        refine Lo u79 (W3d rfl rfl rfl rfl rfl) ?_
        refine Lo u79 (v_alloc rfl rfl) ?_
        refine Lo u79 (W13 rfl rfl rfl rfl rfl rfl rfl) ?_
        refine L_nil (K_seq (B_seq (B_region ?_)))
        refine Lo u79 (v_move (.inl rfl) rfl) ?_
        refine Lo u79 (W3d rfl rfl rfl rfl rfl) ?_
        refine L_call rfl rfl rfl (by exact rCheck_spec _ _ _ (hp.s _ (rul_mem (by omega)))) ?_
        rintro _ _ ⟨rfl, rfl⟩
        refine Le u79 ?_
        refine Lo u79 (rfl) ?_
        refine L_nil (K_seq ?_)
        refine B_cond _ rfl (fun hc11 => ?_) (fun hc11 => ?_)
        ·try simp only [qB, qN] at hc11
         refine B_seq (B_region ?_)
         refine Lo u79 (v_const (VVal.int .i64 1) (.inr rfl) rfl) ?_
         refine L_nil (K_seq (B_ret (K_blkR (K_seqR (K_loopR (K_blkR (K_seqR ?_)))))))
         refine W10 (.inr rfl) (vres_tmp rfl rfl) ?_
         exact W3a
        ·try simp only [qB, qN] at hc11
         refine B_skip (K_blk (K_seq (B_region ?_)))
         refine Lo u79 (W14 rfl rfl rfl) ?_
         refine Lo u79 (v_move (.inl rfl) rfl) ?_
         refine L_nil ?_
         refine K_loop (mk 79 602396874471059117572087) (env' := u79) rfl ⟨m + 1, ?_, rfl, ?_⟩
         ·first | omega | (simp only []; omega)
         ·exact ⟨⟨by omega, fun i hi => by by_cases e : i = m; (subst e; exact rcE_eq.1 (by assumption)); exact hr i (by omega)⟩, ⟨_, rfl⟩⟩
       ·try simp only [qB, qN] at hc10
        refine B_exit (K_seqX (K_loopX (K_blkX (K_seq (B_seq (B_region ?_))))))
        refine Lo u79 (v_const (VVal.int .i64 0) (.inr rfl) rfl) ?_
        refine L_nil (K_seq (B_ret ?_))
        refine W10 (.inr rfl) (vres_tmp rfl rfl) ?_
        exact W3a
end Go.Proofs.YtnbihdflnjpinaaDoor.VT

set_option autoImplicit false
set_option linter.unusedVariables false
set_option linter.unusedSimpArgs false
set_option maxHeartbeats 4000000
set_option maxRecDepth 100000
namespace Go.Proofs.YtnbihdflnjpinaaDoor.VT
open Go Go.V Go.RowKit
theorem dec_d {p q : Prop} [Decidable p] [Decidable q] (h : p ↔ q) : VVal.bool (decide p) = .bool (decide q) := congrArg VVal.bool (decide_eq_decide.2 h)
theorem beq_d (a b : Int) : (a == b) = decide (a = b) := by rw [Bool.eq_iff_iff, beq_iff_eq, decide_eq_true_eq]
end Go.Proofs.YtnbihdflnjpinaaDoor.VT

set_option autoImplicit false
set_option linter.unusedVariables false
set_option linter.unusedSimpArgs false
set_option maxHeartbeats 4000000
set_option maxRecDepth 100000
namespace Go.Proofs.YtnbihdflnjpinaaDoor.VT
open Go Go.V Go.RowKit
end Go.Proofs.YtnbihdflnjpinaaDoor.VT

set_option autoImplicit false
set_option linter.unusedVariables false
set_option linter.unusedSimpArgs false
set_option maxHeartbeats 4000000
set_option maxRecDepth 100000
namespace Go.Proofs.YtnbihdflnjpinaaDoor.VT
open Go Go.V Go.RowKit
abbrev u39 {a0 a1 a2 a3 a4 a5 a6 a7 a8 a9 a10 a11 a12 a13 a14 a15 a16 a17 a18 a19 a20 a21 a22 a23 a24 a25 a26 a27 a28 a29 a30 a31 a32 a33 a34 a35 a36 a37 a38 : VVal} : VEnv := a0 :: a1 :: a2 :: a3 :: a4 :: a5 :: a6 :: a7 :: a8 :: a9 :: a10 :: a11 :: a12 :: a13 :: a14 :: a15 :: a16 :: a17 :: a18 :: a19 :: a20 :: a21 :: a22 :: a23 :: a24 :: a25 :: a26 :: a27 :: a28 :: a29 :: a30 :: a31 :: a32 :: a33 :: a34 :: a35 :: a36 :: a37 :: a38 :: []
theorem W3e {T : TypeId → Option VTy} {H : VHeap} {op : Op} {ρ : Operand → VVal} {t : TypeId} {a : Operand} {y : VTy} {p v : VVal} (ho : op = .load t a) (ha : ρ a = p) (hy : T t = some y) (hd : isAggDesc y.desc = false) (h : LdOk H p v := by first | exact .inl ⟨_, _, rfl, by first | rfl | assumption | exact fgetN (α := BitVec 64) 0 (by omega) | exact fgetN (α := Int) 0 (by omega)⟩ | exact .inr ⟨_, _, _, _, rfl, by first | exact get_app rfl rfl | exact get_out (by assumption) | exact getE0 rfl rfl | exact get_out (get_app rfl rfl) | exact get_app rfl (by assumption) | assumption | (simp only [List.append_assoc, List.singleton_append, List.cons_append, List.nil_append]; refine getE (i := 0) rfl ?_ rfl; simp; done) | (simp only [List.append_assoc, List.singleton_append, List.cons_append, List.nil_append]; refine getE (i := 1) rfl ?_ rfl; simp; done) | (simp only [List.append_assoc, List.singleton_append, List.cons_append, List.nil_append]; refine getE (i := 2) rfl ?_ rfl; simp; done) | (simp only [List.append_assoc, List.singleton_append, List.cons_append, List.nil_append]; refine getE (i := 3) rfl ?_ rfl; simp; done) | (simp [*]; done), by first | rfl | assumption | exact fgetN (α := BitVec 64) 0 (by omega) | exact fgetN (α := Int) 0 (by omega)⟩) : vop T ρ H op = some (v, H) := v_ld ho ha hy hd h
theorem W3h {P : Prop} (h : P := by first | exact ⟨by rw [wrd_f (by assumption)], rfl⟩ | exact ⟨by rw [wrd_w (by omega)], rfl⟩) : P := h
theorem W3i {T : TypeId → Option VTy} {H : VHeap} {op : Op} {ρ : Operand → VVal} {t : TypeId} {a : Operand} {y : VTy} {p : VVal} {n : Nat} {vs : List VVal} (ho : op = .load t a) (ha : ρ a = p) (hy : T t = some y) (hd : isAggDesc y.desc = true) (hn : y.size = n) (h : LdOkA H p n vs := by first | exact .inl ⟨_, _, rfl, by first | rfl | assumption | exact fgetN (α := BitVec 64) 0 (by omega) | exact fgetN (α := Int) 0 (by omega)⟩ | exact .inr ⟨_, _, _, _, rfl, by first | exact get_app rfl rfl | exact get_out (by assumption) | exact getE0 rfl rfl | exact get_out (get_app rfl rfl) | exact get_app rfl (by assumption) | assumption | (simp only [List.append_assoc, List.singleton_append, List.cons_append, List.nil_append]; refine getE (i := 0) rfl ?_ rfl; simp; done) | (simp only [List.append_assoc, List.singleton_append, List.cons_append, List.nil_append]; refine getE (i := 1) rfl ?_ rfl; simp; done) | (simp only [List.append_assoc, List.singleton_append, List.cons_append, List.nil_append]; refine getE (i := 2) rfl ?_ rfl; simp; done) | (simp only [List.append_assoc, List.singleton_append, List.cons_append, List.nil_append]; refine getE (i := 3) rfl ?_ rfl; simp; done) | (simp [*]; done), by first | rfl | assumption | exact fgetN (α := BitVec 64) 0 (by omega) | exact fgetN (α := Int) 0 (by omega)⟩) : vop T ρ H op = some (.agg vs, H) := v_ldA ho ha hy hd hn h
theorem W3j {P : Prop} (h : P := by first | exact ⟨by rw [hds_p (by assumption)], rfl⟩ | exact ⟨by rw [hds_len (by omega)], rfl⟩ | exact ⟨by rw [hds_bad (k := k) hul (by omega) (by assumption)], rfl⟩ | (obtain rfl : k = us.length := by omega); exact ⟨by rw [hds_end hpk hul hfu, beq_d]; exact dec_d (by omega), rfl⟩) : P := h
theorem flk_2 {u f x : Int} {w : BitVec 64} (h : x < 0 ∨ u ≤ x) : flk u f w x = 2 := if_pos h
theorem flk_3 {u f x : Int} {w : BitVec 64} (h : ¬ (x < 0 ∨ u ≤ x)) (h2 : 0 ≤ f) (h3 : ¬ f = x) : flk u f w x = 3 := by unfold flk; rw [if_neg h, if_pos ⟨h2, h3⟩]
theorem flk_4 {u f x : Int} {w : BitVec 64} (h : ¬ (x < 0 ∨ u ≤ x)) (h2 : f < 0) (h3 : w.getLsbD x.toNat = false) : flk u f w x = 4 := by unfold flk; rw [if_neg h, if_neg (by omega), if_pos ⟨h2, h3⟩]
theorem flk_0a {u f x : Int} {w : BitVec 64} (h : ¬ (x < 0 ∨ u ≤ x)) (h2 : 0 ≤ f) (h3 : f = x) : flk u f w x = 0 := by unfold flk; rw [if_neg h, if_neg (by omega), if_neg (by omega)]
theorem flk_0b {u f x : Int} {w : BitVec 64} (h : ¬ (x < 0 ∨ u ≤ x)) (h2 : f < 0) (h3 : w.getLsbD x.toNat = true) : flk u f w x = 0 := by unfold flk; rw [if_neg h, if_neg (by omega), if_neg (by rw [h3]; simp)]
theorem flU_no {p : Pb} {l : List Int} {n : Nat} (h : flk p.users (p.fixed.getD n 0) (p.who.getD n 0) (l.getD n 0) = 0) : flU p l (n + 1) = flU p l n := by rw [flU_succ, if_pos h, List.append_nil]
theorem flw_len {p : Pb} {l : List Int} (h : ¬ l.length = p.who.length) : flw p l = [(1, 0, 0)] := if_pos h
theorem flw_in {p : Pb} {l : List Int} (h : l.length = p.who.length) : flw p l = flU p l l.length ++ flR (brk p.rules l) := if_neg (by simpa using h)
theorem flR_len {b : List Int} : (flR b).length = b.length := List.length_map _
section
variable {T : TypeId → Option VTy} {ρ : Operand → VVal} {H : VHeap} {op : Op}
end
def wrd (p : Pb) (i : Nat) : BitVec 64 := if 0 ≤ p.fixed.getD i 0 then 1#64 <<< (p.fixed.getD i 0).toNat else p.who.getD i 0
theorem wrd_f {p : Pb} {i : Nat} (h : 0 ≤ p.fixed.getD i 0) : wrd p i = 1#64 <<< (p.fixed.getD i 0).toNat := if_pos h
theorem wrd_w {p : Pb} {i : Nat} (h : p.fixed.getD i 0 < 0) : wrd p i = p.who.getD i 0 := if_neg (by omega)
theorem one_shl {n k : Nat} : (1#64 <<< n).getLsbD k = (decide (k = n) && decide (k < 64)) := by
  rw [BitVec.getLsbD_shiftLeft, BitVec.getLsbD_one]
  by_cases h : k = n
  · subst h; simp
  · by_cases h2 : k < n
    · simp [h, h2]
    · have : ¬ k - n = 0 := by omega
      simp [h, this]
theorem high_bit {w : BitVec 64} {u k : Nat} (h : w >>> u = 0#64) (hk : u ≤ k) : w.getLsbD k = false := by
  have : (w >>> u).getLsbD (k - u) = false := by rw [h]; simp
  rw [BitVec.getLsbD_ushiftRight] at this
  rwa [show u + (k - u) = k by omega] at this
theorem has_flk {p : Pb} {i : Nat} {u : Int} (g : Go.V.Good p) (hi : i < p.who.length) : (decide (0 ≤ u ∧ u < 64) && (wrd p i).getLsbD u.toNat) = decide (flk p.users (p.fixed.getD i 0) (p.who.getD i 0) u = 0) := by
  have hok := g.ok i hi
  unfold okW at hok
  rw [Bool.and_eq_true, decide_eq_true_eq, decide_eq_true_eq] at hok
  have g2 := g.u64; have g4 := g.u0
  by_cases hu : u < 0 ∨ p.users ≤ u
  · rw [flk_2 hu, show decide ((2 : Int) = 0) = false from rfl]
    by_cases h0 : 0 ≤ u ∧ u < 64
    · rw [decide_eq_true h0, Bool.true_and]
      by_cases hf : 0 ≤ p.fixed.getD i 0
      · rw [wrd_f hf, one_shl, decide_eq_false (by omega), Bool.false_and]
      · rw [wrd_w (by omega)]
        exact high_bit hok.2 (by omega)
    · rw [decide_eq_false h0, Bool.false_and]
  · rw [decide_eq_true (by omega : 0 ≤ u ∧ u < 64), Bool.true_and]
    by_cases hf : 0 ≤ p.fixed.getD i 0
    · rw [wrd_f hf, one_shl, show decide (u.toNat < 64) = true from decide_eq_true (by omega), Bool.and_true]
      by_cases e : p.fixed.getD i 0 = u
      · rw [flk_0a hu hf e, decide_eq_true (by omega)]; rfl
      · rw [flk_3 hu hf e, decide_eq_false (by omega)]; rfl
    · rw [wrd_w (by omega)]
      cases hb : (p.who.getD i 0).getLsbD u.toNat with
      | true => rw [flk_0b hu (by omega) hb]; rfl
      | false => rw [flk_4 hu (by omega) hb]; rfl
def hds (p : Pb) (us : List Int) : Bool := decide (pck p = 0) && decide (flw p us = [])
theorem flU_mono {p : Pb} {us : List Int} {k n : Nat} (h : k ≤ n) (hn : flU p us n = []) : flU p us k = [] := by
  induction n with
  | zero => obtain rfl : k = 0 := by omega
            exact hn
  | succ n ih =>
    by_cases e : k = n + 1
    · subst e; exact hn
    · rw [flU_succ] at hn
      exact ih (by omega) (List.append_eq_nil_iff.1 hn).1
theorem hds_len {p : Pb} {us : List Int} (h : ¬ us.length = p.who.length) : hds p us = false := by unfold hds; rw [flw_len h]; simp
theorem hds_p {p : Pb} {us : List Int} (h : ¬ pck p = 0) : hds p us = false := by unfold hds; rw [decide_eq_false h, Bool.false_and]
theorem hds_bad {p : Pb} {us : List Int} {k : Nat} (hl : us.length = p.who.length) (hk : k < us.length) (h : ¬ flk p.users (p.fixed.getD k 0) (p.who.getD k 0) (us.getD k 0) = 0) : hds p us = false := by
  unfold hds
  have h2 : ¬ (flU p us us.length ++ flR (brk p.rules us)) = [] := fun e => by
    have h1 := flU_mono (k := k + 1) (by omega) (List.append_eq_nil_iff.1 e).1
    rw [flU_succ, if_neg h] at h1
    exact absurd (List.append_eq_nil_iff.1 h1).2 (by simp)
  rw [flw_in hl, decide_eq_false h2, Bool.and_false]
theorem hds_end {p : Pb} {us : List Int} (hp : pck p = 0) (hl : us.length = p.who.length) (h : flU p us us.length = []) : hds p us = decide ((brk p.rules us).length = 0) := by
  unfold hds
  rw [decide_eq_true hp, Bool.true_and, flw_in hl, h, List.nil_append]
  refine decide_eq_decide.2 ⟨fun e => ?_, fun e => ?_⟩
  · have := congrArg List.length e; rw [flR_len] at this; exact this
  · exact List.eq_nil_of_length_eq_zero (by rw [flR_len]; exact e)
theorem Word_spec {x : SW} (H : VHeap) (p : Pb) (i : Nat) (h1 : i < p.fixed.length) (h2 : i < p.who.length) : F (psys x) 46 [.agg (pbB p), iI (i : Nat)] H fun v G => v = iW (wrd p i) ∧ G = H := by
 refine F_body Tryd.func46 rfl u20 rfl ?_
 refine B_seq (B_region ?_)
 refine Lo u20 (v_boxT rfl rfl rfl) ?_
 refine Lo u20 (v_const (VVal.int .u64 0) (.inr rfl) rfl) ?_
 refine L_nil (K_seq (B_seq (B_seq (B_region ?_))))
 refine Lo u20 (rfl) ?_
 refine Lo u20 (W3e rfl rfl rfl rfl) ?_
 refine Lo u20 (v_move (.inl rfl) rfl) ?_
 refine Lo u20 (W18 rfl rfl rfl rfl rfl rfl rfl) ?_
 refine Lo u20 (W3e rfl rfl rfl rfl) ?_
 refine Lo u20 (v_move (.inr rfl) rfl) ?_
 refine L_nil (K_seq (B_seq (B_region ?_)))
 refine Lo u20 (v_move (.inl rfl) rfl) ?_
 refine Lo u20 (rfl) ?_
 refine L_nil (K_seq ?_)
 refine B_cond _ rfl (fun hc1 => ?_) (fun hc1 => ?_)
 ·try simp only [qB, qN] at hc1
  refine B_seq (B_region ?_)
  refine Lo u20 (v_move (.inl rfl) rfl) ?_
  refine Lo u20 (v_shl1 rfl rfl rfl (by first | assumption | omega | (simp [*]; done) | (simp at *; omega))) ?_
  refine Lo u20 (v_move (.inr rfl) rfl) ?_
  refine L_nil (K_seq (B_ret (K_seqR ?_)))
  refine W10 (.inr rfl) (vres_tmp rfl rfl) ?_
  exact W3h
 ·try simp only [qB, qN] at hc1
  refine B_skip (K_seq (B_seq (B_region ?_)))
  refine Lo u20 (rfl) ?_
  refine Lo u20 (W3e rfl rfl rfl rfl) ?_
  refine Lo u20 (v_move (.inl rfl) rfl) ?_
  refine Lo u20 (W18 rfl rfl rfl rfl rfl rfl rfl) ?_
  refine Lo u20 (W3e rfl rfl rfl rfl) ?_
  refine Lo u20 (v_move (.inr rfl) rfl) ?_
  refine L_nil (K_seq (B_ret ?_))
  refine W10 (.inr rfl) (vres_tmp rfl rfl) ?_
  exact W3h
theorem Holds_spec {x : SW} (H : VHeap) (p : Pb) (us : List Int) (hp : PbL p) (hu : us.length ≤ 1000000) : F (psys x) 16 [.agg (pbB p), fzI us] H fun v G => v = .bool (hds p us) ∧ G = H := by
 have hp1 := hp.u; have hp2 := hp.w; have hp3 := hp.f; have hp4 := hp.r
 refine F_body Tryd.func16 rfl u39 rfl ?_
 refine B_seq (B_region ?_)
 refine Lo u39 (v_boxT rfl rfl rfl) ?_
 refine Lo u39 (v_const (VVal.bool false) (.inr rfl) rfl) ?_
 refine L_nil (K_seq (B_seq (B_seq (B_region ?_))))
 refine Lo u39 (W3i rfl rfl rfl rfl rfl) ?_
 refine L_call rfl rfl rfl (by exact sCheck_spec _ _ hp) ?_
 rintro _ _ ⟨rfl, rfl⟩
 refine Le u39 ?_
 refine Lo u39 (rfl) ?_
 refine Lo u39 (v_move (.inl rfl) rfl) ?_
 refine L_split 10 (env1 := u39) (env2 := u39) rfl rfl rfl (fun hg1 => ?_) (fun hg1 => ?_)
 ·try simp only [qB, qN] at hg1
  refine Lf u39 ?_
  refine Lf u39 ?_
  refine Lf u39 ?_
  refine Lf u39 ?_
  refine Lf u39 ?_
  refine Lf u39 ?_
  refine Lo u39 (v_pickTC (VVal.bool true) rfl rfl rfl) ?_
  refine L_nil (K_seq ?_)
  refine B_true rfl rfl ?_
  refine B_seq (B_region ?_)
  refine Lo u39 (v_const (VVal.bool false) (.inr rfl) rfl) ?_
  refine L_nil (K_seq (B_ret (K_seqR ?_)))
  refine W10 (.inr rfl) (vres_tmp rfl rfl) ?_
  exact W3j
 ·try simp only [qB, qN] at hg1
  refine Lo u39 (v_move (.inl rfl) rfl) ?_
  refine Lo u39 (rfl) ?_
  refine Lo u39 (rfl) ?_
  refine Lo u39 (W3e rfl rfl rfl rfl) ?_
  refine Lo u39 (rfl) ?_
  refine Lo u39 (rfl) ?_
  refine Lo u39 (v_pickF rfl rfl rfl) ?_
  refine L_nil (K_seq ?_)
  refine B_cond _ rfl (fun hc2 => ?_) (fun hc2 => ?_)
  ·try simp only [qB, qN] at hc2
   refine B_seq (B_region ?_)
   refine Lo u39 (v_const (VVal.bool false) (.inr rfl) rfl) ?_
   refine L_nil (K_seq (B_ret (K_seqR ?_)))
   refine W10 (.inr rfl) (vres_tmp rfl rfl) ?_
   exact W3j
  ·try simp only [qB, qN] at hc2
   refine B_skip (K_seq (B_seq (B_seq ?_)))
   have hpk : pck p = 0 := by assumption
   have g : Go.V.Good p := pck_good.1 hpk
   have hul : us.length = p.who.length := by omega
   have g5 := g.fx
   refine B_region ?_
   refine Lo u39 (v_move (.inl rfl) rfl) ?_
   refine Lo u39 (rfl) ?_
   refine Lo u39 (v_const (VVal.int .i64 0) (.inl rfl) rfl) ?_
   refine L_nil (K_seq (B_block ?_))
   refine B_clear (mk 39 549753978873) (env' := u39) rfl ?_
   refine B_loopE (fun (k : Nat) => us.length - k) (fun (k : Nat) => [(20, iI (k : Nat))]) (fun (k : Nat) G => (k ≤ us.length ∧ flU p us k = []) ∧ G = H ++ [VBlk.cells (pbB p) true]) 0 rfl ?_ ?_
   ·refine ⟨?_, rfl⟩
    exact ⟨Nat.zero_le _, rfl⟩
   rintro k _ ⟨⟨hk, hfu⟩, rfl⟩
   refine B_env (env' := u39) rfl ?_
   refine B_seq (B_region ?_)
   refine Lo u39 (rfl) ?_
   refine L_nil (K_seq (B_seq ?_))
   refine B_cond _ rfl (fun hc3 => ?_) (fun hc3 => ?_)
   ·try simp only [qB, qN] at hc3
    refine B_skip (K_seq (B_seq (B_block (B_seq (B_region ?_)))))
    refine Lo u39 (v_move (.inl rfl) rfl) ?_
    refine Lo u39 (W18 rfl rfl rfl rfl rfl rfl rfl) ?_
    refine Lo u39 (W3e rfl rfl rfl rfl) ?_
    refine Lo u39 (v_move (.inr rfl) rfl) ?_
    refine Lo u39 (v_move (.inr rfl) rfl) ?_
    refine L_nil (K_seq (B_seq (B_region ?_)))
    refine Lo u39 (W3i rfl rfl rfl rfl rfl) ?_
    refine Lo u39 (v_move (.inl rfl) rfl) ?_
    refine L_call rfl rfl rfl (by exact Word_spec _ _ _ (by omega) (by omega)) ?_
    rintro _ _ ⟨rfl, rfl⟩
    refine Le u39 ?_
    refine L_call rfl rfl rfl (by exact sset_spec _ _) ?_
    rintro _ _ ⟨rfl, rfl⟩
    refine Le u39 ?_
    refine Lo u39 (v_move (.inl rfl) rfl) ?_
    refine L_call rfl rfl rfl (by exact Has_spec _ _ _) ?_
    rintro v _ ⟨hv, rfl⟩; obtain rfl : v = .bool (decide (flk p.users (p.fixed.getD k 0) (p.who.getD k 0) (us.getD k 0) = 0)) := hv.trans (by rw [has_flk g (by omega)])
    refine Le u39 ?_
    refine Lo u39 (rfl) ?_
    refine L_nil (K_seq ?_)
    refine B_cond _ rfl (fun hc4 => ?_) (fun hc4 => ?_)
    ·try simp only [qB, qN] at hc4
     refine B_seq (B_region ?_)
     refine Lo u39 (v_const (VVal.bool false) (.inr rfl) rfl) ?_
     refine L_nil (K_seq (B_ret (K_blkR (K_seqR (K_loopR (K_blkR (K_seqR ?_)))))))
     refine W10 (.inr rfl) (vres_tmp rfl rfl) ?_
     exact W3j
    ·try simp only [qB, qN] at hc4
     refine B_skip (K_blk (K_seq (B_region ?_)))
     refine Lo u39 (W14 rfl rfl rfl) ?_
     refine Lo u39 (v_move (.inl rfl) rfl) ?_
     refine L_nil ?_
     refine K_loop (mk 39 549753978873) (env' := u39) rfl ⟨k + 1, ?_, rfl, ?_⟩
     ·first | omega | (simp only []; omega)
     ·exact ⟨⟨by omega, by rw [flU_no (by assumption)]; exact hfu⟩, rfl⟩
   ·try simp only [qB, qN] at hc3
    refine B_exit (K_seqX (K_loopX (K_blkX (K_seq (B_seq (B_region ?_))))))
    refine Lo u39 (rfl) ?_
    refine Lo u39 (W3e rfl rfl rfl rfl) ?_
    refine Lo u39 (v_move (.inl rfl) rfl) ?_
    refine L_call rfl rfl rfl (by exact Broken_spec _ _ _ hp.s (by omega)) ?_
    rintro _ _ ⟨rfl, rfl⟩
    refine Le u39 ?_
    refine Lo u39 (rfl) ?_
    refine Lo u39 (rfl) ?_
    refine Lo u39 (v_move (.inr rfl) rfl) ?_
    refine L_nil (K_seq (B_ret ?_))
    refine W10 (.inr rfl) (vres_tmp rfl rfl) ?_
    exact W3j
end Go.Proofs.YtnbihdflnjpinaaDoor.VT

set_option autoImplicit false
set_option linter.unusedVariables false
set_option linter.unusedSimpArgs false
set_option maxHeartbeats 4000000
set_option maxRecDepth 100000
namespace Go.Proofs.YtnbihdflnjpinaaDoor.VT
open Go Go.V Go.RowKit
def wsP (p : Pb) : List (BitVec 64) := (List.range p.who.length).map (wrd p)
theorem wsP_len {p : Pb} : (wsP p).length = p.who.length := by unfold wsP; simp
theorem wsP_take {p : Pb} {k : Nat} (h : k < p.who.length) : (wsP p).take (k + 1) = (wsP p).take k ++ [wrd p k] := by
  rw [take_at (d := 0) (by rw [wsP_len]; exact h)]
  congr 2
  unfold wsP
  rw [List.getD_eq_getElem?_getD, List.getElem?_map, List.getElem?_range h]; rfl
abbrev nwB (u : Int) (n y b : Nat) (wv : VVal) (vs : List VVal) : VHeap := [.dead, .cells vs true, .cells [iI u, wv, .slice (some (b, 0)) n n true 1, .ptr (some (y, 0))] true]
theorem rep1 (v : VVal) : ∀ n : Nat, repeatCells [v] n = List.replicate n v
  | 0 => rfl
  | n + 1 => by rw [List.replicate_succ, ← rep1 v n]; rfl
theorem vget {l : List VVal} {k : Nat} (h : k < l.length) : l[0 + k * 1]? = some (l.getD k .skip) := by
  rw [show 0 + k * 1 = k by omega, List.getD_eq_getElem?_getD, List.getElem?_eq_getElem h]; rfl
theorem rck_in {n : Int} {r : Rul} (h : rck n r = true) {s : Nat} (hs : s < r.steps.length) : 0 ≤ r.steps.getD s 0 ∧ r.steps.getD s 0 < n := by
  unfold rck at h
  rw [Bool.and_eq_true, Bool.and_eq_true] at h
  have := riseA_mem _ _ h.2.1 _ (mem_getI hs)
  omega
theorem spl_v {l : List VVal} {k : Nat} {w : VVal} (h : k < l.length) : splice l (0 + k * 1) [w] = l.set k w := by
  rw [show 0 + k * 1 = k by omega]
  unfold splice
  rw [List.set_eq_take_append_cons_drop, if_pos h]; simp
end Go.Proofs.YtnbihdflnjpinaaDoor.VT

set_option autoImplicit false
set_option linter.unusedVariables false
set_option linter.unusedSimpArgs false
set_option maxHeartbeats 4000000
set_option maxRecDepth 100000
namespace Go.Proofs.YtnbihdflnjpinaaDoor.VT
open Go Go.V Go.RowKit
abbrev u72 {a0 a1 a2 a3 a4 a5 a6 a7 a8 a9 a10 a11 a12 a13 a14 a15 a16 a17 a18 a19 a20 a21 a22 a23 a24 a25 a26 a27 a28 a29 a30 a31 a32 a33 a34 a35 a36 a37 a38 a39 a40 a41 a42 a43 a44 a45 a46 a47 a48 a49 a50 a51 a52 a53 a54 a55 a56 a57 a58 a59 a60 a61 a62 a63 a64 a65 a66 a67 a68 a69 a70 a71 : VVal} : VEnv := a0 :: a1 :: a2 :: a3 :: a4 :: a5 :: a6 :: a7 :: a8 :: a9 :: a10 :: a11 :: a12 :: a13 :: a14 :: a15 :: a16 :: a17 :: a18 :: a19 :: a20 :: a21 :: a22 :: a23 :: a24 :: a25 :: a26 :: a27 :: a28 :: a29 :: a30 :: a31 :: a32 :: a33 :: a34 :: a35 :: a36 :: a37 :: a38 :: a39 :: a40 :: a41 :: a42 :: a43 :: a44 :: a45 :: a46 :: a47 :: a48 :: a49 :: a50 :: a51 :: a52 :: a53 :: a54 :: a55 :: a56 :: a57 :: a58 :: a59 :: a60 :: a61 :: a62 :: a63 :: a64 :: a65 :: a66 :: a67 :: a68 :: a69 :: a70 :: a71 :: []
theorem W3r {T : TypeId → Option VTy} {H : VHeap} {op : Op} {ρ : Operand → VVal} {t : TypeId} {a : Operand} {y : VTy} {p v : VVal} (ho : op = .load t a) (ha : ρ a = p) (hy : T t = some y) (hd : isAggDesc y.desc = false) (h : LdOk H p v := by first | exact .inl ⟨_, _, rfl, by exact vget (by rw [hlen]; exact hi)⟩ | exact .inr ⟨_, _, _, _, rfl, by exact getB rfl rfl, by exact vget (by rw [hlen]; exact hi)⟩) : vop T ρ H op = some (v, H) := v_ld ho ha hy hd h
theorem W3s {T : TypeId → Option VTy} {H : VHeap} {op : Op} {ρ : VEnv} {H' : VHeap} {t : TypeId} {a : Operand} {i : Nat} {v : VVal} {y : VTy} {b off : Nat} {cs new : List VVal} (ho : op = .store t a (.tmp i)) (hv : ρ[i]? = some v) (ha : ρ.eval a = .ptr (some (b, off))) (hy : T t = some y) (hx : v.cells = some new) (hn : new.length = y.size) (h1 : new.all VVal.one = true) (hb : H[b]? = some (.cells cs true) := by exact getB rfl rfl) (hl : off + new.length ≤ cs.length := by show 0 + _ * 1 + 1 ≤ vs.length; omega) (hH : H.set b (.cells (splice cs off new) true) = H' := by exact (setB rfl (show 1 < 3 from by decide)).trans (by show H ++ List.set _ 1 (VBlk.cells (splice vs (0 + ((p.rules.getD m r0).steps.getD s 0).toNat * 1) [_]) true) ++ _ = _; rw [spl_v (by rw [hlen]; exact hi)])) : vop T ρ.eval H op = some (.skip, H') := v_storeT ho hv ha hy hx hn h1 hb hl hH
theorem W3t {S : V.Sys} {H : VHeap} {fn : Func} {ex : Exit} {env : VEnv} {B L : VHeap} {v : VVal} {R : VVal → VHeap → Prop} (hx : ex = .normal ∨ ex = .ret) (hv : vresults S.C.T env (B ++ L) fn.results = some v) (h : R v B) (hB : BaseOk H B := by exact BaseOk.refl _) (hu : v.under H.length = true := by exact huUnder hy _ _ _) : fnK S fn H R ex env (B ++ L) := E_app hx hv hB hu h
theorem New_spec {x : SW} (H : VHeap) (p : Pb) (y : Nat) (hy : y < H.length) (g : Go.V.Good p) : F (psys x) 51 [.agg (pbB p), .ptr (some (y, 0))] H fun v G => v = huP p.users (fzW (wsP p)) (fzRR (rssP p)) y ∧ G = H := by
 have g1 := g.n12; have g3 := g.r32; have g5 := g.fx
 have gs := fun r hr => rck_len (g.ru r hr)
 refine F_body Tryd.func51 rfl u72 rfl ?_
 refine B_seq (B_region ?_)
 refine Lo u72 (v_boxT rfl rfl rfl) ?_
 refine Lo u72 (v_const (VVal.ptr none) (.inr rfl) rfl) ?_
 refine L_nil (K_seq (B_seq ?_))
 refine B_gh (Gh.freezePtrL (cs := pbB p) 2 0 rfl rfl rfl) ?_
 refine B_draw [0, 1, 2, 3, 4, 5, 6, 7, 8, 9] #[0, 1, 0, 4, 12, 28, 0, 127, 255, 511] (by kernel_rfl) (by kernel_rfl) (by kernel_rfl) ?_
 refine Oo u72 .calm rfl (rfl) ?_
 refine Oo u72 .look rfl (W39 rfl rfl rfl rfl) ?_
 refine Oo u72 .calm rfl (rfl) ?_
 refine Oo u72 .look rfl (W39 rfl rfl rfl rfl) ?_
 refine Oo u72 .look rfl (rfl) ?_
 refine Oo u72 .grow rfl (v_makeSlice rfl rfl rfl rfl rfl (by decide) ⟨by omega, Int.le_refl _, by show (p.who.length : Int) * (24 : Nat) ≤ _; omega, by omega⟩) ?_
 refine Oo u72 .calm rfl (v_move (.inl rfl) rfl) ?_
 refine Oo u72 .calm rfl (rfl) ?_
 refine Oo u72 .grow rfl (v_boxT rfl rfl rfl) ?_
 refine Oo u72 .calm rfl (v_move (.inr rfl) rfl) ?_
 refine O_nil [] (by kernel_rfl) (trivial) ?_
 refine K_seq (B_seq (B_seq (B_region ?_)))
 refine Lo u72 (rfl) ?_
 refine Lo u72 (W39 rfl rfl rfl rfl) ?_
 refine Lo u72 (rfl) ?_
 refine Lo u72 (v_const (VVal.int .i64 0) (.inl rfl) rfl) ?_
 refine L_nil (K_seq (B_block ?_))
 refine B_clear (mk 72 4722366482869632630747) (env' := u72) rfl ?_
 refine B_loopE (fun (k : Nat) => p.who.length - k) (fun (k : Nat) => [(23, iI (k : Nat))]) (fun (k : Nat) G => (k ≤ p.who.length) ∧ ∃ wv X, G = (H ++ nwB p.users p.who.length y (H.length + 1) wv (List.replicate p.who.length niS)) ++ X ∧ LV (H.length + 3) 1 X wv (((wsP p).take k).map iW) ((wsP p).take k).length) 0 rfl ?_ ?_
 ·refine ⟨?_, ⟨_, [], by rw [List.append_nil, ← rep1]; rfl, LV.nil _ _ _⟩⟩
  exact Nat.zero_le _
 rintro k _ ⟨hk, ⟨wv, X, rfl, hl⟩⟩
 refine B_env (env' := u72) rfl ?_
 refine B_seq (B_region ?_)
 refine Lo u72 (rfl) ?_
 refine L_nil (K_seq (B_seq ?_))
 refine B_cond _ rfl (fun hc1 => ?_) (fun hc1 => ?_)
 ·try simp only [qB, qN] at hc1
  refine B_skip (K_seq (B_seq (B_block (B_seq (B_region ?_)))))
  refine Lo u72 (v_move (.inl rfl) rfl) ?_
  refine Lo u72 (v_move (.inr rfl) rfl) ?_
  refine L_nil (K_seq ?_)
  refine B_draw [0, 1, 2, 3, 4, 5, 6, 7, 8, 9, 10, 11, 12] #[0, 0, 2, 6, 14, 0, 0, 96, 224, 510, 1023, 2047, 4095] (by kernel_rfl) (by kernel_rfl) (by kernel_rfl) ?_
  refine Oo u72 .calm rfl (v_move (.inl rfl) rfl) ?_
  refine Oo u72 .calm rfl (v_move (.inl rfl) rfl) ?_
  refine Oo u72 .calm rfl (rfl) ?_
  refine Oo u72 .calm rfl (rfl) ?_
  refine O_opI (env' := u72) (x := .look _ _) rfl rfl rfl (W39 rfl rfl rfl rfl) rfl rfl rfl ?_
  refine Oo u72 .look rfl (W3d rfl rfl rfl rfl rfl) ?_
  refine Oo u72 .calm rfl (v_move (.inl rfl) rfl) ?_
  refine O_call (env' := u72) rfl rfl rfl rfl rfl (by exact Word_spec _ _ _ (by omega) (by omega)) (by first | exact Nat.le_refl _ | simp) rfl rfl ?_
  refine Oo u72 .grow rfl (v_buildSlice rfl rfl (by decide) rfl) ?_
  refine O_opX .turn rfl rfl rfl (v_appXh rfl rfl rfl rfl rfl rfl rfl (by simp) hl rfl rfl (by decide) (by rw [List.length_take]; show (_ + 1) * 8 ≤ _ ∧ _ + 1 ≤ _; omega) (by decide)) rfl rfl ?_
  rintro _ _ ⟨Y1, rfl, rfl, hY1, hY2, hY3⟩
  refine O_env (env' := u72) rfl ?_
  refine Oo u72 .calm rfl (rfl) ?_
  refine Oo u72 .calm rfl (rfl) ?_
  refine Oo u72 .turn rfl (W13 rfl rfl rfl rfl rfl rfl rfl) ?_
  refine O_nil [_] (by rfl) (And.intro (And.intro (W39 rfl rfl rfl rfl) (W39 rfl rfl rfl rfl)) trivial) ?_
  refine K_blk (K_seq (B_region ?_))
  refine Lo u72 (W14 rfl rfl rfl) ?_
  refine Lo u72 (v_move (.inl rfl) rfl) ?_
  refine L_nil ?_
  refine K_loop (mk 72 4722366482869632630747) (env' := u72) rfl ⟨k + 1, ?_, rfl, ?_⟩
  ·first | omega | (simp only []; omega)
  ·exact ⟨by omega, _, _, rfl, by rw [wsP_take (by omega)]; exact LV.pushW hY3⟩
 ·try simp only [qB, qN] at hc1
  refine B_exit (K_seqX (K_loopX (K_blkX (K_seq (B_seq (B_seq ?_))))))
  obtain rfl : k = p.who.length := by omega
  rw [List.take_of_length_le (by rw [wsP_len]; omega)] at hl
  refine B_ghCell 2 1 hl rfl rfl (by simp) fun X1 _ _ => ?_
  refine B_region ?_
  refine Lo u72 (rfl) ?_
  refine Lo u72 (W39 rfl rfl rfl rfl) ?_
  refine Lo u72 (rfl) ?_
  refine Lo u72 (v_const (VVal.int .i64 0) (.inl rfl) rfl) ?_
  refine L_nil (K_seq (B_block ?_))
  refine B_clear (mk 72 4722366475173063819231) (env' := u72) rfl ?_
  refine B_loopE (fun (m : Nat) => p.rules.length - m) (fun (m : Nat) => [(42, iI (m : Nat))]) (fun (m : Nat) G => (m ≤ p.rules.length) ∧ ∃ Z vs, G = (H ++ nwB p.users p.who.length y (H.length + 1) (fzW (wsP p)) vs) ++ Z ∧ RW rlB 3 (H.length + 3) Z vs (addR p.who.length p.rules m)) 0 rfl ?_ ?_
  ·refine ⟨?_, ⟨_, _, rfl, RW.init⟩⟩
   exact Nat.zero_le _
  rintro m _ ⟨hm, ⟨Z, vs, rfl, hr⟩⟩
  refine B_env (env' := u72) rfl ?_
  refine B_seq (B_region ?_)
  refine Lo u72 (rfl) ?_
  refine L_nil (K_seq (B_seq ?_))
  refine B_cond _ rfl (fun hc2 => ?_) (fun hc2 => ?_)
  ·try simp only [qB, qN] at hc2
   refine B_skip (K_seq (B_seq (B_block (B_seq (B_region ?_)))))
   refine Lo u72 (W18 rfl rfl rfl rfl rfl rfl rfl) ?_
   refine Lo u72 (W3d rfl rfl rfl rfl rfl) ?_
   refine Lo u72 (v_alloc rfl rfl) ?_
   refine Lo u72 (W13 rfl rfl rfl rfl rfl rfl rfl) ?_
   refine L_nil (K_seq (B_seq ?_))
   refine B_gh (Gh.freezeEnd (cs := rlB (p.rules.getD m r0)) 8 rfl rfl) ?_
   refine B_region ?_
   refine Lo u72 (rfl) ?_
   refine Lo u72 (W39 rfl rfl rfl rfl) ?_
   refine Lo u72 (rfl) ?_
   refine Lo u72 (v_const (VVal.int .i64 0) (.inl rfl) rfl) ?_
   refine L_nil (K_seq (B_block ?_))
   refine B_clear (mk 72 4722365490010645331679) (env' := u72) rfl ?_
   refine B_loopE (fun (s : Nat) => (p.rules.getD m r0).steps.length - s) (fun (s : Nat) => [(49, iI (s : Nat))]) (fun (s : Nat) G => (s ≤ (p.rules.getD m r0).steps.length) ∧ ∃ Z vs, G = (H ++ nwB p.users p.who.length y (H.length + 1) (fzW (wsP p)) vs) ++ Z ∧ RW rlB 3 (H.length + 3) Z vs (addS (p.rules.getD m r0) (addR p.who.length p.rules m) s)) 0 rfl ?_ ?_
   ·refine ⟨?_, ⟨_, vs, rfl, hr.app _⟩⟩
    exact Nat.zero_le _
   rintro s _ ⟨hs, ⟨Z, vs, rfl, hr⟩⟩
   refine B_env (env' := u72) rfl ?_
   refine B_seq (B_region ?_)
   refine Lo u72 (rfl) ?_
   refine L_nil (K_seq (B_seq ?_))
   refine B_cond _ rfl (fun hc3 => ?_) (fun hc3 => ?_)
   ·try simp only [qB, qN] at hc3
    refine B_skip (K_seq (B_seq (B_block (B_seq (B_region ?_)))))
    refine Lo u72 (W18 rfl rfl rfl rfl rfl rfl rfl) ?_
    refine Lo u72 (W39 rfl rfl rfl rfl) ?_
    refine Lo u72 (v_move (.inr rfl) rfl) ?_
    refine L_nil (K_seq ?_)
    have hin := rck_in (g.ru _ (rul_mem (l := p.rules) (k := m) (by omega))) (s := s) (by omega)
    have hlen := hr.len
    have hi : ((p.rules.getD m r0).steps.getD s 0).toNat < (addS (p.rules.getD m r0) (addR p.who.length p.rules m) s).length := by rw [addS_len, addR_len]; omega
    have hv9 := hr.lv _ hi
    have hb1 := @addS_row (p.rules.getD m r0) (addR p.who.length p.rules m) ((p.rules.getD m r0).steps.getD s 0).toNat s
    have hb2 := addR_row (n := p.who.length) (i := ((p.rules.getD m r0).steps.getD s 0).toNat) gs (m := m) (by omega)
    have hb3 := gs _ (rul_mem (l := p.rules) (k := m) (by omega))
    refine B_draw [0, 1, 2, 3, 4, 5, 6, 7, 8, 9, 10, 11, 12, 13, 14, 15, 16] #[0, 1, 3, 7, 0, 0, 32, 96, 224, 0, 992, 2016, 0, 4096, 16352, 32767, 65535] (by kernel_rfl) (by kernel_rfl) (by kernel_rfl) ?_
    refine Oo u72 .calm rfl (v_move (.inl rfl) rfl) ?_
    refine Oo u72 .calm rfl (rfl) ?_
    refine Oo u72 .calm rfl (rfl) ?_
    refine O_opI (env' := u72) (x := .look _ _) rfl rfl rfl (W39 rfl rfl rfl rfl) rfl rfl rfl ?_
    refine Oo u72 .calm rfl (v_move (.inl rfl) rfl) ?_
    refine Oo u72 .calm rfl (v_move (.inl rfl) rfl) ?_
    refine Oo u72 .calm rfl (rfl) ?_
    refine Oo u72 .calm rfl (rfl) ?_
    refine Oo u72 .look rfl (W39 rfl rfl rfl rfl) ?_
    refine Oo u72 .calm rfl (v_move (.inl rfl) rfl) ?_
    refine Oo u72 .calm rfl (W26 rfl rfl rfl rfl rfl rfl rfl) ?_
    refine Oo u72 .look rfl (W3r rfl rfl rfl rfl) ?_
    refine Oo u72 .look rfl (W3d rfl rfl rfl rfl rfl) ?_
    refine Oo u72 .grow rfl (v_buildSlice rfl rfl (by decide) rfl) ?_
    refine O_opXI (fun _ G => .turn _ G) rfl rfl rfl (v_appXh rfl rfl rfl rfl rfl rfl rfl (by simp) hv9 rfl rfl (by decide) (by show (_ + 1) * 40 ≤ _ ∧ _ + 1 ≤ _; omega) (by decide)) (fun _ _ => rfl) ?_
    rintro _ _ ⟨Y1, rfl, rfl, hY1, hY2, hY3⟩
    refine O_env (env' := u72) rfl ?_
    refine Oo u72 .calm rfl (W26 rfl rfl rfl rfl rfl rfl rfl) ?_
    refine Oo u72 .turn rfl (W3s rfl rfl rfl rfl rfl rfl rfl) ?_
    refine O_nil [_] (by rfl) (And.intro (And.intro (W39 rfl rfl rfl rfl) (W39 rfl rfl rfl rfl)) trivial) ?_
    refine K_blk (K_seq (B_region ?_))
    refine Lo u72 (W14 rfl rfl rfl) ?_
    refine Lo u72 (v_move (.inl rfl) rfl) ?_
    refine L_nil ?_
    refine K_loop (mk 72 4722365490010645331679) (env' := u72) rfl ⟨s + 1, ?_, rfl, ?_⟩
    ·first | omega | (simp only []; omega)
    ·exact ⟨by omega, _, _, rfl, RW.step hr hi hY2 hY3⟩
   ·try simp only [qB, qN] at hc3
    refine B_exit (K_seqX (K_loopX (K_blkX (K_blk (K_seq (B_region ?_))))))
    refine Lo u72 (W14 rfl rfl rfl) ?_
    refine Lo u72 (v_move (.inl rfl) rfl) ?_
    refine L_nil ?_
    refine K_loop (mk 72 4722366475173063819231) (env' := u72) rfl ⟨m + 1, ?_, rfl, ?_⟩
    ·first | omega | (simp only []; omega)
    ·(obtain rfl : s = (p.rules.getD m r0).steps.length := by omega); exact ⟨by omega, Z, vs, rfl, hr⟩
  ·try simp only [qB, qN] at hc2
   refine B_exit (K_seqX (K_loopX (K_blkX (K_seq (B_seq ?_)))))
   obtain rfl : m = p.rules.length := by omega
   refine B_ghRW 1 hr rfl (by simp) fun Z9 => ?_
   refine B_gh (Gh.cellL (l := (rssP p).map fzR) 2 2 1 rfl rfl (by decide) rfl (cellsAt_all (by rw [List.length_map]; exact addR_len.symm)) (Nat.le_refl _)) ?_
   refine B_gh (Gh.freezePtrL (cs := huC p.users (fzW (wsP p)) (.fsl ((rssP p).map fzR) p.who.length 1 false) y) 5 2 rfl rfl rfl) ?_
   rw [show huC p.users (fzW (wsP p)) (.fsl ((rssP p).map fzR) p.who.length 1 false) y = huC p.users (fzW (wsP p)) (fzRR (rssP p)) y by unfold fzRR; rw [show (rssP p).length = p.who.length from addR_len]]
   refine B_region ?_
   refine Lo u72 (v_move (.inl rfl) rfl) ?_
   refine Lo u72 (v_move (.inr rfl) rfl) ?_
   refine L_nil (K_seq (B_ret ?_))
   refine W3t (.inr rfl) (vres_tmp rfl rfl) ?_
   exact ⟨rfl, rfl⟩
end Go.Proofs.YtnbihdflnjpinaaDoor.VT

set_option autoImplicit false
set_option linter.unusedVariables false
set_option linter.unusedSimpArgs false
set_option maxHeartbeats 4000000
set_option maxRecDepth 100000
namespace Go.Proofs.YtnbihdflnjpinaaDoor.VT
open Go Go.V Go.RowKit
theorem W3u {S : V.Sys} {H : VHeap} {fn : Func} {ex : Exit} {env : VEnv} {B L : VHeap} {v : VVal} {R : VVal → VHeap → Prop} (hx : ex = .normal ∨ ex = .ret) (hv : vresults S.C.T env (B ++ L) fn.results = some v) (h : R v B) (hB : BaseOk H B := by first | exact BaseOk.refl _ | exact BaseOk.set (BaseOk.refl _) _ rfl) (hu : v.under H.length = true := by first | rfl | exact rc_under _ _) : fnK S fn H R ex env (B ++ L) := E_app hx hv hB hu h
theorem Clip_spec {x : SW} (H : VHeap) (us : List Nat) : F (psys x) 117 [fzN us] H fun v G => v = .fsl (rcN us) us.length 1 true ∧ G = H := by
 refine F_body Tryd.func117 rfl u9 rfl ?_
 refine B_seq (B_region ?_)
 refine Lo u9 (v_const (VVal.slice none 0 0 true 0) (.inr rfl) rfl) ?_
 refine L_nil (K_seq (B_seq (B_region ?_)))
 refine Lo u9 (v_move (.inl rfl) rfl) ?_
 refine Lo u9 (v_move (.inl rfl) rfl) ?_
 refine Lo u9 (rfl) ?_
 refine Lo u9 (v_move (.inl rfl) rfl) ?_
 refine Lo u9 (rfl) ?_
 refine Lo u9 (v_clipN rfl rfl rfl rfl rfl rfl rfl rfl) ?_
 refine Lo u9 (v_move (.inr rfl) rfl) ?_
 refine L_nil (K_seq (B_ret ?_))
 refine W3u (.inr rfl) (vres_tmp rfl rfl) ?_
 exact ⟨rfl, rfl⟩
abbrev eaD (r : Bool) : VHeap := [.dead, .dead, .dead, .dead, .dead, .cells [.bool r] true, .dead]
def EaP (y : Nat) (K : Bool → VHeap → Prop) (A L : VHeap) (v : VVal) (G : VHeap) : Prop := ∃ b A1 J, v = .bool b ∧ G = A1 ++ (L ++ J) ∧ A1.length = A.length ∧ K b A1 ∧ (b = true → ∃ g1, A1[y]? = some (gaB g1))
theorem hfull_in {x : SW} {H L : VHeap} {u : Int} {ws rs : VVal} {y : Nat} {g : Gz} (hs : H[y]? = some (gaB g)) (l : List (BitVec 64)) (t : BitVec 64) (hl : l.length ≤ 1000000) : F (psys x) 79 [huP u ws rs y, fzW l, iW t] (H.set y (gaB (g + ⟨0, 1, 0⟩)) ++ L) fun v G =>
    (v = .bool true ∧ fullB l t = true ∧ G = H.set y (gaB (g + (⟨0, 1, 0⟩ + fuG l t))) ++ L) ∨ (v = .bool false ∧ fullB l t = false ∧ G = H.set y (gaB (g + (⟨0, 1, 0⟩ + fuG l t))) ++ L) := by
  have hy := lt_of_get hs
  refine (hfull_spec _ y (g + ⟨0, 1, 0⟩) (get_append (List.getElem?_set_self hy)) l t hl).mono ?_
  rintro v G ⟨rfl, rfl⟩
  rw [set_out (by rw [List.length_set]; exact hy), List.set_set, Gz.assoc]
  cases h : fullB l t
  · exact .inr ⟨rfl, rfl, rfl⟩
  · exact .inl ⟨rfl, rfl, rfl⟩
theorem ea_get {A A1 L Y : VHeap} {n : Nat} {k : VBlk} (hA : A1.length = A.length) (hn : n = (A ++ L).length + 5) (h : Y[5]? = some k) : (A1 ++ (L ++ Y))[n]? = some k := by
  rw [hn, List.length_append, Nat.add_assoc]; exact getE (i := 5) hA rfl h
theorem ea_set {A A1 L Y : VHeap} {n : Nat} {k : VBlk} (hA : A1.length = A.length) (hn : n = (A ++ L).length + 5) : (A1 ++ (L ++ Y)).set n k = A1 ++ (L ++ Y.set 5 k) := by
  rw [hn, List.length_append, Nat.add_assoc]; exact setE (i := 5) hA rfl
theorem set_add0 {A : VHeap} {y : Nat} {g : Gz} (h : A[y]? = some (gaB g)) : A.set y (gaB (g + 0)) = A := by
  rw [Gz.add_zero, ← set_keep h]
theorem ea_end {S : V.Sys} {l y : Nat} {b : Bool} {A1 : VHeap} {K : Bool → VHeap → Prop} (hk : if b = true then (∃ g1, A1[y]? = some (gaB g1)) ∧ IterP S l y [] 0 A1 K else K false A1) : K b A1 ∧ (b = true → ∃ g1, A1[y]? = some (gaB g1)) := by
  cases b with
  | false => exact ⟨hk, fun e => by cases e⟩
  | true =>
    obtain ⟨⟨g2, hg2⟩, hk⟩ := hk
    have h := hk g2 hg2
    rw [set_add0 hg2] at h
    exact ⟨h, fun _ => ⟨g2, hg2⟩⟩
theorem each_in {x : SW} {A Z : VHeap} {y l u : Nat} {hu : VVal} {rows : List (BitVec 64)} {us : List Nat} {t : BitVec 64} {K : Bool → VHeap → Prop} {n c : Nat} (h : F (psys x) 100 [hu, fzW rows, fzN (us ++ [u]), iW t, .yield l] (A ++ (Z ++ [.dead])) (EaP y K A (Z ++ [.dead]))) (hn : n = us.length + 1) (hc : c = n) :
    F (psys x) 100 [hu, fzW rows, .slice (some (A.length + Z.length, 0)) n c false 1, iW t, .yield l] (A ++ (Z ++ [.cells (rcN us ++ [iI (u : Nat)]) true])) (EaP y K A (Z ++ [.dead])) := by
  subst hc; subst hn
  refine F.pre (Gh.freezeL (H := A) (L := Z ++ [.cells (rcN us ++ [iI (u : Nat)]) true]) (l := rcN (us ++ [u])) (vs' := [hu, fzW rows, fzN (us ++ [u]), iW t, .yield l]) 2 Z.length rfl get_end (by rw [← rcN_snoc]; exact cellsAt_all (by simp)) (Nat.le_refl _) (by simp [rcN_snoc])) ?_
  rw [set_end]; exact h
end Go.Proofs.YtnbihdflnjpinaaDoor.VT

set_option autoImplicit false
set_option linter.unusedVariables false
set_option linter.unusedSimpArgs false
set_option maxHeartbeats 4000000
set_option maxRecDepth 100000
namespace Go.Proofs.YtnbihdflnjpinaaDoor.VT
open Go Go.V Go.RowKit
theorem W3v {T : TypeId → Option VTy} {H : VHeap} {op : Op} {ρ : Operand → VVal} {t : TypeId} {a : Operand} {y : VTy} {p v : VVal} (ho : op = .load t a) (ha : ρ a = p) (hy : T t = some y) (hd : isAggDesc y.desc = false) (h : LdOk H p v := by first | exact .inl ⟨_, _, rfl, by first | rfl | assumption⟩ | exact .inr ⟨_, _, _, _, rfl, by first | exact get_app rfl rfl | exact get_out (by assumption) | exact getE0 rfl rfl | exact get_out (get_app rfl rfl) | exact get_app rfl (by assumption) | assumption | (simp only [List.append_assoc, List.singleton_append, List.cons_append, List.nil_append]; refine getE (i := 0) rfl ?_ rfl; simp; done) | (simp only [List.append_assoc, List.singleton_append, List.cons_append, List.nil_append]; refine getE (i := 1) rfl ?_ rfl; simp; done) | (simp only [List.append_assoc, List.singleton_append, List.cons_append, List.nil_append]; refine getE (i := 2) rfl ?_ rfl; simp; done) | (simp only [List.append_assoc, List.singleton_append, List.cons_append, List.nil_append]; refine getE (i := 3) rfl ?_ rfl; simp; done) | (simp [*]; done), by first | rfl | assumption⟩) : vop T ρ H op = some (v, H) := v_ld ho ha hy hd h
theorem W3x {T : TypeId → Option VTy} {H : VHeap} {op : Op} {ρ : VEnv} {H' : VHeap} {t : TypeId} {a : Operand} {i : Nat} {v : VVal} {y : VTy} {b off : Nat} {cs new : List VVal} (ho : op = .store t a (.tmp i)) (hv : ρ[i]? = some v) (ha : ρ.eval a = .ptr (some (b, off))) (hy : T t = some y) (hx : v.cells = some new) (hn : new.length = y.size) (h1 : new.all VVal.one = true) (hb : H[b]? = some (.cells cs true) := by exact ea_get (by assumption) rfl rfl) (hl : off + new.length ≤ cs.length := by first | exact Nat.le_of_ble_eq_true rfl | (simp only [List.length_map, List.length_cons, List.length_nil]; omega) | omega | (simp; done) | (simp; omega)) (hH : H.set b (.cells (splice cs off new) true) = H' := by exact ea_set (by assumption) rfl) : vop T ρ.eval H op = some (.skip, H') := v_storeT ho hv ha hy hx hn h1 hb hl hH
theorem W3z {T : TypeId → Option VTy} {H : VHeap} {op : Op} {ρ : Operand → VVal} {t : TypeId} {a : Operand} {y : VTy} {p v : VVal} (ho : op = .load t a) (ha : ρ a = p) (hy : T t = some y) (hd : isAggDesc y.desc = false) (h : LdOk H p v := by first | exact .inl ⟨_, _, rfl, by exact fgetN (α := BitVec 64) 0 (by omega)⟩ | exact .inr ⟨_, _, _, _, rfl, by first | exact get_app rfl rfl | exact get_out (by assumption) | exact getE0 rfl rfl | exact get_out (get_app rfl rfl) | exact get_app rfl (by assumption) | assumption | (simp only [List.append_assoc, List.singleton_append, List.cons_append, List.nil_append]; refine getE (i := 0) rfl ?_ rfl; simp; done) | (simp only [List.append_assoc, List.singleton_append, List.cons_append, List.nil_append]; refine getE (i := 1) rfl ?_ rfl; simp; done) | (simp only [List.append_assoc, List.singleton_append, List.cons_append, List.nil_append]; refine getE (i := 2) rfl ?_ rfl; simp; done) | (simp only [List.append_assoc, List.singleton_append, List.cons_append, List.nil_append]; refine getE (i := 3) rfl ?_ rfl; simp; done) | (simp [*]; done), by exact fgetN (α := BitVec 64) 0 (by omega)⟩) : vop T ρ H op = some (v, H) := v_ld ho ha hy hd h
theorem W40 {T : TypeId → Option VTy} {H : VHeap} {op : Op} {ρ : Operand → VVal} {t : TypeId} {a : Operand} {y : VTy} {p v : VVal} (ho : op = .load t a) (ha : ρ a = p) (hy : T t = some y) (hd : isAggDesc y.desc = false) (h : LdOk H p v := by first | exact .inl ⟨_, _, rfl, by first | rfl | assumption⟩ | exact .inr ⟨_, _, _, _, rfl, by exact get_append hg1, by first | rfl | assumption⟩) : vop T ρ H op = some (v, H) := v_ld ho ha hy hd h
theorem W41 {T : TypeId → Option VTy} {H : VHeap} {op : Op} {ρ : VEnv} {H' : VHeap} {t : TypeId} {a : Operand} {i : Nat} {v : VVal} {y : VTy} {b off : Nat} {cs new : List VVal} (ho : op = .store t a (.tmp i)) (hv : ρ[i]? = some v) (ha : ρ.eval a = .ptr (some (b, off))) (hy : T t = some y) (hx : v.cells = some new) (hn : new.length = y.size) (h1 : new.all VVal.one = true) (hb : H[b]? = some (.cells cs true) := by exact get_append hg1) (hl : off + new.length ≤ cs.length := by first | exact Nat.le_of_ble_eq_true rfl | (simp only [List.length_map, List.length_cons, List.length_nil]; omega) | omega | (simp; done) | (simp; omega)) (hH : H.set b (.cells (splice cs off new) true) = H' := by exact ga_p1 hg1) : vop T ρ.eval H op = some (.skip, H') := v_storeT ho hv ha hy hx hn h1 hb hl hH
theorem W43 {P : Prop} (h : P := by first | exact ⟨true, A0, _, rfl, rfl, hA0, hI, fun _ => ⟨g1, hg1⟩⟩ | exact ⟨false, A0, _, rfl, rfl, hA0, hX, fun e => by cases e⟩) : P := h
theorem each_0 {x : SW} {u : Int} {ws rs : VVal} (y l : Nat) (rows : List (BitVec 64)) (hr : rows.length ≤ 1000000) (A L : VHeap) (us : List Nat) (taken : BitVec 64) (g : Gz) (K : Bool → VHeap → Prop) (hs : A[y]? = some (gaB g)) (hI : IterP (psys x) l y (tv (usT (rows.drop us.length) us taken)) (usT (rows.drop us.length) us taken).2 A K) (hl : us.length = rows.length) : F (psys x) 100 [huP u ws rs y, fzW rows, fzN us, iW taken, .yield l] (A ++ L) (EaP y K A L) := by
 have e5 : (A ++ L).length + 5 = A.length + (L.length + 5) := by rw [List.length_append]; omega
 have eA : A.length = A.length := rfl
 refine F_body Tryd.func100 rfl u67 rfl ?_
 refine B_seq (B_region ?_)
 refine Lo u67 (v_boxT rfl rfl rfl) ?_
 refine Lo u67 (v_boxT rfl rfl rfl) ?_
 refine Lo u67 (v_boxT rfl rfl rfl) ?_
 refine Lo u67 (v_boxT rfl rfl rfl) ?_
 refine Lo u67 (v_boxT rfl rfl rfl) ?_
 refine Lo u67 (v_alloc rfl rfl) ?_
 refine L_nil (K_seq (B_seq ?_))
 refine B_gh (Gh.freezePtrL (cs := [huP u ws rs y]) 5 0 rfl rfl rfl) ?_
 refine B_gh (Gh.freezePtrL (cs := [fzW rows]) 6 1 rfl rfl rfl) ?_
 refine B_gh (Gh.freezePtrL (cs := [fzN us]) 7 2 rfl rfl rfl) ?_
 refine B_gh (Gh.freezePtrL (cs := [iW taken]) 8 3 rfl rfl rfl) ?_
 refine B_gh (Gh.freezePtrL (cs := [.yield l]) 9 4 rfl rfl rfl) ?_
 refine B_region ?_
 refine Lo u67 (W3v rfl rfl rfl rfl) ?_
 refine Lo u67 (rfl) ?_
 refine Lo u67 (v_alloc rfl rfl) ?_
 refine Lo u67 (W13 rfl rfl rfl rfl rfl rfl rfl) ?_
 refine L_nil (K_seq (B_seq (B_seq ?_)))
 refine B_gh (Gh.freezePtrL (cs := [iI (us.length : Nat)]) 11 6 rfl rfl rfl) ?_
 refine B_heap (H' := A ++ (L ++ eaD false)) (by simp; rfl) ?_
 refine B_region ?_
 refine Lo u67 (W3v rfl rfl rfl rfl) ?_
 refine Lo u67 (W3v rfl rfl rfl rfl) ?_
 refine Lo u67 (rfl) ?_
 refine Lo u67 (v_is true rfl (by rw [hl]; simp)) ?_
 refine L_nil (K_seq ?_)
 refine B_true rfl rfl ?_
 refine B_seq ?_
 rw [List.drop_eq_nil_of_le (by omega)] at hI
 refine B_region ?_
 refine Lo u67 (W3v rfl rfl rfl rfl) ?_
 refine Lo u67 (W3v rfl rfl rfl rfl) ?_
 refine L_callV rfl rfl rfl (by have h9 := hI g hs (L ++ eaD false); rw [show usT [] us taken = ([(0, us)], 0) from rfl] at h9; exact (set_add0 hs) ▸ h9) ?_
 rintro _ G ⟨b, A1, J1, rfl, hG, hA1, hk⟩; obtain rfl : G = A1 ++ (L ++ (eaD false ++ J1)) := hG.trans (by simp)
 refine Le u67 ?_
 refine Lo u67 (W3x rfl rfl rfl rfl rfl rfl rfl) ?_
 refine L_nil (K_seq (B_ret (K_seqR ?_)))
 refine E_keep (.inr rfl) (vres_cell rfl rfl rfl rfl (by exact ea_get (by assumption) rfl rfl) (by rfl)) ?_
 exact ⟨b, A1, _, rfl, rfl, hA1, ea_end hk⟩
theorem each_s {x : SW} {u : Int} {ws rs : VVal} (y l : Nat) (rows : List (BitVec 64)) (hr : rows.length ≤ 1000000) (n : Nat) (ih : ∀ (A L : VHeap) (us : List Nat) (taken : BitVec 64) (g : Gz) (K : Bool → VHeap → Prop) (hs : A[y]? = some (gaB g)) (hI : IterP (psys x) l y (tv (usT (rows.drop us.length) us taken)) (usT (rows.drop us.length) us taken).2 A K), us.length + n = rows.length → F (psys x) 100 [huP u ws rs y, fzW rows, fzN us, iW taken, .yield l] (A ++ L) (EaP y K A L)) (A L : VHeap) (us : List Nat) (taken : BitVec 64) (g : Gz) (K : Bool → VHeap → Prop) (hs : A[y]? = some (gaB g)) (hI : IterP (psys x) l y (tv (usT (rows.drop us.length) us taken)) (usT (rows.drop us.length) us taken).2 A K) (hl : us.length + (n + 1) = rows.length) : F (psys x) 100 [huP u ws rs y, fzW rows, fzN us, iW taken, .yield l] (A ++ L) (EaP y K A L) := by
 have e5 : (A ++ L).length + 5 = A.length + (L.length + 5) := by rw [List.length_append]; omega
 have eA : A.length = A.length := rfl
 refine F_body Tryd.func100 rfl u67 rfl ?_
 refine B_seq (B_region ?_)
 refine Lo u67 (v_boxT rfl rfl rfl) ?_
 refine Lo u67 (v_boxT rfl rfl rfl) ?_
 refine Lo u67 (v_boxT rfl rfl rfl) ?_
 refine Lo u67 (v_boxT rfl rfl rfl) ?_
 refine Lo u67 (v_boxT rfl rfl rfl) ?_
 refine Lo u67 (v_alloc rfl rfl) ?_
 refine L_nil (K_seq (B_seq ?_))
 refine B_gh (Gh.freezePtrL (cs := [huP u ws rs y]) 5 0 rfl rfl rfl) ?_
 refine B_gh (Gh.freezePtrL (cs := [fzW rows]) 6 1 rfl rfl rfl) ?_
 refine B_gh (Gh.freezePtrL (cs := [fzN us]) 7 2 rfl rfl rfl) ?_
 refine B_gh (Gh.freezePtrL (cs := [iW taken]) 8 3 rfl rfl rfl) ?_
 refine B_gh (Gh.freezePtrL (cs := [.yield l]) 9 4 rfl rfl rfl) ?_
 refine B_region ?_
 refine Lo u67 (W3v rfl rfl rfl rfl) ?_
 refine Lo u67 (rfl) ?_
 refine Lo u67 (v_alloc rfl rfl) ?_
 refine Lo u67 (W13 rfl rfl rfl rfl rfl rfl rfl) ?_
 refine L_nil (K_seq (B_seq (B_seq ?_)))
 refine B_gh (Gh.freezePtrL (cs := [iI (us.length : Nat)]) 11 6 rfl rfl rfl) ?_
 refine B_heap (H' := A ++ (L ++ eaD false)) (by simp; rfl) ?_
 refine B_region ?_
 refine Lo u67 (W3v rfl rfl rfl rfl) ?_
 refine Lo u67 (W3v rfl rfl rfl rfl) ?_
 refine Lo u67 (rfl) ?_
 refine Lo u67 (v_is false rfl (by simp; omega)) ?_
 refine L_nil (K_seq ?_)
 refine B_false rfl rfl ?_
 refine B_skip (K_seq (B_seq (B_seq ?_)))
 rw [show rows.drop us.length = rows.getD us.length 0 :: rows.drop (us.length + 1) by rw [List.drop_eq_getElem_cons (by omega), List.getD_eq_getElem?_getD, List.getElem?_eq_getElem (by omega)]; rfl, usT] at hI
 refine B_draw [0, 1, 2, 3, 4, 5, 6, 7] #[0, 0, 3, 7, 0, 31, 63, 127] (by kernel_rfl) (by kernel_rfl) (by kernel_rfl) ?_
 refine Oo u67 .look rfl (W3v rfl rfl rfl rfl) ?_
 refine Oo u67 .look rfl (W3v rfl rfl rfl rfl) ?_
 refine Oo u67 .calm rfl (W18 rfl rfl rfl rfl rfl rfl rfl) ?_
 refine Oo u67 .look rfl (W3z rfl rfl rfl rfl) ?_
 refine Oo u67 .look rfl (W3v rfl rfl rfl rfl) ?_
 refine Oo u67 .calm rfl (v_andNotW rfl rfl rfl) ?_
 refine O_call (env' := u67) rfl rfl rfl rfl rfl (by exact hset_spec _ _) (by first | exact Nat.le_refl _ | simp) rfl rfl ?_
 refine O_call (env' := u67) rfl rfl rfl rfl rfl (by exact All_spec _ _) (by first | exact Nat.le_refl _ | simp) rfl rfl ?_
 refine O_nil [] (by kernel_rfl) (trivial) ?_
 refine K_seq (B_block ?_)
 refine B_clear (mk 67 147573952589139537951) (env' := u67) rfl ?_
 refine B_rangeM cI (pl (rows.getD us.length 0 &&& ~~~taken) 0) (fun l0 h => by cases h) rfl (fun l G R h => All1_spec _ _ _ _ h) (σ := {q : VHeap × VHeap // q.1.length = A.length}) (fun k s => s.1.1 ++ (L ++ ([.dead, .dead, .dead, .dead, .dead, .cells [.bool false] true, .dead] ++ k :: s.1.2))) ⟨(A, []), rfl⟩ (fun k => by simp) (fun k s => by rw [show (A ++ (L ++ eaD false)).length = A.length + (L.length + 7) by simp]; exact getE (i := 7) s.2 rfl rfl) (fun k k1 s => by rw [show (A ++ (L ++ eaD false)).length = A.length + (L.length + 7) by simp]; exact setE (i := 7) s.2 rfl) (fun pre s => ∃ z, (pl (rows.getD us.length 0 &&& ~~~taken) 0) = pre ++ z ∧ (∃ g1, s.1.1[y]? = some (gaB g1)) ∧ IterP (psys x) l y (tv (usF (fun u => usT (rows.drop (us.length + 1)) (us ++ [u]) (taken ||| 1#64 <<< u)) (rows.drop (us.length + 1)) taken z)) (usF (fun u => usT (rows.drop (us.length + 1)) (us ++ [u]) (taken ||| 1#64 <<< u)) (rows.drop (us.length + 1)) taken z).2 s.1.1 K) ?_ (fun j pre c s => (j = Code.ret ∧ (K false s.1.1))) rfl ?_ ?_ ?_
 ·exact ⟨_, rfl, ⟨g, hs⟩, hI⟩
 ·intro pre c post s hx hI kr kb hkr hkb
  obtain ⟨⟨A0, J0⟩, hA0⟩ := s
  try dsimp only at hI ⊢
  have hA0 : A0.length = A.length := hA0
  obtain ⟨z, hz, ⟨g1, hg1⟩, hI⟩ := hI
  obtain rfl : z = c :: post := List.append_cancel_left (hz.symm.trans hx)
  have hcx : c ∈ (pl (rows.getD us.length 0 &&& ~~~taken) 0) := by rw [hx]; simp
  obtain ⟨_, hc64, _⟩ := mem_pl.1 hcx
  rw [usF] at hI
  refine B_env (env' := u67) rfl ?_
  refine B_region ?_
  refine Lo u67 (v_move (.inr rfl) rfl) ?_
  refine L_nil ?_
  refine ⟨rfl, ⟨(A0, J0), hA0⟩, rfl, ?_⟩
  try dsimp only
  refine B_block (B_seq (B_region ?_))
  refine Lo u67 (W3v rfl rfl rfl rfl) ?_
  refine Lo u67 (rfl) ?_
  refine Lo u67 (rfl) ?_
  refine Lo u67 (W3v rfl rfl rfl rfl) ?_
  refine Lo u67 (rfl) ?_
  refine Lo u67 (rfl) ?_
  refine Lo u67 (W40 rfl rfl rfl rfl) ?_
  refine Lo u67 (v_addW (b := 1#64) rfl rfl rfl) ?_
  refine Lo u67 (rfl) ?_
  refine Lo u67 (rfl) ?_
  refine Lo u67 (W41 rfl rfl rfl rfl rfl rfl rfl) ?_
  refine L_nil (K_seq (B_seq ?_))
  refine B_drawP #[0, 0, 0, 4, 14, 0, 0, 64, 224, 511, 1023, 2047, 2047, 2047, 10239, 2047, 34815, 124927, 2047, 2047, 526335, 1837055, 2047, 8388607, 16777215, 33554431] (by kernel_rfl) ?_
  refine P_seg [0, 1, 2, 3, 4, 5, 6, 7, 8] (bef := #[0, 0, 0, 4, 14, 0, 0, 64, 224, 511, 1023, 2047, 2047, 2047, 10239, 2047, 34815, 124927, 2047, 2047, 526335, 1837055, 2047, 8388607, 16777215, 33554431]) (by kernel_rfl) (by kernel_rfl) (by kernel_rfl) ?_
  refine Oo u67 .look rfl (W3v rfl rfl rfl rfl) ?_
  refine Oo u67 .look rfl (W3v rfl rfl rfl rfl) ?_
  refine Oo u67 .look rfl (W3v rfl rfl rfl rfl) ?_
  refine Oo u67 .calm rfl (W14 rfl rfl rfl) ?_
  refine Oo u67 .calm rfl (v_wLo (k := us.length + 1) rfl rfl rfl rfl rfl rfl rfl (by simp) (by omega)) ?_
  refine Oo u67 .look rfl (W3v rfl rfl rfl rfl) ?_
  refine Oo u67 .calm rfl (v_move (.inl rfl) rfl) ?_
  refine Oo u67 .calm rfl (v_shl1 rfl rfl rfl (by first | assumption | omega | (simp [*]; done) | (simp at *; omega))) ?_
  refine Oo u67 .calm rfl (v_orW rfl rfl rfl) ?_
  refine O_nil [] (by kernel_rfl) (trivial) ?_
  refine P_call 9 (bef := #[0, 0, 0, 4, 14, 0, 0, 64, 224, 511, 1023, 2047, 2047, 2047, 10239, 2047, 34815, 124927, 2047, 2047, 526335, 1837055, 2047, 8388607, 16777215, 33554431]) (by kernel_rfl) (by kernel_rfl) rfl rfl rfl rfl (by exact hfull_in hg1 (rows.drop (us.length + 1)) _ (by rw [List.length_drop]; omega)) ?_
  rintro _ _ (⟨rfl, hf, rfl⟩ | ⟨rfl, hf, rfl⟩)
  ·skip
   refine P_env (env' := u67) rfl ?_
   refine P_seg [10, 11, 12, 13, 15, 16, 18, 19, 20, 21, 22, 14, 17] (bef := #[0, 0, 0, 4, 14, 0, 0, 64, 224, 511, 1023, 2047, 2047, 2047, 10239, 2047, 34815, 124927, 2047, 2047, 526335, 1837055, 2047, 8388607, 16777215, 33554431]) (by kernel_rfl) (by kernel_rfl) (by kernel_rfl) ?_
   refine Oo u67 .calm rfl (v_move (.inl rfl) rfl) ?_
   refine O_opI (env' := u67) (x := .look _ _) rfl rfl rfl (W3v rfl rfl rfl rfl) rfl rfl rfl ?_
   refine O_opI (env' := u67) (x := .look _ _) rfl rfl rfl (W3v rfl rfl rfl rfl) rfl rfl rfl ?_
   refine Oo u67 .look rfl (W3v rfl rfl rfl rfl) ?_
   refine Oo u67 .calm rfl (v_move (.inl rfl) rfl) ?_
   refine O_opI (env' := u67) (x := .grow _) rfl rfl rfl (v_buildSlice rfl rfl (by decide) rfl) rfl rfl rfl ?_
   refine O_opI (env' := u67) (x := .look _ _) rfl rfl rfl (W3v rfl rfl rfl rfl) rfl rfl rfl ?_
   refine Oo u67 .calm rfl (v_move (.inl rfl) rfl) ?_
   refine Oo u67 .calm rfl (v_shl1 rfl rfl rfl (by first | assumption | omega | (simp [*]; done) | (simp at *; omega))) ?_
   refine Oo u67 .calm rfl (v_orW rfl rfl rfl) ?_
   refine O_opI (env' := u67) (x := .look _ _) rfl rfl rfl (W3v rfl rfl rfl rfl) rfl rfl rfl ?_
   refine O_call (env' := u67) rfl rfl rfl rfl rfl (by exact Clip_spec _ _) (by first | exact Nat.le_refl _ | simp) rfl rfl ?_
   refine O_opI (env' := u67) (x := .turn _ _) rfl rfl rfl (v_appFX (c := iI ((c : Nat) : Int)) rfl rfl rfl rfl rfl rfl rfl rfl get_end rfl (by simp) (by show (us.length + 1) * 8 ≤ _ ∧ _; omega)) rfl rfl rfl ?_
   refine O_nil [_, _, _, _, _, _, _, _, _] (by rfl) (And.intro (And.intro (W3v rfl rfl rfl rfl) (W3v rfl rfl rfl rfl)) (And.intro (And.intro (W3v rfl rfl rfl rfl) (W3v rfl rfl rfl rfl)) (And.intro (And.intro (W3v rfl rfl rfl rfl) (W3v rfl rfl rfl rfl)) (And.intro (And.intro (W3v rfl rfl rfl rfl) (W3v rfl rfl rfl rfl)) (And.intro ((by first | exact rfl | simp)) (And.intro (And.intro (W3v rfl rfl rfl rfl) (W3v rfl rfl rfl rfl)) (And.intro (And.intro (W3v rfl rfl rfl rfl) (W3v rfl rfl rfl rfl)) (And.intro (And.intro (W3v rfl rfl rfl rfl) (W3v rfl rfl rfl rfl)) (And.intro (And.intro (W3v rfl rfl rfl rfl) (W3v rfl rfl rfl rfl)) trivial))))))))) ?_
   refine P_call 23 (bef := #[0, 0, 0, 4, 14, 0, 0, 64, 224, 511, 1023, 2047, 2047, 2047, 10239, 2047, 34815, 124927, 2047, 2047, 526335, 1837055, 2047, 8388607, 16777215, 33554431]) (by kernel_rfl) (by kernel_rfl) rfl rfl rfl rfl (by have hIf := hI; rw [if_pos (show fullB _ (taken ||| 1#64 <<< c) = true from hf)] at hIf; have hIc := IterP.catT (xs := (usT (rows.drop (us.length + 1)) (us ++ [c]) (taken ||| 1#64 <<< c)).1) (da := (usT (rows.drop (us.length + 1)) (us ++ [c]) (taken ||| 1#64 <<< c)).2) (IterP.addF hg1 hIf); exact each_in (ih _ _ (us ++ [c]) (taken ||| 1#64 <<< c) (g1 + (⟨0, 1, 0⟩ + fuG (rows.drop (us.length + 1)) (taken ||| 1#64 <<< c))) _ (List.getElem?_set_self (lt_of_get hg1)) (by rw [List.length_append]; exact hIc) (by simp; omega)) rfl rfl) ?_
   rintro _ G ⟨b, A2, J2, rfl, hG, hA2, hk2, hg2⟩; have hA3 : A2.length = A.length := hA2.trans (by rw [List.length_set]; exact hA0); obtain rfl : G = A2 ++ (L ++ ([.dead, .dead, .dead, .dead, .dead, .cells [.bool false] true, .dead] ++ kb :: (J0 ++ [.cells [iI (c : Nat)] true, .dead] ++ J2))) := hG.trans (by simp; rfl); cases b; rotate_left
   ·skip
    refine P_env (env' := u67) rfl ?_
    refine P_seg [24, 25] (bef := #[0, 0, 0, 4, 14, 0, 0, 64, 224, 511, 1023, 2047, 2047, 2047, 10239, 2047, 34815, 124927, 2047, 2047, 526335, 1837055, 2047, 8388607, 16777215, 33554431]) (by kernel_rfl) (by kernel_rfl) (by kernel_rfl) ?_
    refine Oo u67 .calm rfl (rfl) ?_
    refine Oo u67 .calm rfl (v_pickT rfl rfl rfl) ?_
    refine O_nil [] (by kernel_rfl) (trivial) ?_
    refine P_end (by kernel_rfl) ?_
    refine K_seq ?_
    refine B_false rfl rfl ?_
    refine B_skip (K_blk ?_)
    refine ⟨⟨(A2, _), hA3⟩, rfl, .inl ⟨rfl, ?_⟩⟩
    exact ⟨post, by rw [hx, List.append_assoc]; rfl, hg2 rfl, hk2⟩
   ·skip
    refine P_env (env' := u67) rfl ?_
    refine P_seg [24, 25] (bef := #[0, 0, 0, 4, 14, 0, 0, 64, 224, 511, 1023, 2047, 2047, 2047, 10239, 2047, 34815, 124927, 2047, 2047, 526335, 1837055, 2047, 8388607, 16777215, 33554431]) (by kernel_rfl) (by kernel_rfl) (by kernel_rfl) ?_
    refine Oo u67 .calm rfl (rfl) ?_
    refine Oo u67 .calm rfl (v_pickT rfl rfl rfl) ?_
    refine O_nil [] (by kernel_rfl) (trivial) ?_
    refine P_end (by kernel_rfl) ?_
    refine K_seq ?_
    refine B_true rfl rfl ?_
    refine B_seq (B_region ?_)
    refine Lo u67 (v_storeC (VVal.bool false) rfl rfl rfl rfl rfl rfl rfl (by exact ea_get (by assumption) rfl rfl) (by first | exact Nat.le_of_ble_eq_true rfl | (simp only [List.length_map, List.length_cons, List.length_nil]; omega) | omega | (simp; done) | (simp; omega)) (by exact ea_set (by assumption) rfl)) ?_
    refine L_nil (K_seq (B_ret (K_blkR ?_)))
    refine ⟨⟨(A2, _), hA3⟩, rfl, .inr ⟨Code.ret, rfl, ⟨rfl, ?_⟩⟩⟩
    exact hk2
  ·skip
   refine P_env (env' := u67) rfl ?_
   refine P_seg [10, 11, 12, 13, 15, 16, 18, 19, 20, 21, 22, 14, 17] (bef := #[0, 0, 0, 4, 14, 0, 0, 64, 224, 511, 1023, 2047, 2047, 2047, 10239, 2047, 34815, 124927, 2047, 2047, 526335, 1837055, 2047, 8388607, 16777215, 33554431]) (by kernel_rfl) (by kernel_rfl) (by kernel_rfl) ?_
   refine Oo u67 .calm rfl (v_move (.inl rfl) rfl) ?_
   refine Of u67 rfl ?_
   refine Of u67 rfl ?_
   refine Of u67 rfl ?_
   refine Of u67 rfl ?_
   refine Of u67 rfl ?_
   refine Of u67 rfl ?_
   refine Of u67 rfl ?_
   refine Of u67 rfl ?_
   refine Of u67 rfl ?_
   refine Of u67 rfl ?_
   refine Of u67 rfl ?_
   refine Of u67 rfl ?_
   refine O_nil [] (by kernel_rfl) (trivial) ?_
   refine P_seg [23, 24, 25] (bef := #[0, 0, 0, 4, 14, 0, 0, 64, 224, 511, 1023, 2047, 2047, 2047, 10239, 2047, 34815, 124927, 2047, 2047, 526335, 1837055, 2047, 8388607, 16777215, 33554431]) (by kernel_rfl) (by kernel_rfl) (by kernel_rfl) ?_
   refine Of u67 rfl ?_
   refine Of u67 rfl ?_
   refine Oo u67 .calm rfl (v_pickFC (VVal.bool false) rfl rfl rfl) ?_
   refine O_nil [] (by kernel_rfl) (trivial) ?_
   refine P_end (by kernel_rfl) ?_
   refine K_seq ?_
   refine B_false rfl rfl ?_
   refine B_skip (K_blk ?_)
   refine ⟨⟨(A0.set y (gaB (g1 + (⟨0, 1, 0⟩ + fuG (rows.drop (us.length + 1)) (taken ||| 1#64 <<< c)))), J0), by rw [List.length_set]; exact hA0⟩, rfl, .inl ⟨rfl, ?_⟩⟩
   exact ⟨post, by rw [hx, List.append_assoc]; rfl, ⟨_, List.getElem?_set_self (lt_of_get hg1)⟩, by rw [if_neg (nof (show fullB _ (taken ||| 1#64 <<< c) = false from hf))] at hI; exact IterP.addF hg1 hI⟩
 ·intro s k hk hI
  obtain ⟨⟨A0, J0⟩, hA0⟩ := s
  try dsimp only at hI ⊢
  have hA0 : A0.length = A.length := hA0
  obtain ⟨z, hz, ⟨g1, hg1⟩, hI⟩ := hI
  obtain rfl : z = [] := by simpa using hz
  have hI := hI g1 hg1
  rw [show usF _ _ _ [] = ([], 0) from rfl, set_add0 hg1] at hI
  refine K_blk (K_seq (B_seq (B_region ?_)))
  refine Lo u67 (v_storeC (VVal.bool true) rfl rfl rfl rfl rfl rfl rfl (by exact ea_get (by assumption) rfl rfl) (by first | exact Nat.le_of_ble_eq_true rfl | (simp only [List.length_map, List.length_cons, List.length_nil]; omega) | omega | (simp; done) | (simp; omega)) (by exact ea_set (by assumption) rfl)) ?_
  refine L_nil (K_seq (B_ret ?_))
  refine E_keep (.inr rfl) (vres_cell rfl rfl rfl rfl (by exact ea_get (by assumption) rfl rfl) (by rfl)) ?_
  exact W43
 ·rintro j pre c post s k hk hx (⟨rfl, hX⟩)
  obtain ⟨⟨A0, J0⟩, hA0⟩ := s
  try dsimp only
  have hA0 : A0.length = A.length := hA0
  refine J_ret ?_
  refine K_blkR (K_seqR ?_)
  refine E_keep (.inr rfl) (vres_cell rfl rfl rfl rfl (by exact ea_get (by assumption) rfl rfl) (by rfl)) ?_
  exact W43
theorem each_spec {x : SW} {u : Int} {ws rs : VVal} (y l : Nat) (rows : List (BitVec 64)) (hr : rows.length ≤ 1000000) : ∀ (n : Nat) (A L : VHeap) (us : List Nat) (taken : BitVec 64) (g : Gz) (K : Bool → VHeap → Prop) (hs : A[y]? = some (gaB g)) (hI : IterP (psys x) l y (tv (usT (rows.drop us.length) us taken)) (usT (rows.drop us.length) us taken).2 A K), us.length + n = rows.length → F (psys x) 100 [huP u ws rs y, fzW rows, fzN us, iW taken, .yield l] (A ++ L) (EaP y K A L)
  | 0, A, L, us, taken, g, K, hs, hI, hl => each_0 y l rows hr A L us taken g K hs hI hl
  | n + 1, A, L, us, taken, g, K, hs, hI, hl => each_s y l rows hr n (fun A L us taken g K a b c => each_spec y l rows hr n A L us taken g K a b c) A L us taken g K hs hI hl
end Go.Proofs.YtnbihdflnjpinaaDoor.VT

set_option autoImplicit false
set_option linter.unusedVariables false
set_option linter.unusedSimpArgs false
set_option maxHeartbeats 4000000
set_option maxRecDepth 100000
namespace Go.Proofs.YtnbihdflnjpinaaDoor.VT
open Go Go.V Go.RowKit
abbrev u36 {a0 a1 a2 a3 a4 a5 a6 a7 a8 a9 a10 a11 a12 a13 a14 a15 a16 a17 a18 a19 a20 a21 a22 a23 a24 a25 a26 a27 a28 a29 a30 a31 a32 a33 a34 a35 : VVal} : VEnv := a0 :: a1 :: a2 :: a3 :: a4 :: a5 :: a6 :: a7 :: a8 :: a9 :: a10 :: a11 :: a12 :: a13 :: a14 :: a15 :: a16 :: a17 :: a18 :: a19 :: a20 :: a21 :: a22 :: a23 :: a24 :: a25 :: a26 :: a27 :: a28 :: a29 :: a30 :: a31 :: a32 :: a33 :: a34 :: a35 :: []
theorem W44 {S : V.Sys} {H : VHeap} {fn : Func} {ex : Exit} {env : VEnv} {B L : VHeap} {v : VVal} {R : VVal → VHeap → Prop} (hx : ex = .normal ∨ ex = .ret) (hv : vresults S.C.T env (B ++ L) fn.results = some v) (h : R v B) (hB : BaseOk H B := by first | exact BaseOk.refl _ | exact BaseOk.set (BaseOk.refl _) _ rfl) (hu : v.under H.length = true := by show (true && (((huP u (fzW ws) (fzRR rss) y).under _ && true) && ((fzW rows).under _ && true && true))) = true; rw [huUnder hy, show (fzW rows).under _ = true from fzW_under _ _]; rfl) : fnK S fn H R ex env (B ++ L) := E_app hx hv hB hu h
theorem W45 {S : V.Sys} {H : VHeap} {fn : Func} {ex : Exit} {env : VEnv} {B L : VHeap} {v : VVal} {R : VVal → VHeap → Prop} (hx : ex = .normal ∨ ex = .ret) (hv : vresults S.C.T env (B ++ L) fn.results = some v) (h : R v B) (hB : BaseOk H B := by first | exact BaseOk.refl _ | exact BaseOk.set (BaseOk.refl _) _ rfl) (hu : v.under H.length = true := by show (true && (((huP u (fzW ws) (fzRR rss) y).under _ && true) && ((fzN a).under _ && true && true))) = true; rw [huUnder hy, show (fzN a).under _ = true from mapN_under _ _]; rfl) : fnK S fn H R ex env (B ++ L) := E_app hx hv hB hu h
theorem W47 {T : TypeId → Option VTy} {H : VHeap} {op : Op} {ρ : Operand → VVal} {t : TypeId} {a : Operand} {y : VTy} {p v : VVal} (ho : op = .load t a) (ha : ρ a = p) (hy : T t = some y) (hd : isAggDesc y.desc = false) (h : LdOk H p v := by first | exact .inl ⟨_, _, rfl, by first | rfl | assumption | exact fgetN (α := Nat) 0 (by omega)⟩ | exact .inr ⟨_, _, _, _, rfl, by first | exact get_app rfl rfl | exact get_out (by assumption) | exact getE0 rfl rfl | exact get_out (get_app rfl rfl) | exact get_app rfl (by assumption) | assumption | (simp only [List.append_assoc, List.singleton_append, List.cons_append, List.nil_append]; refine getE (i := 0) rfl ?_ rfl; simp; done) | (simp only [List.append_assoc, List.singleton_append, List.cons_append, List.nil_append]; refine getE (i := 1) rfl ?_ rfl; simp; done) | (simp only [List.append_assoc, List.singleton_append, List.cons_append, List.nil_append]; refine getE (i := 2) rfl ?_ rfl; simp; done) | (simp only [List.append_assoc, List.singleton_append, List.cons_append, List.nil_append]; refine getE (i := 3) rfl ?_ rfl; simp; done) | (simp [*]; done), by first | rfl | assumption | exact fgetN (α := Nat) 0 (by omega)⟩) : vop T ρ H op = some (v, H) := v_ld ho ha hy hd h
theorem W49 {T : TypeId → Option VTy} {H : VHeap} {op : Op} {ρ : VEnv} {H' : VHeap} {t : TypeId} {a : Operand} {i : Nat} {v : VVal} {y : VTy} {b off : Nat} {cs new : List VVal} (ho : op = .store t a (.tmp i)) (hv : ρ[i]? = some v) (ha : ρ.eval a = .ptr (some (b, off))) (hy : T t = some y) (hx : v.cells = some new) (hn : new.length = y.size) (h1 : new.all VVal.one = true) (hb : H[b]? = some (.cells cs true) := by first | exact get_app rfl rfl | exact get_out (by assumption) | exact getE0 rfl rfl | exact get_out (get_app rfl rfl) | exact get_app rfl (by assumption) | assumption | (simp only [List.append_assoc, List.singleton_append, List.cons_append, List.nil_append]; refine getE (i := 0) rfl ?_ rfl; simp; done) | (simp only [List.append_assoc, List.singleton_append, List.cons_append, List.nil_append]; refine getE (i := 1) rfl ?_ rfl; simp; done) | (simp only [List.append_assoc, List.singleton_append, List.cons_append, List.nil_append]; refine getE (i := 2) rfl ?_ rfl; simp; done) | (simp only [List.append_assoc, List.singleton_append, List.cons_append, List.nil_append]; refine getE (i := 3) rfl ?_ rfl; simp; done) | (simp [*]; done)) (hl : off + new.length ≤ cs.length := by show 0 + k * 1 + 1 ≤ _; rw [List.length_map, plK_len (by omega)]; omega) (hH : H.set b (.cells (splice cs off new) true) = H' := by exact (setE0 rfl rfl).trans (by show _ ++ (_ ++ [VBlk.cells (splice (rcN (plK a us k)) (0 + k * 1) [iI ((us.getD (a.getD k 0) 0 : Nat) : Int)]) true]) = _; rw [spl_N (by rw [plK_len (by omega)]; omega)])) : vop T ρ.eval H op = some (.skip, H') := v_storeT ho hv ha hy hx hn h1 hb hl hH
theorem W4b {P : Prop} (h : P := by first | exact ⟨true, _, [.dead, k] ++ J9, by rw [List.append_assoc], hI g0 hg0⟩ | exact ⟨false, _, [.dead, k] ++ J9, by rw [List.append_assoc], hX⟩) : P := h
theorem Users_spec {x : SW} (H : VHeap) {u : Int} {ws : List (BitVec 64)} {rss : List (List Rul)} (y : Nat) (hy : y < H.length) (rows : List (BitVec 64)) : F (psys x) 81 [huP u (fzW ws) (fzRR rss) y, fzW rows] H fun v G => v = .func 99 [] [.fptr [huP u (fzW ws) (fzRR rss) y] 0, .fptr [fzW rows] 0] ∧ G = H := by
 refine F_body Tryd.func81 rfl u6 rfl ?_
 refine B_seq (B_region ?_)
 refine Lo u6 (v_boxT rfl rfl rfl) ?_
 refine Lo u6 (v_boxT rfl rfl rfl) ?_
 refine Lo u6 (v_const (VVal.nilFunc) (.inr rfl) rfl) ?_
 refine L_nil (K_seq (B_seq (B_region ?_)))
 refine L_gh (Gh.freezePtrL (cs := [huP u (fzW ws) (fzRR rss) y]) 2 0 rfl rfl rfl) ?_
 refine L_gh (Gh.freezePtrL (cs := [fzW rows]) 3 1 rfl rfl rfl) ?_
 refine Lo u6 (v_func [_, _] rfl rfl) ?_
 refine Lo u6 (v_move (.inr rfl) rfl) ?_
 refine L_nil (K_seq (B_ret ?_))
 refine W44 (.inr rfl) (vres_tmp rfl rfl) ?_
 exact ⟨rfl, rfl⟩
theorem Plans_spec {x : SW} (H : VHeap) {u : Int} {ws : List (BitVec 64)} {rss : List (List Rul)} (y : Nat) (hy : y < H.length) (a : List Nat) : F (psys x) 54 [huP u (fzW ws) (fzRR rss) y, fzN a] H fun v G => v = .func 80 [] [.fptr [huP u (fzW ws) (fzRR rss) y] 0, .fptr [fzN a] 0] ∧ G = H := by
 refine F_body Tryd.func54 rfl u6 rfl ?_
 refine B_seq (B_region ?_)
 refine Lo u6 (v_boxT rfl rfl rfl) ?_
 refine Lo u6 (v_boxT rfl rfl rfl) ?_
 refine Lo u6 (v_const (VVal.nilFunc) (.inr rfl) rfl) ?_
 refine L_nil (K_seq (B_seq (B_region ?_)))
 refine L_gh (Gh.freezePtrL (cs := [huP u (fzW ws) (fzRR rss) y]) 2 0 rfl rfl rfl) ?_
 refine L_gh (Gh.freezePtrL (cs := [fzN a]) 3 1 rfl rfl rfl) ?_
 refine Lo u6 (v_func [_, _] rfl rfl) ?_
 refine Lo u6 (v_move (.inr rfl) rfl) ?_
 refine L_nil (K_seq (B_ret ?_))
 refine W45 (.inr rfl) (vres_tmp rfl rfl) ?_
 exact ⟨rfl, rfl⟩
theorem tv_cons {z : List (Gz × List Nat)} {e d : Gz} {c : VVal} {post : List (Gz × VVal)} (h : tv (z, e) = (d, c) :: post) : ∃ us z1, z = (d, us) :: z1 ∧ c = fzN us := by
  cases z with
  | nil => cases h
  | cons q z =>
    obtain ⟨d1, us⟩ := q
    have h : (d1, fzN us) :: tv (z, e) = (d, c) :: post := h
    injection h with h1 h2
    injection h1 with h3 h4
    exact ⟨us, z, by rw [h3], h4.symm⟩
theorem tv_nil {xs : List (Gz × VVal)} {z : List (Gz × List Nat)} {e : Gz} (h : xs = xs ++ tv (z, e)) : z = [] := by
  have : tv (z, e) = [] := by simpa using h
  cases z with
  | nil => rfl
  | cons q z => cases this
theorem fzN_pl {a us : List Nat} : fzN (plN a us) = .fsl (rcN (plN a us)) a.length 1 false := by
  show VVal.fsl _ (plN a us).length 1 false = _
  rw [plN_len]
theorem each_top {x : SW} {u : Int} {ws rs : VVal} (y l : Nat) (rows : List (BitVec 64)) (hr : rows.length ≤ 1000000) (A : VHeap) (g : Gz) (K : Bool → VHeap → Prop) (hs : A[y]? = some (gaB g)) (hI : IterP (psys x) l y (tv (usT rows [] 0#64)) (usT rows [] 0#64).2 A K) :
    F (psys x) 100 [huP u ws rs y, fzW rows, niS, iW 0#64, .yield l] A fun v G => ∃ b A1 J, v = .bool b ∧ G = A1 ++ J ∧ K b A1 := by
  refine F.pre (Gh.freezeNil (vs' := [huP u ws rs y, fzW rows, fzN [], iW 0#64, .yield l]) 2 rfl rfl) ?_
  have := each_spec (x := x) (u := u) (ws := ws) (rs := rs) y l rows hr rows.length A [] [] 0#64 g K hs hI (Nat.zero_add _)
  rw [List.append_nil] at this
  refine this.mono ?_
  rintro v G ⟨b, A1, J, rfl, rfl, _, hk, _⟩
  exact ⟨b, A1, J, rfl, rfl, hk⟩
theorem Users1_spec {x : SW} {u : Int} {ws rs : VVal} (y l : Nat) (rows : List (BitVec 64)) (hr : rows.length ≤ 1000000) (A : VHeap) (g : Gz) (K : Bool → VHeap → Prop) (hs : A[y]? = some (gaB g)) (hI : IterP (psys x) l y (tv (usT rows [] 0#64)) (usT rows [] 0#64).2 A K) : F (psys x) 99 [.yield l, .fptr [huP u ws rs y] 0, .fptr [fzW rows] 0] A fun v G => ∃ b A1 J, G = A1 ++ J ∧ K b A1 := by
 refine F_body Tryd.func99 rfl u8 rfl ?_
 rw [List.append_nil]
 refine B_region ?_
 refine Lo u8 (W12 rfl rfl rfl rfl) ?_
 refine Lo u8 (W12 rfl rfl rfl rfl) ?_
 refine Lo u8 (v_move (.inl rfl) rfl) ?_
 refine L_call rfl rfl rfl (by exact each_top y l rows hr A g K hs hI) ?_
 rintro _ _ ⟨b, A1, J, rfl, rfl, hk⟩
 refine Le u8 ?_
 refine L_nil ?_
 refine E_keep (.inl rfl) (vres_none rfl) ?_
 exact ⟨b, A1, J, rfl, hk⟩
theorem Plans1_spec {x : SW} {u : Int} {ws : List (BitVec 64)} {rss : List (List Rul)} (y l : Nat) (a : List Nat) (ha : Pat a) (hw : a.length ≤ ws.length) (hn : ws.length ≤ 1000000) (A : VHeap) (g : Gz) (K : Bool → VHeap → Prop) (hs : A[y]? = some (gaB g)) (hI : IterP (psys x) l y (tv (plT a (usT (blkN ws a a.length) [] 0#64))) (usT (blkN ws a a.length) [] 0#64).2 A K) : F (psys x) 80 [.yield l, .fptr [huP u (fzW ws) (fzRR rss) y] 0, .fptr [fzN a] 0] A fun v G => ∃ b A1 J, G = A1 ++ J ∧ K b A1 := by
 refine F_body Tryd.func80 rfl u36 rfl ?_
 refine B_seq (B_region ?_)
 refine Lo u36 (v_boxT rfl rfl rfl) ?_
 refine L_nil (K_seq (B_seq ?_))
 refine B_gh (Gh.freezePtrL (cs := [.yield l]) 3 0 rfl rfl rfl) ?_
 refine B_draw [0, 1, 2, 3, 4] #[0, 0, 0, 6, 15] (by kernel_rfl) (by kernel_rfl) (by kernel_rfl) ?_
 refine O_opI (env' := u36) (x := .look _ _) rfl rfl rfl (W47 rfl rfl rfl rfl) rfl rfl rfl ?_
 refine Oo u36 .look rfl (W47 rfl rfl rfl rfl) ?_
 refine Oo u36 .look rfl (W47 rfl rfl rfl rfl) ?_
 refine O_call (env' := u36) rfl rfl rfl rfl rfl (by exact hBlocks_spec _ _ _ ha hw hn) (by first | exact Nat.le_refl _ | simp) rfl rfl ?_
 refine O_call (env' := u36) rfl rfl rfl rfl rfl (by exact Users_spec _ y (by have := lt_of_get hs; simp; omega) _) (by first | exact Nat.le_refl _ | simp) rfl rfl ?_
 refine O_nil [_] (by rfl) (And.intro (And.intro (W47 rfl rfl rfl rfl) (W47 rfl rfl rfl rfl)) trivial) ?_
 refine K_seq (B_block ?_)
 refine B_clear (mk 36 68719472627) (env' := u36) rfl ?_
 refine B_heap (H' := A ++ [.dead]) rfl ?_
 refine B_rangePJ (y) (tv (usT (blkN ws a a.length) [] 0#64)) ((usT (blkN ws a a.length) [] 0#64).2) (fun l0 h => by cases h) rfl (fun l9 G9 K9 hg9 hI9 => Users1_spec y l9 (blkN ws a a.length) (by rw [blkN_len]; have := @szP_le a a.length; omega) G9 _ K9 hg9.choose_spec hI9) (σ := {q : VHeap × Gz // q.1.length = A.length}) (fun k s => s.1.1 ++ [.dead, k]) ⟨(A, g), rfl⟩ (fun k => by simp) (fun k s => by simp [s.2]) (fun k s => by rw [show (A ++ [VBlk.dead]).length = A.length + 1 by simp]; exact get_app s.2 rfl) (fun k k1 s => by rw [show (A ++ [VBlk.dead]).length = A.length + 1 by simp]; exact set_app s.2) (fun s => s.1.2) (fun d s => ⟨(s.1.1.set y (gaB (s.1.2 + d)), s.1.2 + d), by rw [List.length_set]; exact s.2⟩) (fun pre s => ∃ z, tv (usT (blkN ws a a.length) [] 0#64) = pre ++ tv (z, (usT (blkN ws a a.length) [] 0#64).2) ∧ (∀ q, q ∈ z → q.2.length = szP a a.length) ∧ s.1.1[y]? = some (gaB s.1.2) ∧ IterP (psys x) l y (tv (plT a (z, (usT (blkN ws a a.length) [] 0#64).2))) (usT (blkN ws a a.length) [] 0#64).2 s.1.1 K) (fun k s pre hI => by obtain ⟨_, _, _, h, _⟩ := hI; exact get_append h) (fun k s d pre hI => by obtain ⟨_, _, _, h, _⟩ := hI; exact set_out (lt_of_get h)) ?_ (fun j pre c s => (j = Code.ret ∧ (K false s.1.1))) rfl ?_ ?_ ?_
 ·exact ⟨(usT (blkN ws a a.length) [] 0#64).1, rfl, fun q hq => by rw [usT_len q hq, blkN_len]; simp, hs, hI⟩
 ·intro pre d c post s hx hI Lp kr kb hkr hkb
  obtain ⟨⟨A0, g0⟩, hA0⟩ := s
  try dsimp only at hI ⊢
  have hA0 : A0.length = A.length := hA0
  obtain ⟨z, hz, hzl, hg0, hI⟩ := hI
  obtain ⟨us, z, rfl, rfl⟩ : ∃ us z1, z = (d, us) :: z1 ∧ c = fzN us := tv_cons (List.append_cancel_left (hz.symm.trans hx))
  have hul : us.length = szP a a.length := hzl _ (List.mem_cons_self ..)
  have hI1 := hI g0 hg0
  refine B_env (env' := u36) rfl ?_
  refine B_region ?_
  refine Lo u36 (v_move (.inr rfl) rfl) ?_
  refine L_nil ?_
  refine ⟨rfl, ⟨(A0.set y (gaB (g0 + d)), g0 + d), by rw [List.length_set]; exact hA0⟩, rfl, ?_⟩
  try dsimp only
  refine B_heap (H' := A0.set y (gaB (g0 + d)) ++ ([.dead, kb] ++ Lp)) (by simp) ?_
  refine B_block (B_seq (B_region ?_))
  refine Lo u36 (W47 rfl rfl rfl rfl) ?_
  refine Lo u36 (rfl) ?_
  refine Lo u36 (v_makeSlice rfl rfl rfl rfl rfl (by decide) ⟨by omega, Int.le_refl _, by show (a.length : Int) * (8 : Nat) ≤ _; omega, by omega⟩) ?_
  refine Lo u36 (v_move (.inr rfl) rfl) ?_
  refine L_nil (K_seq (B_seq (B_seq (B_region ?_))))
  refine Lo u36 (W47 rfl rfl rfl rfl) ?_
  refine Lo u36 (rfl) ?_
  refine Lo u36 (v_const (VVal.int .i64 0) (.inl rfl) rfl) ?_
  refine L_nil (K_seq (B_block ?_))
  refine B_clear (mk 36 68718559175) (env' := u36) rfl ?_
  refine B_loopE (fun (k : Nat) => a.length - k) (fun (k : Nat) => [(19, iI (k : Nat))]) (fun (k : Nat) G => (k ≤ a.length) ∧ G = A0.set y (gaB (g0 + d)) ++ (([.dead, kb] ++ Lp) ++ [.cells (rcN (plK a us k)) true])) 0 rfl ?_ ?_
  ·refine ⟨?_, (by rw [show plK a us 0 = List.replicate a.length 0 from rfl, ← rep_rc]; rfl)⟩
   exact Nat.zero_le _
  rintro k _ ⟨hk9, rfl⟩
  refine B_env (env' := u36) rfl ?_
  refine B_seq (B_region ?_)
  refine Lo u36 (rfl) ?_
  refine L_nil (K_seq (B_seq ?_))
  refine B_cond _ rfl (fun hc1 => ?_) (fun hc1 => ?_)
  ·try simp only [qB, qN] at hc1
   refine B_skip (K_seq (B_seq (B_block (B_seq (B_region ?_)))))
   refine Lo u36 (v_move (.inl rfl) rfl) ?_
   refine Lo u36 (W18 rfl rfl rfl rfl rfl rfl rfl) ?_
   refine Lo u36 (W47 rfl rfl rfl rfl) ?_
   refine Lo u36 (v_move (.inr rfl) rfl) ?_
   refine Lo u36 (v_move (.inr rfl) rfl) ?_
   refine L_nil (K_seq ?_)
   have hlt := Pat.lt ha (Nat.le_refl a.length) (i := k) (by omega)
   refine B_region ?_
   refine Lo u36 (v_move (.inl rfl) rfl) ?_
   refine Lo u36 (v_move (.inl rfl) rfl) ?_
   refine Lo u36 (v_move (.inl rfl) rfl) ?_
   refine Lo u36 (v_move (.inl rfl) rfl) ?_
   refine Lo u36 (W18 rfl rfl rfl rfl rfl rfl rfl) ?_
   refine Lo u36 (W47 rfl rfl rfl rfl) ?_
   refine Lo u36 (W18 rfl rfl rfl rfl rfl rfl rfl) ?_
   refine Lo u36 (W49 rfl rfl rfl rfl rfl rfl rfl) ?_
   refine L_nil (K_blk (K_seq (B_region ?_)))
   refine Lo u36 (W14 rfl rfl rfl) ?_
   refine Lo u36 (v_move (.inl rfl) rfl) ?_
   refine L_nil ?_
   refine K_loop (mk 36 68718559175) (env' := u36) rfl ⟨k + 1, ?_, rfl, ?_⟩
   ·first | omega | (simp only []; omega)
   ·exact ⟨by omega, by rw [plK_step (by omega)]⟩
  ·try simp only [qB, qN] at hc1
   refine B_exit (K_seqX (K_loopX (K_blkX (K_seq (B_seq ?_)))))
   obtain rfl : k = a.length := by omega
   rw [plK_all]
   refine B_gh (Gh.freezeL (l := rcN (plN a us)) 5 ([VBlk.dead, kb] ++ Lp).length rfl get_end (cellsAt_all (by rw [List.length_map, plN_len]; rfl)) (Nat.le_refl _) rfl) ?_
   rw [set_end]
   refine B_region ?_
   refine Lo u36 (W47 rfl rfl rfl rfl) ?_
   refine Lo u36 (v_move (.inl rfl) rfl) ?_
   refine L_callV rfl rfl rfl (by have h9 : Fv (psys x) (.yield l) [fzN (plN a us)] (A0.set y (gaB (g0 + d)) ++ (([.dead, kb] ++ Lp) ++ [.dead])) _ := hI1 _; rw [fzN_pl] at h9; exact h9) ?_
   rintro _ _ ⟨b, A2, J2, rfl, rfl, hA2, hk⟩; have hA3 : A2.length = A.length := hA2.trans hA0
   refine Le u36 ?_
   refine Lo u36 (rfl) ?_
   refine L_nil (K_seq ?_)
   refine B_cond _ rfl (fun hc2 => ?_) (fun hc2 => ?_)
   ·try simp only [qB, qN] at hc2
    have hb : b = false := by simpa using hc2
    subst hb
    have hk : K false A2 := hk
    refine B_ret (K_blkR ?_)
    refine ⟨⟨(A2, g0), hA3⟩, .dead :: J2, (by simp), .inr ⟨Code.ret, rfl, ⟨rfl, ?_⟩⟩⟩
    exact hk
   ·try simp only [qB, qN] at hc2
    have hb : b = true := by simpa using hc2
    subst hb
    obtain ⟨⟨g2, hg2⟩, hk2⟩ := hk
    refine B_skip (K_blk ?_)
    refine ⟨⟨(A2, g2), hA3⟩, .dead :: J2, (by simp), .inl ⟨rfl, ?_⟩⟩
    exact ⟨z, by rw [hz, List.append_assoc]; rfl, fun q hq => hzl q (List.mem_cons_of_mem _ hq), hg2, hk2⟩
 ·intro s k hk hI J9
  obtain ⟨⟨A0, g0⟩, hA0⟩ := s
  try dsimp only at hI ⊢
  obtain ⟨z, hz, hzl, hg0, hI⟩ := hI
  obtain rfl := tv_nil hz
  refine K_blk ?_
  refine E_keep (.inl rfl) (vres_none rfl) ?_
  exact W4b
 ·rintro j pre c post s k hk hx (⟨rfl, hX⟩) J9
  obtain ⟨⟨A0, g0⟩, hA0⟩ := s
  try dsimp only
  refine J_ret ?_
  refine K_blkR ?_
  refine E_keep (.inr rfl) (vres_none rfl) ?_
  exact W4b
end Go.Proofs.YtnbihdflnjpinaaDoor.VT

set_option autoImplicit false
set_option linter.unusedVariables false
set_option linter.unusedSimpArgs false
set_option maxHeartbeats 4000000
set_option maxRecDepth 100000
namespace Go.Proofs.YtnbihdflnjpinaaDoor.VT
open Go Go.V Go.RowKit
theorem W4c {T : TypeId → Option VTy} {H : VHeap} {op : Op} {ρ : Operand → VVal} {t : TypeId} {a : Operand} {y : VTy} {p : VVal} {n : Nat} {vs : List VVal} (ho : op = .load t a) (ha : ρ a = p) (hy : T t = some y) (hd : isAggDesc y.desc = true) (hn : y.size = n) (h : LdOkA H p n vs := by first | exact .inl ⟨_, _, rfl, by first | rfl | assumption⟩ | exact .inr ⟨_, _, _, _, rfl, by first | exact get_app rfl rfl | exact get_out (by assumption) | exact getE0 rfl rfl | exact get_out (get_app rfl rfl) | exact get_app rfl (by assumption) | assumption | (simp only [List.append_assoc, List.singleton_append, List.cons_append, List.nil_append]; refine getE (i := 0) rfl ?_ rfl; simp; done) | (simp only [List.append_assoc, List.singleton_append, List.cons_append, List.nil_append]; refine getE (i := 1) rfl ?_ rfl; simp; done) | (simp only [List.append_assoc, List.singleton_append, List.cons_append, List.nil_append]; refine getE (i := 2) rfl ?_ rfl; simp; done) | (simp only [List.append_assoc, List.singleton_append, List.cons_append, List.nil_append]; refine getE (i := 3) rfl ?_ rfl; simp; done) | (simp [*]; done), by first | rfl | assumption⟩) : vop T ρ H op = some (.agg vs, H) := v_ldA ho ha hy hd hn h
def leA (p : Pb) : Option (List Nat) := if pck p = 0 then fdA p.users.toNat (wsP p) (rssP p) else none
def leG (p : Pb) : Gz := if pck p = 0 then fdG p.users.toNat (wsP p) (rssP p) else 0
def leT : Option (List Nat) → VVal
  | some l => .tuple [fzN l, .bool true]
  | none => .tuple [fzN [], .bool false]
theorem rssP_len {p : Pb} : (rssP p).length = (wsP p).length := by unfold rssP; rw [addR_len, wsP_len]
theorem rssP_ok {p : Pb} (g : Go.V.Good p) : ∀ i, ((rssP p).getD i []).length ≤ 1000000 ∧ ∀ r, r ∈ (rssP p).getD i [] → r.steps.length ≤ 1000000 := fun i => by
  have g3 := g.r32; have g1 := g.n12
  have gs := fun r hr => rck_len (g.ru r hr)
  refine ⟨?_, fun r hr => ?_⟩
  · have := addR_row (n := p.who.length) (i := i) gs (m := p.rules.length) (Nat.le_refl _)
    unfold rssP; omega
  · have hin := fun r hr x hx => by
      have h := g.ru r hr
      unfold rck at h
      rw [Bool.and_eq_true, Bool.and_eq_true] at h
      have := riseA_mem _ _ h.2.1 x hx
      exact (show 0 ≤ x ∧ x < (p.who.length : Int) by omega)
    have := (addR_mem (n := p.who.length) (rs := p.rules) (r' := r) (i := i) hin (m := p.rules.length) (Nat.le_refl _)).1 hr
    rw [List.take_length] at this
    have := gs r this.1; omega
theorem New_N {x : SW} (H : VHeap) (p : Pb) (y : Nat) (hy : y < H.length) (g : Go.V.Good p) : F (psys x) 51 [.agg (pbB p), .ptr (some (y, 0))] H fun v G => v = huP (p.users.toNat : Nat) (fzW (wsP p)) (fzRR (rssP p)) y ∧ G = H := by
  rw [Int.toNat_of_nonneg g.u0]; exact New_spec H p y hy g
theorem Search_in {x : SW} (H L : VHeap) {p : Pb} {y : Nat} {g : Gz} (hs : H[y]? = some (gaB g)) (hg : Go.V.Good p) : F (psys x) 52 [iI (p.who.length : Nat), iI 1, kpV p.users.toNat (wsP p) (rssP p) y] (H ++ L) fun v G => v = .fsl ((frm (kpB (wsP p) (rssP p)) (kpG p.users.toNat (wsP p) (rssP p)) (wsP p).length [] 0).2.toList.map fzN) (frm (kpB (wsP p) (rssP p)) (kpG p.users.toNat (wsP p) (rssP p)) (wsP p).length [] 0).2.toList.length 1 false ∧ G = H.set y (gaB (g + (frm (kpB (wsP p) (rssP p)) (kpG p.users.toNat (wsP p) (rssP p)) (wsP p).length [] 0).1)) ++ L := by
  have g1 := hg.n12
  have := Search_spec (x := x) (u := p.users.toNat) (H ++ L) g (get_append hs) (by rw [wsP_len]; omega) rssP_len (rssP_ok hg) (by rw [wsP_len]; exact g1)
  rw [wsP_len] at this
  rw [set_out (lt_of_get hs)] at this
  rw [wsP_len]; exact this
theorem Least_bad {x : SW} (H : VHeap) (y : Nat) (g : Gz) (hs : H[y]? = some (gaB g)) (p : Pb) (hp : PbL p) (hb : ¬ pck p = 0) : F (psys x) 22 [.ptr (some (y, 0)), .agg (pbB p)] H fun v G => v = .tuple [fzN [], .bool false] ∧ G = H := by
 refine F_body Tryd.func22 rfl u35 rfl ?_
 refine B_seq (B_region ?_)
 refine Lo u35 (v_boxT rfl rfl rfl) ?_
 refine Lo u35 (v_alloc rfl rfl) ?_
 refine Lo u35 (v_alloc rfl rfl) ?_
 refine L_nil (K_seq (B_seq (B_seq ?_)))
 refine B_gh (Gh.freezePtrL (cs := pbB p) 3 0 rfl rfl rfl) ?_
 refine B_region ?_
 refine Lo u35 (W4c rfl rfl rfl rfl rfl) ?_
 refine L_call rfl rfl rfl (by exact sCheck_spec _ _ hp) ?_
 rintro _ _ ⟨rfl, rfl⟩
 refine Le u35 ?_
 refine Lo u35 (v_is true rfl (by simp [hb])) ?_
 refine L_nil (K_seq ?_)
 refine B_true rfl rfl ?_
 refine B_seq (B_region ?_)
 refine Lo u35 (v_storeC (VVal.slice none 0 0 true 0) rfl rfl rfl rfl rfl rfl rfl (by first | exact get_app rfl rfl | exact get_out (by assumption) | exact getE0 rfl rfl | exact get_out (get_app rfl rfl) | exact get_app rfl (by assumption) | assumption | (simp only [List.append_assoc, List.singleton_append, List.cons_append, List.nil_append]; refine getE (i := 0) rfl ?_ rfl; simp; done) | (simp only [List.append_assoc, List.singleton_append, List.cons_append, List.nil_append]; refine getE (i := 1) rfl ?_ rfl; simp; done) | (simp only [List.append_assoc, List.singleton_append, List.cons_append, List.nil_append]; refine getE (i := 2) rfl ?_ rfl; simp; done) | (simp only [List.append_assoc, List.singleton_append, List.cons_append, List.nil_append]; refine getE (i := 3) rfl ?_ rfl; simp; done) | (simp [*]; done)) (by first | exact Nat.le_of_ble_eq_true rfl | (simp only [List.length_map, List.length_cons, List.length_nil]; omega) | omega | (simp; done) | (simp; omega)) (by first | exact setE0 rfl rfl | (simp only [List.append_assoc, List.singleton_append, List.cons_append, List.nil_append]; refine setE (i := 0) rfl ?_; simp; done) | (simp only [List.append_assoc, List.singleton_append, List.cons_append, List.nil_append]; refine setE (i := 1) rfl ?_; simp; done) | (simp only [List.append_assoc, List.singleton_append, List.cons_append, List.nil_append]; refine setE (i := 2) rfl ?_; simp; done) | (simp only [List.append_assoc, List.singleton_append, List.cons_append, List.nil_append]; refine setE (i := 3) rfl ?_; simp; done) | (refine setB rfl ?_; simp; done) | exact set_app rfl | exact set_out (lt_of_get (by assumption)) | rfl)) ?_
 refine Lo u35 (v_storeC (VVal.bool false) rfl rfl rfl rfl rfl rfl rfl (by first | exact get_app rfl rfl | exact get_out (by assumption) | exact getE0 rfl rfl | exact get_out (get_app rfl rfl) | exact get_app rfl (by assumption) | assumption | (simp only [List.append_assoc, List.singleton_append, List.cons_append, List.nil_append]; refine getE (i := 0) rfl ?_ rfl; simp; done) | (simp only [List.append_assoc, List.singleton_append, List.cons_append, List.nil_append]; refine getE (i := 1) rfl ?_ rfl; simp; done) | (simp only [List.append_assoc, List.singleton_append, List.cons_append, List.nil_append]; refine getE (i := 2) rfl ?_ rfl; simp; done) | (simp only [List.append_assoc, List.singleton_append, List.cons_append, List.nil_append]; refine getE (i := 3) rfl ?_ rfl; simp; done) | (simp [*]; done)) (by first | exact Nat.le_of_ble_eq_true rfl | (simp only [List.length_map, List.length_cons, List.length_nil]; omega) | omega | (simp; done) | (simp; omega)) (by first | exact setE0 rfl rfl | (simp only [List.append_assoc, List.singleton_append, List.cons_append, List.nil_append]; refine setE (i := 0) rfl ?_; simp; done) | (simp only [List.append_assoc, List.singleton_append, List.cons_append, List.nil_append]; refine setE (i := 1) rfl ?_; simp; done) | (simp only [List.append_assoc, List.singleton_append, List.cons_append, List.nil_append]; refine setE (i := 2) rfl ?_; simp; done) | (simp only [List.append_assoc, List.singleton_append, List.cons_append, List.nil_append]; refine setE (i := 3) rfl ?_; simp; done) | (refine setB rfl ?_; simp; done) | exact set_app rfl | exact set_out (lt_of_get (by assumption)) | rfl)) ?_
 refine L_nil (K_seq ?_)
 refine B_gh (Gh.cellNilL 1 0 (es' := 1) rfl rfl) ?_
 refine B_ret (K_seqR ?_)
 refine W10 (.inr rfl) (vres_cells2 rfl rfl rfl rfl rfl rfl rfl (by first | exact get_app rfl rfl | exact get_out (by assumption) | exact getE0 rfl rfl | exact get_out (get_app rfl rfl) | exact get_app rfl (by assumption) | assumption | (simp only [List.append_assoc, List.singleton_append, List.cons_append, List.nil_append]; refine getE (i := 0) rfl ?_ rfl; simp; done) | (simp only [List.append_assoc, List.singleton_append, List.cons_append, List.nil_append]; refine getE (i := 1) rfl ?_ rfl; simp; done) | (simp only [List.append_assoc, List.singleton_append, List.cons_append, List.nil_append]; refine getE (i := 2) rfl ?_ rfl; simp; done) | (simp only [List.append_assoc, List.singleton_append, List.cons_append, List.nil_append]; refine getE (i := 3) rfl ?_ rfl; simp; done) | (simp [*]; done)) (by rfl) (by first | exact get_app rfl rfl | exact get_out (by assumption) | exact getE0 rfl rfl | exact get_out (get_app rfl rfl) | exact get_app rfl (by assumption) | assumption | (simp only [List.append_assoc, List.singleton_append, List.cons_append, List.nil_append]; refine getE (i := 0) rfl ?_ rfl; simp; done) | (simp only [List.append_assoc, List.singleton_append, List.cons_append, List.nil_append]; refine getE (i := 1) rfl ?_ rfl; simp; done) | (simp only [List.append_assoc, List.singleton_append, List.cons_append, List.nil_append]; refine getE (i := 2) rfl ?_ rfl; simp; done) | (simp only [List.append_assoc, List.singleton_append, List.cons_append, List.nil_append]; refine getE (i := 3) rfl ?_ rfl; simp; done) | (simp [*]; done)) (by rfl)) ?_
 exact ⟨rfl, rfl⟩
theorem Least_none {x : SW} (H : VHeap) (y : Nat) (g : Gz) (hs : H[y]? = some (gaB g)) (p : Pb) (hp : PbL p) (hg0 : pck p = 0) (hf : (frm (kpB (wsP p) (rssP p)) (kpG p.users.toNat (wsP p) (rssP p)) (wsP p).length [] 0).2 = none) : F (psys x) 22 [.ptr (some (y, 0)), .agg (pbB p)] H fun v G => v = .tuple [fzN [], .bool false] ∧ G = H.set y (gaB (g + (frm (kpB (wsP p) (rssP p)) (kpG p.users.toNat (wsP p) (rssP p)) (wsP p).length [] 0).1)) := by
 have hg : Go.V.Good p := pck_good.1 hg0
 refine F_body Tryd.func22 rfl u35 rfl ?_
 refine B_seq (B_region ?_)
 refine Lo u35 (v_boxT rfl rfl rfl) ?_
 refine Lo u35 (v_alloc rfl rfl) ?_
 refine Lo u35 (v_alloc rfl rfl) ?_
 refine L_nil (K_seq (B_seq (B_seq ?_)))
 refine B_gh (Gh.freezePtrL (cs := pbB p) 3 0 rfl rfl rfl) ?_
 refine B_region ?_
 refine Lo u35 (W4c rfl rfl rfl rfl rfl) ?_
 refine L_call rfl rfl rfl (by exact sCheck_spec _ _ hp) ?_
 rintro _ _ ⟨rfl, rfl⟩
 refine Le u35 ?_
 refine Lo u35 (v_is false rfl (by rw [hg0]; rfl)) ?_
 refine L_nil (K_seq ?_)
 refine B_false rfl rfl ?_
 refine B_skip (K_seq (B_seq ?_))
 refine B_draw [0, 1, 2, 3, 4, 5] #[0, 0, 2, 6, 15, 31] (by kernel_rfl) (by kernel_rfl) (by kernel_rfl) ?_
 refine Oo u35 .look rfl (W4c rfl rfl rfl rfl rfl) ?_
 refine Oo u35 .calm rfl (v_move (.inl rfl) rfl) ?_
 refine Oo u35 .calm rfl (rfl) ?_
 refine Oo u35 .calm rfl (rfl) ?_
 refine O_call (env' := u35) rfl rfl rfl rfl rfl (by exact New_N _ p y (by have := lt_of_get hs; simp; omega) hg) (by first | exact Nat.le_refl _ | simp) rfl rfl ?_
 refine Oo u35 .calm rfl (v_move (.inr rfl) rfl) ?_
 refine O_nil [] (by kernel_rfl) (trivial) ?_
 refine K_seq (B_seq (B_seq (B_region ?_)))
 refine Lo u35 (rfl) ?_
 refine Lo u35 (W3v rfl rfl rfl rfl) ?_
 refine Lo u35 (rfl) ?_
 refine Lo u35 (v_move (.inl rfl) rfl) ?_
 refine Lo u35 ((rfl : vop _ _ _ _ = some (kpV p.users.toNat (wsP p) (rssP p) y, _))) ?_
 refine L_call rfl rfl rfl (by exact Search_in H _ hs hg) ?_
 rintro _ _ ⟨rfl, rfl⟩; rw [hf]
 refine Le u35 ?_
 refine Lo u35 (rfl) ?_
 refine Lo u35 (v_const (VVal.int .i64 0) (.inl rfl) rfl) ?_
 refine L_nil (K_seq (B_block ?_))
 refine B_clear (mk 35 34301017999) (env' := u35) rfl ?_
 refine B_loopE (fun (k : Nat) => 0) (fun (k : Nat) => [(25, iI (k : Nat))]) (fun (k : Nat) G => (k = 0) ∧ G = H.set y (gaB (g + (frm (kpB (wsP p) (rssP p)) (kpG p.users.toNat (wsP p) (rssP p)) (wsP p).length [] 0).1)) ++ [.dead, .cells [niS] true, .cells [.bool false] true]) 0 rfl ?_ ?_
 ·refine ⟨?_, rfl⟩
  rfl
 rintro k _ ⟨hk9, rfl⟩
 refine B_env (env' := u35) rfl ?_
 refine B_seq (B_region ?_)
 refine Lo u35 (rfl) ?_
 refine L_nil (K_seq (B_seq ?_))
 refine B_cond _ rfl (fun hc1 => ?_) (fun hc1 => ?_)
 ·try simp only [qB, qN] at hc1
  exfalso; simp at hc1; omega
 ·try simp only [qB, qN] at hc1
  refine B_exit (K_seqX (K_loopX (K_blkX (K_seq (B_seq (B_region ?_))))))
  refine Lo u35 (v_storeC (VVal.slice none 0 0 true 0) rfl rfl rfl rfl rfl rfl rfl (by exact get_app (List.length_set) rfl) (by first | exact Nat.le_of_ble_eq_true rfl | (simp only [List.length_map, List.length_cons, List.length_nil]; omega) | omega | (simp; done) | (simp; omega)) (by exact set_app (List.length_set))) ?_
  refine Lo u35 (v_storeC (VVal.bool false) rfl rfl rfl rfl rfl rfl rfl (by exact get_app (List.length_set) rfl) (by first | exact Nat.le_of_ble_eq_true rfl | (simp only [List.length_map, List.length_cons, List.length_nil]; omega) | omega | (simp; done) | (simp; omega)) (by exact set_app (List.length_set))) ?_
  refine L_nil (K_seq ?_)
  refine B_gh (Gh.cellNilL 1 0 (es' := 1) rfl rfl) ?_
  refine B_ret ?_
  refine W1o (.inr rfl) (vres_cells2 rfl rfl rfl rfl rfl rfl rfl (by first | exact get_app rfl rfl | exact get_app (List.length_set) rfl) (by rfl) (by first | exact get_app rfl rfl | exact get_app (List.length_set) rfl) (by rfl)) ?_
  exact ⟨rfl, rfl⟩
end Go.Proofs.YtnbihdflnjpinaaDoor.VT

set_option autoImplicit false
set_option linter.unusedVariables false
set_option linter.unusedSimpArgs false
set_option maxHeartbeats 4000000
set_option maxRecDepth 100000
namespace Go.Proofs.YtnbihdflnjpinaaDoor.VT
open Go Go.V Go.RowKit
theorem W4j {T : TypeId → Option VTy} {H : VHeap} {op : Op} {ρ : VEnv} {H' : VHeap} {t : TypeId} {a : Operand} {i : Nat} {v : VVal} {y : VTy} {b off : Nat} {cs new : List VVal} (ho : op = .store t a (.tmp i)) (hv : ρ[i]? = some v) (ha : ρ.eval a = .ptr (some (b, off))) (hy : T t = some y) (hx : v.cells = some new) (hn : new.length = y.size) (h1 : new.all VVal.one = true) (hb : H[b]? = some (.cells cs true) := by exact get_app (List.length_set) rfl) (hl : off + new.length ≤ cs.length := by first | exact Nat.le_of_ble_eq_true rfl | (simp only [List.length_map, List.length_cons, List.length_nil]; omega) | omega | (simp; done) | (simp; omega)) (hH : H.set b (.cells (splice cs off new) true) = H' := by exact set_app (List.length_set)) : vop T ρ.eval H op = some (.skip, H') := v_storeT ho hv ha hy hx hn h1 hb hl hH
theorem W4k {S : V.Sys} {H : VHeap} {fn : Func} {ex : Exit} {env : VEnv} {B L : VHeap} {v : VVal} {R : VVal → VHeap → Prop} (hx : ex = .normal ∨ ex = .ret) (hv : vresults S.C.T env (B ++ L) fn.results = some v) (h : R v B) (hB : BaseOk H B := by exact BaseOk.set (BaseOk.refl _) _ rfl) (hu : v.under H.length = true := by show ((fzN _).under _ && (true && true)) = true; rw [show (fzN (plN a (lst (blkN (wsP p) a a.length) 0#64))).under _ = true from mapN_under _ _]; rfl) : fnK S fn H R ex env (B ++ L) := E_app hx hv hB hu h
theorem Least_some {x : SW} (H : VHeap) (y : Nat) (g : Gz) (hs : H[y]? = some (gaB g)) (p : Pb) (hp : PbL p) (hg0 : pck p = 0) (a : List Nat) (hf : (frm (kpB (wsP p) (rssP p)) (kpG p.users.toNat (wsP p) (rssP p)) (wsP p).length [] 0).2 = some a) (d9 : Gz) (z9 : List (Gz × List Nat)) (hq : (usT (blkN (wsP p) a a.length) [] 0#64).1 = (d9, (lst (blkN (wsP p) a a.length) 0#64)) :: z9) : F (psys x) 22 [.ptr (some (y, 0)), .agg (pbB p)] H fun v G => v = .tuple [fzN (plN a (lst (blkN (wsP p) a a.length) 0#64)), .bool true] ∧ G = H.set y (gaB (g + (frm (kpB (wsP p) (rssP p)) (kpG p.users.toNat (wsP p) (rssP p)) (wsP p).length [] 0).1 + d9)) := by
 have hg : Go.V.Good p := pck_good.1 hg0
 have hy := lt_of_get hs
 obtain ⟨_, hal, ha, _, _⟩ := fnd_ok hf
 have hw : a.length ≤ (wsP p).length := by omega
 have hn : (wsP p).length ≤ 1000000 := by rw [wsP_len]; exact hp.w
 obtain ⟨t9, hT9⟩ : ∃ t9, tv (plT a (usT (blkN (wsP p) a a.length) [] 0#64)) = (d9, fzN (plN a (lst (blkN (wsP p) a a.length) 0#64))) :: t9 := ⟨_, by unfold plT; rw [hq]; rfl⟩
 refine F_body Tryd.func22 rfl u35 rfl ?_
 refine B_seq (B_region ?_)
 refine Lo u35 (v_boxT rfl rfl rfl) ?_
 refine Lo u35 (v_alloc rfl rfl) ?_
 refine Lo u35 (v_alloc rfl rfl) ?_
 refine L_nil (K_seq (B_seq (B_seq ?_)))
 refine B_gh (Gh.freezePtrL (cs := pbB p) 3 0 rfl rfl rfl) ?_
 refine B_region ?_
 refine Lo u35 (W4c rfl rfl rfl rfl rfl) ?_
 refine L_call rfl rfl rfl (by exact sCheck_spec _ _ hp) ?_
 rintro _ _ ⟨rfl, rfl⟩
 refine Le u35 ?_
 refine Lo u35 (v_is false rfl (by rw [hg0]; rfl)) ?_
 refine L_nil (K_seq ?_)
 refine B_false rfl rfl ?_
 refine B_skip (K_seq (B_seq ?_))
 refine B_draw [0, 1, 2, 3, 4, 5] #[0, 0, 2, 6, 15, 31] (by kernel_rfl) (by kernel_rfl) (by kernel_rfl) ?_
 refine Oo u35 .look rfl (W4c rfl rfl rfl rfl rfl) ?_
 refine Oo u35 .calm rfl (v_move (.inl rfl) rfl) ?_
 refine Oo u35 .calm rfl (rfl) ?_
 refine Oo u35 .calm rfl (rfl) ?_
 refine O_call (env' := u35) rfl rfl rfl rfl rfl (by exact New_N _ p y (by simp; omega) hg) (by first | exact Nat.le_refl _ | simp) rfl rfl ?_
 refine Oo u35 .calm rfl (v_move (.inr rfl) rfl) ?_
 refine O_nil [] (by kernel_rfl) (trivial) ?_
 refine K_seq (B_seq (B_seq (B_region ?_)))
 refine Lo u35 (rfl) ?_
 refine Lo u35 (W3v rfl rfl rfl rfl) ?_
 refine Lo u35 (rfl) ?_
 refine Lo u35 (v_move (.inl rfl) rfl) ?_
 refine Lo u35 ((rfl : vop _ _ _ _ = some (kpV p.users.toNat (wsP p) (rssP p) y, _))) ?_
 refine L_call rfl rfl rfl (by exact Search_in H _ hs hg) ?_
 rintro _ _ ⟨rfl, rfl⟩; rw [hf]
 refine Le u35 ?_
 refine Lo u35 (rfl) ?_
 refine Lo u35 (v_const (VVal.int .i64 0) (.inl rfl) rfl) ?_
 refine L_nil (K_seq (B_block ?_))
 refine B_clear (mk 35 34301017999) (env' := u35) rfl ?_
 refine B_loopE (fun (k : Nat) => 0) (fun (k : Nat) => [(25, iI (k : Nat))]) (fun (k : Nat) G => (k = 0) ∧ G = H.set y (gaB (g + (frm (kpB (wsP p) (rssP p)) (kpG p.users.toNat (wsP p) (rssP p)) (wsP p).length [] 0).1)) ++ [.dead, .cells [niS] true, .cells [.bool false] true]) 0 rfl ?_ ?_
 ·refine ⟨?_, rfl⟩
  rfl
 rintro k _ ⟨rfl, rfl⟩
 refine B_env (env' := u35) rfl ?_
 refine B_seq (B_region ?_)
 refine Lo u35 (rfl) ?_
 refine L_nil (K_seq (B_seq ?_))
 refine B_cond _ rfl (fun hc1 => ?_) (fun hc1 => ?_)
 ·try simp only [qB, qN] at hc1
  refine B_skip (K_seq (B_seq (B_block (B_seq (B_region ?_)))))
  refine Lo u35 (W18 rfl rfl rfl rfl rfl rfl rfl) ?_
  refine Lo u35 (W3v rfl rfl rfl rfl) ?_
  refine Lo u35 (v_move (.inr rfl) rfl) ?_
  refine L_nil (K_seq (B_seq (B_region ?_)))
  refine Lo u35 (v_move (.inl rfl) rfl) ?_
  refine Lo u35 (v_move (.inl rfl) rfl) ?_
  refine L_call rfl rfl rfl (by exact Plans_spec _ y (by simp; omega) a) ?_
  rintro _ _ ⟨rfl, rfl⟩
  refine Le u35 ?_
  refine L_nil (K_seq (B_block ?_))
  refine B_clear (mk 35 32153534351) (env' := u35) rfl ?_
  refine B_rangePJ (y) (tv (plT a (usT (blkN (wsP p) a a.length) [] 0#64))) ((usT (blkN (wsP p) a a.length) [] 0#64).2) (fun l0 h => by cases h) rfl (fun l9 G9 K9 hg9 hI9 => Plans1_spec y l9 a ha hw hn G9 _ K9 hg9.choose_spec hI9) (σ := Gz × VVal × Bool) (fun k s => H.set y (gaB s.1) ++ [.dead, .cells [s.2.1] true, .cells [.bool s.2.2] true, k]) (g + (frm (kpB (wsP p) (rssP p)) (kpG p.users.toNat (wsP p) (rssP p)) (wsP p).length [] 0).1, niS, false) (fun k => by simp) (fun k s => by simp) (fun k s => by rw [show ((H.set y _) ++ _ : VHeap).length = H.length + 3 by simp]; exact get_app (List.length_set) rfl) (fun k k1 s => by rw [show ((H.set y _) ++ _ : VHeap).length = H.length + 3 by simp]; exact set_app (List.length_set)) (fun s => s.1) (fun d s => (s.1 + d, s.2)) (fun pre s => pre = [] ∧ s = (g + (frm (kpB (wsP p) (rssP p)) (kpG p.users.toNat (wsP p) (rssP p)) (wsP p).length [] 0).1, niS, false)) (fun k s pre hI => by exact get_append (List.getElem?_set_self hy)) (fun k s d pre hI => by rw [set_out (by rw [List.length_set]; exact hy), List.set_set]) ?_ (fun j pre c s => (j = Code.ret ∧ (s = (g + (frm (kpB (wsP p) (rssP p)) (kpG p.users.toNat (wsP p) (rssP p)) (wsP p).length [] 0).1 + d9, fzN (plN a (lst (blkN (wsP p) a a.length) 0#64)), true)))) rfl ?_ ?_ ?_
  ·exact ⟨rfl, rfl⟩
  ·intro pre d c post s hx hI Lp kr kb hkr hkb
   obtain ⟨g8, v8, b8⟩ := s
   try dsimp only at hI ⊢
   obtain ⟨rfl, hI⟩ := hI
   obtain ⟨rfl, rfl, rfl⟩ : g8 = _ ∧ v8 = _ ∧ b8 = _ := by simpa using hI
   obtain ⟨rfl, rfl⟩ : d = d9 ∧ c = fzN (plN a (lst (blkN (wsP p) a a.length) 0#64)) := by
    have h9 : (d9, fzN (plN a (lst (blkN (wsP p) a a.length) 0#64))) :: t9 = (d, c) :: post := (by rw [← hT9]; exact hx)
    injection h9 with h1 h2; injection h1 with h3 h4; exact ⟨h3.symm, h4.symm⟩
   refine B_env (env' := u35) rfl ?_
   refine B_region ?_
   refine Lo u35 (v_move (.inr rfl) rfl) ?_
   refine L_nil ?_
   refine ⟨rfl, (g + (frm (kpB (wsP p) (rssP p)) (kpG p.users.toNat (wsP p) (rssP p)) (wsP p).length [] 0).1 + d, niS, false), rfl, ?_⟩
   try dsimp only
   refine B_heap (H' := H.set y (gaB (g + (frm (kpB (wsP p) (rssP p)) (kpG p.users.toNat (wsP p) (rssP p)) (wsP p).length [] 0).1 + d)) ++ ([.dead, .cells [niS] true, .cells [.bool false] true, kb] ++ Lp)) (by simp) ?_
   refine B_block (B_seq (B_region ?_))
   refine Lo u35 (v_move (.inl rfl) rfl) ?_
   refine Lo u35 (W4j rfl rfl rfl rfl rfl rfl rfl) ?_
   refine Lo u35 (v_storeC (VVal.bool true) rfl rfl rfl rfl rfl rfl rfl (by exact get_app (List.length_set) rfl) (by first | exact Nat.le_of_ble_eq_true rfl | (simp only [List.length_map, List.length_cons, List.length_nil]; omega) | omega | (simp; done) | (simp; omega)) (by exact set_app (List.length_set))) ?_
   refine L_nil (K_seq (B_ret (K_blkR ?_)))
   refine ⟨(g + (frm (kpB (wsP p) (rssP p)) (kpG p.users.toNat (wsP p) (rssP p)) (wsP p).length [] 0).1 + d, fzN (plN a (lst (blkN (wsP p) a a.length) 0#64)), true), [], (by simp; exact ⟨rfl, rfl⟩), .inr ⟨Code.ret, rfl, ⟨rfl, ?_⟩⟩⟩
   rfl
  ·intro s k hk hI J9
   obtain ⟨g8, v8, b8⟩ := s
   try dsimp only at hI ⊢
   exfalso
   obtain ⟨h8, _⟩ := hI
   rw [hT9] at h8; cases h8
  ·rintro j pre c post s k hk hx (⟨rfl, hX⟩) J9
   obtain ⟨g8, v8, b8⟩ := s
   try dsimp only
   obtain ⟨rfl, rfl, rfl⟩ : g8 = _ ∧ v8 = _ ∧ b8 = _ := by simpa using hX
   rw [List.append_assoc (H.set _ _)]
   refine J_ret ?_
   refine K_blkR (K_blkR (K_seqR (K_loopR (K_blkR (K_seqR ?_)))))
   refine W4k (.inr rfl) (vres_cells2 rfl rfl rfl rfl rfl rfl rfl (by exact get_app (List.length_set) rfl) (by rfl) (by exact get_app (List.length_set) rfl) (by rfl)) ?_
   exact ⟨rfl, rfl⟩
 ·try simp only [qB, qN] at hc1
  exfalso; simp at hc1
end Go.Proofs.YtnbihdflnjpinaaDoor.VT

set_option autoImplicit false
set_option linter.unusedVariables false
set_option linter.unusedSimpArgs false
set_option maxHeartbeats 4000000
set_option maxRecDepth 100000
namespace Go.Proofs.YtnbihdflnjpinaaDoor.VT
open Go Go.V Go.RowKit
abbrev u3 {a0 a1 a2 : VVal} : VEnv := a0 :: a1 :: a2 :: []
abbrev u14 {a0 a1 a2 a3 a4 a5 a6 a7 a8 a9 a10 a11 a12 a13 : VVal} : VEnv := a0 :: a1 :: a2 :: a3 :: a4 :: a5 :: a6 :: a7 :: a8 :: a9 :: a10 :: a11 :: a12 :: a13 :: []
theorem sLeast_spec {x : SW} (H : VHeap) (y : Nat) (g : Gz) (hs : H[y]? = some (gaB g)) (p : Pb) (hp : PbL p) : F (psys x) 22 [.ptr (some (y, 0)), .agg (pbB p)] H fun v G => v = leT (leA p) ∧ G = H.set y (gaB (g + leG p)) := by
  by_cases hg : pck p = 0
  · cases hf : (frm (kpB (wsP p) (rssP p)) (kpG p.users.toNat (wsP p) (rssP p)) (wsP p).length [] 0).2 with
    | none =>
      refine (Least_none H y g hs p hp hg hf).mono ?_
      rintro v G ⟨rfl, rfl⟩
      rw [show leA p = none by unfold leA fdA; rw [if_pos hg, hf]; rfl, show leG p = (frm (kpB (wsP p) (rssP p)) (kpG p.users.toNat (wsP p) (rssP p)) (wsP p).length [] 0).1 by unfold leG fdG; rw [if_pos hg, hf]; exact Gz.add_zero _]
      exact ⟨rfl, rfl⟩
    | some a =>
      obtain ⟨_, _, _, _, hm⟩ := fnd_ok hf
      obtain ⟨d9, z9, hq⟩ := usT_fst hm
      refine (Least_some H y g hs p hp hg a hf d9 z9 hq).mono ?_
      rintro v G ⟨rfl, rfl⟩
      rw [show leA p = some (plN a (lst (blkN (wsP p) a a.length) 0#64)) by unfold leA fdA; rw [if_pos hg, hf]; rfl, show leG p = (frm (kpB (wsP p) (rssP p)) (kpG p.users.toNat (wsP p) (rssP p)) (wsP p).length [] 0).1 + d9 by unfold leG fdG; rw [if_pos hg, hf]; simp only [hq]; rfl]
      exact ⟨rfl, by rw [Gz.assoc]⟩
  · refine (Least_bad H y g hs p hp hg).mono ?_
    rintro v G ⟨rfl, rfl⟩
    rw [show leA p = none from if_neg hg, show leG p = 0 from if_neg hg, Gz.add_zero, ← set_keep hs]
    exact ⟨rfl, rfl⟩
theorem leT_can {o : Option (List Nat)} : ∃ l, leT o = .tuple [fzN l, .bool o.isSome] := by
  cases o with
  | none => exact ⟨[], rfl⟩
  | some l => exact ⟨l, rfl⟩
theorem sLeast_t {x : SW} (H : VHeap) (y : Nat) (g : Gz) (hs : H[y]? = some (gaB g)) (p : Pb) (hp : PbL p) : F (psys x) 22 [.ptr (some (y, 0)), .agg (pbB p)] H fun v G => ∃ l, v = .tuple [fzN l, .bool (leA p).isSome] ∧ G = H.set y (gaB (g + leG p)) := by
  refine (sLeast_spec H y g hs p hp).mono ?_
  rintro v G ⟨rfl, rfl⟩
  obtain ⟨l, h⟩ := @leT_can (leA p)
  exact ⟨l, h, rfl⟩
theorem Can_spec {x : SW} (H : VHeap) (y : Nat) (g : Gz) (hs : H[y]? = some (gaB g)) (p : Pb) (hp : PbL p) : F (psys x) 25 [.ptr (some (y, 0)), .agg (pbB p)] H fun v G => v = .bool (leA p).isSome ∧ G = H.set y (gaB (g + leG p)) := by
 refine F_body Tryd.func25 rfl u14 rfl ?_
 refine B_seq (B_region ?_)
 refine Lo u14 (v_boxT rfl rfl rfl) ?_
 refine Lo u14 (v_const (VVal.bool false) (.inr rfl) rfl) ?_
 refine L_nil (K_seq (B_seq (B_region ?_)))
 refine Lo u14 (v_move (.inl rfl) rfl) ?_
 refine Lo u14 (W11 rfl rfl rfl rfl rfl) ?_
 refine L_call rfl rfl rfl (by exact sLeast_t _ y g (get_append hs) p hp) ?_
 rintro _ _ ⟨l, rfl, rfl⟩; rw [set_out (lt_of_get hs)]
 refine Le u14 ?_
 refine Lo u14 (v_move (.inl rfl) rfl) ?_
 refine Lo u14 (rfl) ?_
 refine Lo u14 (rfl) ?_
 refine Lo u14 (v_move (.inr rfl) rfl) ?_
 refine Lo u14 (v_move (.inr rfl) rfl) ?_
 refine L_nil (K_seq (B_seq (B_region ?_)))
 refine Lo u14 (v_move (.inl rfl) rfl) ?_
 refine Lo u14 (v_move (.inr rfl) rfl) ?_
 refine L_nil (K_seq (B_ret ?_))
 refine W1o (.inr rfl) (vres_tmp rfl rfl) ?_
 exact ⟨rfl, rfl⟩
theorem sNew_spec {x : SW} (H : VHeap) : F (psys x) 21 [] H fun v G => v = .ptr (some (H.length, 0)) ∧ G = H ++ [gaB 0] := by
 refine F_body Tryd.func21 rfl u3 rfl ?_
 refine B_seq (B_region ?_)
 refine Lo u3 (v_const (VVal.ptr none) (.inr rfl) rfl) ?_
 refine L_nil (K_seq (B_seq (B_region ?_)))
 refine Lo u3 (rfl) ?_
 refine Lo u3 (v_boxT rfl rfl rfl) ?_
 refine Lo u3 (v_move (.inr rfl) rfl) ?_
 refine L_nil (K_seq (B_ret ?_))
 refine E_keep (.inr rfl) (vres_tmp rfl rfl) ?_
 exact ⟨rfl, rfl⟩
end Go.Proofs.YtnbihdflnjpinaaDoor.VT

set_option autoImplicit false
set_option linter.unusedVariables false
set_option linter.unusedSimpArgs false
set_option maxHeartbeats 4000000
set_option maxRecDepth 100000
namespace Go.Proofs.YtnbihdflnjpinaaDoor.VT
open Go Go.V Go.RowKit
theorem cells_get {l w : List VVal} {off m j : Nat} (h : cellsAt l off m = some w) (hj : j < m) : l[off + j]? = w[j]? := by
  unfold cellsAt at h
  split at h
  · injection h with h; subst h
    rw [List.getElem?_take, if_pos hj, List.getElem?_drop]
  · cases h
end Go.Proofs.YtnbihdflnjpinaaDoor.VT

set_option autoImplicit false
set_option linter.unusedVariables false
set_option linter.unusedSimpArgs false
set_option maxHeartbeats 4000000
set_option maxRecDepth 100000
namespace Go.Proofs.YtnbihdflnjpinaaDoor.VT
open Go Go.V Go.RowKit
abbrev u26 {a0 a1 a2 a3 a4 a5 a6 a7 a8 a9 a10 a11 a12 a13 a14 a15 a16 a17 a18 a19 a20 a21 a22 a23 a24 a25 : VVal} : VEnv := a0 :: a1 :: a2 :: a3 :: a4 :: a5 :: a6 :: a7 :: a8 :: a9 :: a10 :: a11 :: a12 :: a13 :: a14 :: a15 :: a16 :: a17 :: a18 :: a19 :: a20 :: a21 :: a22 :: a23 :: a24 :: a25 :: []
abbrev u41 {a0 a1 a2 a3 a4 a5 a6 a7 a8 a9 a10 a11 a12 a13 a14 a15 a16 a17 a18 a19 a20 a21 a22 a23 a24 a25 a26 a27 a28 a29 a30 a31 a32 a33 a34 a35 a36 a37 a38 a39 a40 : VVal} : VEnv := a0 :: a1 :: a2 :: a3 :: a4 :: a5 :: a6 :: a7 :: a8 :: a9 :: a10 :: a11 :: a12 :: a13 :: a14 :: a15 :: a16 :: a17 :: a18 :: a19 :: a20 :: a21 :: a22 :: a23 :: a24 :: a25 :: a26 :: a27 :: a28 :: a29 :: a30 :: a31 :: a32 :: a33 :: a34 :: a35 :: a36 :: a37 :: a38 :: a39 :: a40 :: []
theorem W4p {T : TypeId → Option VTy} {H : VHeap} {op : Op} {ρ : Operand → VVal} {t : TypeId} {a : Operand} {y : VTy} {p v : VVal} (ho : op = .load t a) (ha : ρ a = p) (hy : T t = some y) (hd : isAggDesc y.desc = false) (h : LdOk H p v := by first | exact .inl ⟨_, _, rfl, by first | rfl | exact fgetN (α := Int) 0 (by omega)⟩ | exact .inr ⟨_, _, _, _, rfl, by first | exact get_app rfl rfl | exact get_out (by assumption) | exact getE0 rfl rfl | exact get_out (get_app rfl rfl) | exact get_app rfl (by assumption) | assumption | (simp only [List.append_assoc, List.singleton_append, List.cons_append, List.nil_append]; refine getE (i := 0) rfl ?_ rfl; simp; done) | (simp only [List.append_assoc, List.singleton_append, List.cons_append, List.nil_append]; refine getE (i := 1) rfl ?_ rfl; simp; done) | (simp only [List.append_assoc, List.singleton_append, List.cons_append, List.nil_append]; refine getE (i := 2) rfl ?_ rfl; simp; done) | (simp only [List.append_assoc, List.singleton_append, List.cons_append, List.nil_append]; refine getE (i := 3) rfl ?_ rfl; simp; done) | (simp [*]; done), by first | rfl | exact fgetN (α := Int) 0 (by omega)⟩) : vop T ρ H op = some (v, H) := v_ld ho ha hy hd h
theorem kInts_spec {x : SW} (H : VHeap) (l r : List (Int)) (h1 : l.length ≤ 1000000) : F (psys x) 24 [fzI l, fzI r] H fun v G => v = .bool (decide (l = r)) ∧ G = H := by
 refine F_body Tryd.func24 rfl u26 rfl ?_
 refine B_seq (B_region ?_)
 refine Lo u26 (v_const (VVal.bool false) (.inr rfl) rfl) ?_
 refine L_nil (K_seq (B_seq (B_seq (B_region ?_))))
 refine Lo u26 (v_move (.inl rfl) rfl) ?_
 refine Lo u26 (rfl) ?_
 refine Lo u26 (v_move (.inl rfl) rfl) ?_
 refine Lo u26 (rfl) ?_
 refine Lo u26 (rfl) ?_
 refine L_nil (K_seq ?_)
 refine B_cond _ rfl (fun hc1 => ?_) (fun hc1 => ?_)
 ·try simp only [qB, qN] at hc1
  refine B_seq (B_region ?_)
  refine Lo u26 (v_const (VVal.bool false) (.inr rfl) rfl) ?_
  refine L_nil (K_seq (B_ret (K_seqR ?_)))
  refine W10 (.inr rfl) (vres_tmp rfl rfl) ?_
  exact ⟨by rw [decide_eq_false (fun e => by rw [e] at hc1; omega)], rfl⟩
 ·try simp only [qB, qN] at hc1
  refine B_skip (K_seq (B_seq (B_seq (B_region ?_))))
  refine Lo u26 (v_const (VVal.int .i64 0) (.inr rfl) rfl) ?_
  refine L_nil (K_seq (B_block ?_))
  refine B_clear (mk 26 67108828) (env' := u26) rfl ?_
  refine B_loopE (fun (k : Nat) => l.length - k) (fun (k : Nat) => [(5, iI (k : Nat))]) (fun (k : Nat) G => (k ≤ l.length ∧ ∀ j, j < k → l.getD j 0 = r.getD j 0) ∧ G = H ++ []) 0 rfl ?_ ?_
  ·refine ⟨?_, rfl⟩
   exact ⟨Nat.zero_le _, fun j h => by omega⟩
  rintro k _ ⟨⟨hk, hall⟩, rfl⟩
  refine B_env (env' := u26) rfl ?_
  refine B_seq (B_seq (B_region ?_))
  refine Lo u26 (v_move (.inl rfl) rfl) ?_
  refine Lo u26 (v_move (.inl rfl) rfl) ?_
  refine Lo u26 (rfl) ?_
  refine Lo u26 (rfl) ?_
  refine L_nil (K_seq ?_)
  refine B_cond _ rfl (fun hc2 => ?_) (fun hc2 => ?_)
  ·try simp only [qB, qN] at hc2
   refine B_skip (K_seq (B_seq (B_block (B_seq ?_))))
   refine B_draw [0, 1, 2, 3, 4, 5, 6, 7, 8] #[0, 0, 3, 7, 0, 0, 48, 112, 255] (by kernel_rfl) (by kernel_rfl) (by kernel_rfl) ?_
   refine Oo u26 .calm rfl (v_move (.inl rfl) rfl) ?_
   refine Oo u26 .calm rfl (v_move (.inl rfl) rfl) ?_
   refine Oo u26 .calm rfl (W18 rfl rfl rfl rfl rfl rfl rfl) ?_
   refine Oo u26 .look rfl (W4p rfl rfl rfl rfl) ?_
   refine Oo u26 .calm rfl (v_move (.inl rfl) rfl) ?_
   refine Oo u26 .calm rfl (v_move (.inl rfl) rfl) ?_
   refine Oo u26 .calm rfl (W18 rfl rfl rfl rfl rfl rfl rfl) ?_
   refine Oo u26 .look rfl (W4p rfl rfl rfl rfl) ?_
   refine Oo u26 .calm rfl (rfl) ?_
   refine O_nil [] (by kernel_rfl) (trivial) ?_
   refine K_seq ?_
   refine B_cond _ rfl (fun hc3 => ?_) (fun hc3 => ?_)
   ·try simp only [qB, qN] at hc3
    refine B_seq (B_region ?_)
    refine Lo u26 (v_const (VVal.bool false) (.inr rfl) rfl) ?_
    refine L_nil (K_seq (B_ret (K_blkR (K_seqR (K_loopR (K_blkR (K_seqR ?_)))))))
    refine W10 (.inr rfl) (vres_tmp rfl rfl) ?_
    exact ⟨by rw [decide_eq_false (fun e => by subst e; exact hc3 rfl)], rfl⟩
   ·try simp only [qB, qN] at hc3
    refine B_skip (K_blk (K_seq (B_region ?_)))
    refine Lo u26 (v_move (.inl rfl) rfl) ?_
    refine Lo u26 (W14 rfl rfl rfl) ?_
    refine Lo u26 (v_move (.inr rfl) rfl) ?_
    refine L_nil ?_
    refine K_loop (mk 26 67108828) (env' := u26) rfl ⟨k + 1, ?_, rfl, ?_⟩
    ·first | omega | (simp only []; omega)
    ·exact ⟨⟨by omega, fun j hj => by by_cases e : j = k; (subst e; assumption); exact hall j (by omega)⟩, rfl⟩
  ·try simp only [qB, qN] at hc2
   refine B_exit (K_seqX (K_loopX (K_blkX (K_seq (B_seq (B_region ?_))))))
   refine Lo u26 (v_const (VVal.bool true) (.inr rfl) rfl) ?_
   refine L_nil (K_seq (B_ret ?_))
   refine W10 (.inr rfl) (vres_tmp rfl rfl) ?_
   have e := eq_getD (d := 0) (by omega) (fun j hj => hall j (by omega))
   exact ⟨by rw [decide_eq_true e], rfl⟩
def pw : Pb := (3, [3#64, 3#64, 4#64], [-1, -1, -1], [(1, 0, [0, 1], ())], ())
theorem wk_le : leA pw = some [0, 1, 2] := by decide +kernel
theorem pw_L : PbL pw := ⟨by decide, by decide, by decide, by decide, fun r hr => by
  have hr : r ∈ [((1 : Int), (0 : Int), [(0 : Int), 1], ())] := hr
  rw [List.mem_singleton] at hr; subst hr; decide⟩
theorem wk_h : hds pw [0, 1, 2] = true := by decide +kernel
theorem wk_c : pck pw = 0 := by decide +kernel
theorem wk_t : leT (leA pw) = .tuple [fzI [0, 1, 2], .bool true] := by rw [wk_le]; rfl
theorem at_get {H L : VHeap} {k : VBlk} : (H ++ k :: L)[H.length]? = some k := by rw [List.getElem?_append_right (Nat.le_refl _), Nat.sub_self]; rfl
theorem at_set {H L : VHeap} {k k' : VBlk} : (H ++ k :: L).set H.length k' = H ++ k' :: L := by rw [List.set_append_right _ _ (Nat.le_refl _), Nat.sub_self]; rfl
theorem sLeast_at {x : SW} (H L : VHeap) (g : Gz) (p : Pb) (hp : PbL p) : F (psys x) 22 [.ptr (some (H.length, 0)), .agg (pbB p)] (H ++ gaB g :: L) fun v G => v = leT (leA p) ∧ G = H ++ gaB (g + leG p) :: L := by
  have := sLeast_spec (x := x) (H ++ gaB g :: L) H.length g at_get p hp
  rw [at_set] at this; exact this
theorem Can_at {x : SW} (H L : VHeap) (g : Gz) (p : Pb) (hp : PbL p) : F (psys x) 25 [.ptr (some (H.length, 0)), .agg (pbB p)] (H ++ gaB g :: L) fun v G => v = .bool (leA p).isSome ∧ G = H ++ gaB (g + leG p) :: L := by
  have := Can_spec (x := x) (H ++ gaB g :: L) H.length g at_get p hp
  rw [at_set] at this; exact this
theorem wakes_spec {x : SW} (H : VHeap) : F (psys x) 19 [] H fun v G => v = .bool true ∧ G = H := by
 refine F_body Tryd.func19 rfl u41 rfl ?_
 refine B_seq (B_region ?_)
 refine Lo u41 (v_const (VVal.bool false) (.inr rfl) rfl) ?_
 refine L_nil (K_seq (B_seq (B_region ?_)))
 refine L_call rfl rfl rfl (by exact sNew_spec _) ?_
 rintro _ _ ⟨rfl, rfl⟩; rw [List.append_nil]
 refine Le u41 ?_
 refine Lo u41 (v_move (.inr rfl) rfl) ?_
 refine L_nil (K_seq (B_seq (B_seq (B_region ?_))))
 refine Lo u41 (v_move (.inl rfl) rfl) ?_
 refine Lo u41 (v_is false rfl rfl) ?_
 refine L_nil (K_seq ?_)
 refine B_false rfl rfl ?_
 refine B_skip (K_seq (B_seq (B_region ?_)))
 refine Lo u41 (v_buildSlice rfl rfl (by decide) rfl) ?_
 refine Lo u41 (v_buildSlice rfl rfl (by decide) rfl) ?_
 refine Lo u41 (v_buildSlice rfl rfl (by decide) rfl) ?_
 refine Lo u41 (rfl) ?_
 refine Lo u41 (v_buildSlice rfl rfl (by decide) rfl) ?_
 refine Lo u41 (rfl) ?_
 refine Lo u41 (v_alloc rfl rfl) ?_
 refine Lo u41 (W13 rfl rfl rfl rfl rfl rfl rfl) ?_
 refine L_nil (K_seq (B_seq (B_region ?_)))
 refine L_gh (Gh.cellL (l := [iI 0, iI 1]) 4 2 3 rfl rfl (by decide) rfl rfl (Nat.le_refl _)) ?_
 refine L_gh (Gh.cellL (l := [iW 3#64, iW 3#64, iW 4#64]) 5 1 1 rfl rfl (by decide) rfl rfl (Nat.le_refl _)) ?_
 refine L_gh (Gh.cellL (l := [iI (-1), iI (-1), iI (-1)]) 5 2 2 rfl rfl (by decide) rfl rfl (Nat.le_refl _)) ?_
 refine L_gh (Gh.cellL (l := rlB (1, 0, [0, 1], ())) 5 3 4 rfl rfl (by decide) rfl rfl (Nat.le_refl _)) ?_
 refine Lo u41 (v_move (.inl rfl) rfl) ?_
 refine Lo u41 (W11 rfl rfl rfl rfl rfl) ?_
 refine L_call rfl rfl rfl (by exact sLeast_at H _ 0 pw pw_L) ?_
 rintro v _ ⟨hv, rfl⟩; rw [wk_t] at hv; subst hv
 refine Le u41 ?_
 refine Lo u41 (v_move (.inl rfl) rfl) ?_
 refine Lo u41 (rfl) ?_
 refine Lo u41 (rfl) ?_
 refine Lo u41 (v_move (.inr rfl) rfl) ?_
 refine Lo u41 (v_move (.inr rfl) rfl) ?_
 refine L_nil (K_seq (B_seq (B_region ?_)))
 refine Lo u41 (v_move (.inl rfl) rfl) ?_
 refine Lo u41 (v_move (.inl rfl) rfl) ?_
 refine Lo u41 (v_move (.inl rfl) rfl) ?_
 refine Lo u41 (v_buildSlice rfl rfl (by decide) rfl) ?_
 refine L_gh (Gh.freezeL (l := [iI 0, iI 1, iI 2]) 23 6 rfl rfl rfl (Nat.le_refl _) rfl) ?_
 refine L_call rfl rfl rfl (by exact kInts_spec _ [0, 1, 2] [0, 1, 2] (by decide)) ?_
 rintro v _ ⟨hv, rfl⟩; obtain rfl : v = .bool true := hv.trans (congrArg VVal.bool (by decide))
 refine Le u41 ?_
 refine Lo u41 (v_pickT rfl rfl rfl) ?_
 refine Lo u41 (v_move (.inl rfl) rfl) ?_
 refine Lo u41 (v_move (.inl rfl) rfl) ?_
 refine Lo u41 (W11 rfl rfl rfl rfl rfl) ?_
 refine L_call rfl rfl rfl (by exact Can_at H _ (0 + leG pw) pw pw_L) ?_
 rintro v _ ⟨hv, rfl⟩; obtain rfl : v = .bool true := hv.trans (congrArg VVal.bool (by rw [wk_le]; rfl))
 refine Le u41 ?_
 refine Lo u41 (v_pickT rfl rfl rfl) ?_
 refine Lo u41 (v_move (.inl rfl) rfl) ?_
 refine Lo u41 (W11 rfl rfl rfl rfl rfl) ?_
 refine Lo u41 (v_move (.inl rfl) rfl) ?_
 refine L_call rfl rfl rfl (by exact Holds_spec _ pw [0, 1, 2] pw_L (by decide)) ?_
 rintro v _ ⟨hv, rfl⟩; obtain rfl : v = .bool true := hv.trans (congrArg VVal.bool wk_h)
 refine Le u41 ?_
 refine Lo u41 (v_pickT rfl rfl rfl) ?_
 refine Lo u41 (v_move (.inl rfl) rfl) ?_
 refine Lo u41 (W11 rfl rfl rfl rfl rfl) ?_
 refine L_call rfl rfl rfl (by exact sCheck_spec _ pw pw_L) ?_
 rintro v _ ⟨hv, rfl⟩; rw [wk_c] at hv; subst hv
 refine Le u41 ?_
 refine Lo u41 (rfl) ?_
 refine Lo u41 (v_pickT rfl rfl rfl) ?_
 refine Lo u41 (v_move (.inr rfl) rfl) ?_
 refine L_nil (K_seq (B_ret ?_))
 refine W10 (.inr rfl) (vres_tmp rfl rfl) ?_
 exact ⟨rfl, rfl⟩
end Go.Proofs.YtnbihdflnjpinaaDoor.VT

set_option autoImplicit false
set_option linter.unusedVariables false
set_option linter.unusedSimpArgs false
set_option maxHeartbeats 4000000
set_option maxRecDepth 100000
namespace Go.Proofs.YtnbihdflnjpinaaDoor.VT
open Go Go.V Go.RowKit
abbrev u11 {a0 a1 a2 a3 a4 a5 a6 a7 a8 a9 a10 : VVal} : VEnv := a0 :: a1 :: a2 :: a3 :: a4 :: a5 :: a6 :: a7 :: a8 :: a9 :: a10 :: []
theorem rowP_spec {x : SW} (H : VHeap) (l : List Int) : F (psys x) 17 [fzI l] H fun v G => v = .slice (some (H.length, 0)) (l.take 30).length (l.take 30).length (decide ((l.take 30).length = 0)) 1 ∧ G = H ++ [.cells ((l.take 30).map iI) true] := by
 refine F_body Tryd.func17 rfl u11 rfl ?_
 refine B_seq (B_region ?_)
 refine Lo u11 (v_const (VVal.slice none 0 0 true 0) (.inr rfl) rfl) ?_
 refine L_nil (K_seq (B_seq (B_seq (B_region ?_))))
 refine Lo u11 (v_move (.inl rfl) rfl) ?_
 refine Lo u11 (rfl) ?_
 refine Lo u11 (rfl) ?_
 refine L_nil (K_seq ?_)
 refine B_cond _ rfl (fun hc1 => ?_) (fun hc1 => ?_)
 ·try simp only [qB] at hc1
  refine B_region ?_
  refine Lo u11 (v_move (.inl rfl) rfl) ?_
  refine Lo u11 (v_iHi (k := 30) rfl rfl rfl rfl rfl rfl rfl (by omega)) ?_
  refine Lo u11 (v_move (.inr rfl) rfl) ?_
  refine L_nil (K_seq (B_seq (B_region ?_)))
  have h30 : (l.take 30).length ≤ 30 := by rw [List.length_take]; omega
  try rw [show fzI l = fzI (l.take 30) by rw [List.take_of_length_le (by omega)]]
  refine Lo u11 (v_buildSlice rfl rfl (by decide) rfl) ?_
  refine Lo u11 (v_move (.inl rfl) rfl) ?_
  refine L_opX rfl rfl (v_appE (k := (l.take 30).length) rfl rfl rfl rfl rfl rfl rfl rfl (by rw [List.length_map]; exact (Nat.mul_one _).symm) (mapI_one _) (by decide) (by show (l.take 30).length * 8 ≤ _ ∧ (l.take 30).length ≤ _; omega)) ?_
  rintro _ _ ⟨Z, i, rfl, rfl, hi⟩
  refine Le u11 ?_
  refine Lo u11 (v_move (.inr rfl) rfl) ?_
  refine L_nil (K_seq (B_ret ?_))
  refine E_gh (.inr rfl) (vres_tmp rfl rfl) (Gh.pack (BaseOk.refl _) hi (mapI_under _ _)) ?_
  exact ⟨rfl, rfl⟩
 ·try simp only [qB] at hc1
  refine B_skip (K_seq (B_seq (B_region ?_)))
  have h30 : (l.take 30).length ≤ 30 := by rw [List.length_take]; omega
  try rw [show fzI l = fzI (l.take 30) by rw [List.take_of_length_le (by omega)]]
  refine Lo u11 (v_buildSlice rfl rfl (by decide) rfl) ?_
  refine Lo u11 (v_move (.inl rfl) rfl) ?_
  refine L_opX rfl rfl (v_appE (k := (l.take 30).length) rfl rfl rfl rfl rfl rfl rfl rfl (by rw [List.length_map]; exact (Nat.mul_one _).symm) (mapI_one _) (by decide) (by show (l.take 30).length * 8 ≤ _ ∧ (l.take 30).length ≤ _; omega)) ?_
  rintro _ _ ⟨Z, i, rfl, rfl, hi⟩
  refine Le u11 ?_
  refine Lo u11 (v_move (.inr rfl) rfl) ?_
  refine L_nil (K_seq (B_ret ?_))
  refine E_gh (.inr rfl) (vres_tmp rfl rfl) (Gh.pack (BaseOk.refl _) hi (mapI_under _ _)) ?_
  exact ⟨rfl, rfl⟩
theorem row_spec {x : SW} (H : VHeap) (l : List Int) : F (psys x) 17 [fzI l] H fun v G => v = fzI (l.take 30) ∧ G = H :=
  F.gh (rowP_spec H l) fun v G h => by
    obtain ⟨rfl, rfl⟩ := h
    exact ⟨_, _, Gh.fsl (j := 0) (BaseOk.refl H) rfl map_all (Nat.le_refl _) (mapI_under _ _), rfl, rfl⟩
end Go.Proofs.YtnbihdflnjpinaaDoor.VT

set_option autoImplicit false
set_option linter.unusedVariables false
set_option linter.unusedSimpArgs false
set_option maxHeartbeats 4000000
set_option maxRecDepth 100000
namespace Go.Proofs.YtnbihdflnjpinaaDoor.VT
open Go Go.V Go.RowKit
end Go.Proofs.YtnbihdflnjpinaaDoor.VT

set_option autoImplicit false
set_option linter.unusedVariables false
set_option linter.unusedSimpArgs false
set_option maxHeartbeats 4000000
set_option maxRecDepth 100000
namespace Go.Proofs.YtnbihdflnjpinaaDoor.VT
open Go Go.V Go.RowKit
end Go.Proofs.YtnbihdflnjpinaaDoor.VT

set_option autoImplicit false
set_option linter.unusedVariables false
set_option linter.unusedSimpArgs false
set_option maxHeartbeats 4000000
set_option maxRecDepth 100000
namespace Go.Proofs.YtnbihdflnjpinaaDoor.VT
open Go Go.V Go.RowKit
end Go.Proofs.YtnbihdflnjpinaaDoor.VT

set_option autoImplicit false
set_option linter.unusedVariables false
set_option linter.unusedSimpArgs false
set_option maxHeartbeats 4000000
set_option maxRecDepth 100000
namespace Go.Proofs.YtnbihdflnjpinaaDoor.VT
open Go Go.V Go.RowKit
theorem spl_I {l : List Int} {k : Nat} {w : Int} (h : k < l.length) : splice (l.map iI) (0 + k * 1) [iI w] = (l.set k w).map iI := by
  rw [show 0 + k * 1 = k by omega]
  unfold splice
  rw [List.map_set, List.set_eq_take_append_cons_drop, if_pos (by rw [List.length_map]; exact h)]; simp
end Go.Proofs.YtnbihdflnjpinaaDoor.VT

set_option autoImplicit false
set_option linter.unusedVariables false
set_option linter.unusedSimpArgs false
set_option maxHeartbeats 4000000
set_option maxRecDepth 100000
namespace Go.Proofs.YtnbihdflnjpinaaDoor.VT
open Go Go.V Go.RowKit
end Go.Proofs.YtnbihdflnjpinaaDoor.VT

set_option autoImplicit false
set_option linter.unusedVariables false
set_option linter.unusedSimpArgs false
set_option maxHeartbeats 4000000
set_option maxRecDepth 100000
namespace Go.Proofs.YtnbihdflnjpinaaDoor.VT
open Go Go.V Go.RowKit
end Go.Proofs.YtnbihdflnjpinaaDoor.VT

set_option autoImplicit false
set_option linter.unusedVariables false
set_option linter.unusedSimpArgs false
set_option maxHeartbeats 4000000
set_option maxRecDepth 100000
namespace Go.Proofs.YtnbihdflnjpinaaDoor.VT
open Go Go.V Go.RowKit
abbrev u43 {a0 a1 a2 a3 a4 a5 a6 a7 a8 a9 a10 a11 a12 a13 a14 a15 a16 a17 a18 a19 a20 a21 a22 a23 a24 a25 a26 a27 a28 a29 a30 a31 a32 a33 a34 a35 a36 a37 a38 a39 a40 a41 a42 : VVal} : VEnv := a0 :: a1 :: a2 :: a3 :: a4 :: a5 :: a6 :: a7 :: a8 :: a9 :: a10 :: a11 :: a12 :: a13 :: a14 :: a15 :: a16 :: a17 :: a18 :: a19 :: a20 :: a21 :: a22 :: a23 :: a24 :: a25 :: a26 :: a27 :: a28 :: a29 :: a30 :: a31 :: a32 :: a33 :: a34 :: a35 :: a36 :: a37 :: a38 :: a39 :: a40 :: a41 :: a42 :: []
theorem W4u {T : TypeId → Option VTy} {H : VHeap} {op : Op} {ρ : Operand → VVal} {t : TypeId} {a : Operand} {y : VTy} {p v : VVal} (ho : op = .load t a) (ha : ρ a = p) (hy : T t = some y) (hd : isAggDesc y.desc = false) (h : LdOk H p v := by first | exact .inl ⟨_, _, rfl, by first | rfl | assumption | exact fgetN (α := Int) 0 (by omega) | exact fgetN (α := Nat) 0 (by omega)⟩ | exact .inr ⟨_, _, _, _, rfl, by first | exact get_app rfl rfl | exact get_out (by assumption) | exact getE0 rfl rfl | exact get_out (get_app rfl rfl) | exact get_app rfl (by assumption) | assumption | (simp only [List.append_assoc, List.singleton_append, List.cons_append, List.nil_append]; refine getE (i := 0) rfl ?_ rfl; simp; done) | (simp only [List.append_assoc, List.singleton_append, List.cons_append, List.nil_append]; refine getE (i := 1) rfl ?_ rfl; simp; done) | (simp only [List.append_assoc, List.singleton_append, List.cons_append, List.nil_append]; refine getE (i := 2) rfl ?_ rfl; simp; done) | (simp only [List.append_assoc, List.singleton_append, List.cons_append, List.nil_append]; refine getE (i := 3) rfl ?_ rfl; simp; done) | (simp [*]; done), by first | rfl | assumption | exact fgetN (α := Int) 0 (by omega) | exact fgetN (α := Nat) 0 (by omega)⟩) : vop T ρ H op = some (v, H) := v_ld ho ha hy hd h
theorem W4v {T : TypeId → Option VTy} {H : VHeap} {op : Op} {ρ : VEnv} {H' : VHeap} {t : TypeId} {a : Operand} {i : Nat} {v : VVal} {y : VTy} {b off : Nat} {cs new : List VVal} (ho : op = .store t a (.tmp i)) (hv : ρ[i]? = some v) (ha : ρ.eval a = .ptr (some (b, off))) (hy : T t = some y) (hx : v.cells = some new) (hn : new.length = y.size) (h1 : new.all VVal.one = true) (hb : H[b]? = some (.cells cs true) := by first | exact get_app rfl rfl | exact get_out (by assumption) | exact getE0 rfl rfl | exact get_out (get_app rfl rfl) | exact get_app rfl (by assumption) | assumption | (simp only [List.append_assoc, List.singleton_append, List.cons_append, List.nil_append]; refine getE (i := 0) rfl ?_ rfl; simp; done) | (simp only [List.append_assoc, List.singleton_append, List.cons_append, List.nil_append]; refine getE (i := 1) rfl ?_ rfl; simp; done) | (simp only [List.append_assoc, List.singleton_append, List.cons_append, List.nil_append]; refine getE (i := 2) rfl ?_ rfl; simp; done) | (simp only [List.append_assoc, List.singleton_append, List.cons_append, List.nil_append]; refine getE (i := 3) rfl ?_ rfl; simp; done) | (simp [*]; done)) (hl : off + new.length ≤ cs.length := by show 0 + k * 1 + 1 ≤ _; rw [List.length_map, ofZ_len (by omega)]; omega) (hH : H.set b (.cells (splice cs off new) true) = H' := by exact (set_app rfl).trans (by first | (show H ++ [VBlk.cells (splice (rcN (ofZ l k)) (0 + k * 1) [iI (((ofK l k).2.length : Nat) : Int)]) true, VBlk.map (ofM ((ofK l k).2 ++ [l.getD k 0]))] = _; rw [spl_N (by rw [ofZ_len (by omega)]; omega)]) | (show H ++ [VBlk.cells (splice (rcN (ofZ l k)) (0 + k * 1) [iI (((ofK l k).2.idxOf (l.getD k 0) : Nat) : Int)]) true, VBlk.map (ofM (ofK l k).2)] = _; rw [spl_N (by rw [ofZ_len (by omega)]; omega)]))) : vop T ρ.eval H op = some (.skip, H') := v_storeT ho hv ha hy hx hn h1 hb hl hH
theorem W4x {S : V.Sys} {H : VHeap} {fn : Func} {ex : Exit} {env : VEnv} {B L : VHeap} {v : VVal} {R : VVal → VHeap → Prop} (hx : ex = .normal ∨ ex = .ret) (hv : vresults S.C.T env (B ++ L) fn.results = some v) (h : R v B) (hB : BaseOk H B := by first | exact BaseOk.refl _ | exact BaseOk.set (BaseOk.refl _) _ rfl) (hu : v.under H.length = true := by first | rfl | exact (show ((fzN (ofP l)).under H.length && (true && true)) = true by rw [ofP_under]; rfl)) : fnK S fn H R ex env (B ++ L) := E_app hx hv hB hu h
def ofM (vs : List Int) : List (VVal × VVal) := vs.map fun y => (iI y, iI (vs.idxOf y : Nat))
theorem ofM_len {vs : List Int} : (ofM vs).length = vs.length := by unfold ofM; rw [List.length_map]
theorem of_get {vs : List Int} {x : Int} : mget (iI x) (ofM vs) = some (if x ∈ vs then some (iI (vs.idxOf x : Nat)) else none) := by unfold ofM; rw [mget_map]
theorem of_put {vs : List Int} {x : Int} (hn : vs.Nodup) (h : x ∉ vs) : mput (iI x) (iI (vs.length : Nat)) (ofM vs) = ofM (vs ++ [x]) := by
  unfold ofM
  rw [mput_map _ hn, if_neg h]
  apply List.map_congr_left
  intro y hy
  by_cases e : y = x
  · subst e; rw [if_pos rfl, List.idxOf_append, if_neg h]; simp
  · rw [if_neg e]
    have hm : y ∈ vs := by
      rcases List.mem_append.1 hy with h1 | h1
      · exact h1
      · simp at h1; exact absurd h1 e
    rw [List.idxOf_append, if_pos hm]
theorem ofK_nd {l : List Int} : ∀ {k : Nat}, (ofK l k).2.Nodup
  | 0 => List.nodup_nil
  | k + 1 => by
    rw [ofK]
    split
    · exact ofK_nd
    · rename_i h
      exact List.nodup_append.2 ⟨ofK_nd, by simp, fun a ha b hb => by rw [List.mem_singleton] at hb; subst hb; exact fun e => h (e ▸ ha)⟩
theorem ofK_le {l : List Int} : ∀ {k : Nat}, (ofK l k).2.length ≤ k
  | 0 => Nat.le_refl _
  | k + 1 => by
    have := @ofK_le l k
    rw [ofK]; split
    · show (ofK l k).2.length ≤ k + 1; omega
    · show (_ ++ [_]).length ≤ _; rw [List.length_append]; show _ + 1 ≤ _; omega
def ofZ (l : List Int) (k : Nat) : List Nat := (ofK l k).1 ++ List.replicate (l.length - k) 0
theorem ofZ_len {l : List Int} {k : Nat} (h : k ≤ l.length) : (ofZ l k).length = l.length := by unfold ofZ; rw [List.length_append, ofK_len, List.length_replicate]; omega
theorem ofZ_all {l : List Int} : ofZ l l.length = ofP l := by unfold ofZ ofP; simp
theorem ofZ_set {l : List Int} {k v : Nat} (h : k < l.length) (hv : (ofK l (k + 1)).1 = (ofK l k).1 ++ [v]) : (ofZ l k).set k v = ofZ l (k + 1) := by
  unfold ofZ
  rw [hv, List.set_append_right _ _ (by rw [ofK_len]; exact Nat.le_refl _), ofK_len, Nat.sub_self, show l.length - k = (l.length - (k + 1)) + 1 by omega, List.replicate_succ, List.set_cons_zero, List.append_assoc]; rfl
theorem ofK_yes {l : List Int} {k : Nat} (h : l.getD k 0 ∈ (ofK l k).2) : ofK l (k + 1) = ((ofK l k).1 ++ [(ofK l k).2.idxOf (l.getD k 0)], (ofK l k).2) := by rw [ofK, if_pos h]
theorem ofK_no {l : List Int} {k : Nat} (h : l.getD k 0 ∉ (ofK l k).2) : ofK l (k + 1) = ((ofK l k).1 ++ [(ofK l k).2.length], (ofK l k).2 ++ [l.getD k 0]) := by rw [ofK, if_neg h]
theorem ofP_len' {l : List Int} : (ofP l).length = l.length := ofK_len
theorem v_lookT {T : TypeId → Option VTy} {ρ : Operand → VVal} {H : VHeap} {op : Op} {t kt et : TypeId} {x k : Operand} {y z kz : VTy} {b : Nat} {n : Int} {es : List (VVal × VVal)} {o : Option VVal} (ho : op = .lookup t x k true) (hx : ρ x = .map (some b)) (hk : ρ k = iI n) (hy : T t = some y) (hd : y.desc = .map kt et) (hz : T et = some z) (hk1 : T kt = some kz) (hk2 : kz.desc = .int .i64) (ha : isAggDesc z.desc = false) (hz0 : z.zero = [iI 0])
    (hb : H[b]? = some (.map es)) (hg : mget (iI n) es = some o) : vop T ρ H op = some (.tuple [o.getD (iI 0), .bool o.isSome], H) := by
  rw [ho]
  simp only [vop, vlookup, hx, hk, hy, hd, hz, hb, keyOk, hk1, hk2, hz0, ha]
  rw [if_pos ⟨by rfl, .inr rfl⟩]
  rw [hg]
  cases o <;> rfl
theorem of_look {vs : List Int} {x : Int} : (if x ∈ vs then some (iI (vs.idxOf x : Nat)) else none).getD (iI 0) = iI ((if x ∈ vs then vs.idxOf x else 0 : Nat) : Int) ∧ (if x ∈ vs then some (iI (vs.idxOf x : Nat)) else none).isSome = decide (x ∈ vs) := by
  by_cases h : x ∈ vs
  · simp [h]
  · simp [h]
theorem ofP_under (n : Nat) (a : List Nat) : (fzN a).under n = true := mapN_under n a
theorem pOf_spec {x : SW} (H : VHeap) (l : List Int) (hl : l.length ≤ 25) : F (psys x) 60 [fzI l] H fun v G => v = .tuple [fzN (ofP l), iI 0] ∧ G = H := by
 refine F_body Tryd.func60 rfl u43 rfl ?_
 refine B_seq (B_region ?_)
 refine Lo u43 (v_const (VVal.slice none 0 0 true 0) (.inr rfl) rfl) ?_
 refine Lo u43 (v_const (VVal.int .i64 0) (.inr rfl) rfl) ?_
 refine L_nil (K_seq (B_seq (B_seq (B_region ?_))))
 refine Lo u43 (v_move (.inl rfl) rfl) ?_
 refine Lo u43 (rfl) ?_
 refine Lo u43 (v_is false rfl (by simp; omega)) ?_
 refine L_nil (K_seq ?_)
 refine B_false rfl rfl ?_
 refine B_skip (K_seq (B_seq (B_region ?_)))
 refine Lo u43 (v_move (.inl rfl) rfl) ?_
 refine Lo u43 (rfl) ?_
 refine Lo u43 (v_makeSlice rfl rfl rfl rfl rfl (by decide) ⟨by omega, Int.le_refl _, by show (l.length : Int) * (8 : Nat) ≤ _; omega, by omega⟩) ?_
 refine Lo u43 (v_map rfl) ?_
 refine Lo u43 (v_move (.inr rfl) rfl) ?_
 refine Lo u43 (v_move (.inr rfl) rfl) ?_
 refine L_nil (K_seq (B_seq (B_seq (B_region ?_))))
 refine Lo u43 (v_move (.inl rfl) rfl) ?_
 refine Lo u43 (rfl) ?_
 refine Lo u43 (v_const (VVal.int .i64 0) (.inl rfl) rfl) ?_
 refine L_nil (K_seq (B_block ?_))
 refine B_clear (mk 43 8796092104655) (env' := u43) rfl ?_
 refine B_loopE (fun (k : Nat) => l.length - k) (fun (k : Nat) => [(19, iI (k : Nat))]) (fun (k : Nat) G => (k ≤ l.length) ∧ G = H ++ [.cells (rcN (ofZ l k)) true, .map (ofM (ofK l k).2)]) 0 rfl ?_ ?_
 ·refine ⟨?_, (by rw [show ofZ l 0 = List.replicate l.length 0 from rfl, ← rep_rc]; rfl)⟩
  exact Nat.zero_le _
 rintro k _ ⟨hk, rfl⟩
 refine B_env (env' := u43) rfl ?_
 refine B_seq (B_region ?_)
 refine Lo u43 (rfl) ?_
 refine L_nil (K_seq (B_seq ?_))
 refine B_cond _ rfl (fun hc1 => ?_) (fun hc1 => ?_)
 ·try simp only [qB, qN] at hc1
  refine B_skip (K_seq (B_seq (B_block (B_seq (B_region ?_)))))
  refine Lo u43 (v_move (.inl rfl) rfl) ?_
  refine Lo u43 (W18 rfl rfl rfl rfl rfl rfl rfl) ?_
  refine Lo u43 (W4u rfl rfl rfl rfl) ?_
  refine Lo u43 (v_move (.inr rfl) rfl) ?_
  refine Lo u43 (v_move (.inr rfl) rfl) ?_
  refine L_nil (K_seq (B_seq ?_))
  have hle := @ofK_le l k
  have hnd := @ofK_nd l k
  refine B_region ?_
  refine Lo u43 (v_move (.inl rfl) rfl) ?_
  refine Lo u43 (v_move (.inl rfl) rfl) ?_
  refine Lo u43 (v_val (v_lookT rfl rfl rfl rfl rfl rfl rfl rfl rfl rfl (get_app rfl rfl) of_get) (show _ = VVal.tuple [iI ((if l.getD k 0 ∈ (ofK l k).2 then (ofK l k).2.idxOf (l.getD k 0) else 0 : Nat) : Int), .bool (decide (l.getD k 0 ∈ (ofK l k).2))] by rw [of_look.1, of_look.2])) ?_
  refine Lo u43 (v_move (.inl rfl) rfl) ?_
  refine Lo u43 (rfl) ?_
  refine Lo u43 (rfl) ?_
  refine Lo u43 (v_move (.inr rfl) rfl) ?_
  refine Lo u43 (v_move (.inr rfl) rfl) ?_
  refine L_nil (K_seq (B_seq (B_seq (B_region ?_))))
  refine Lo u43 (v_move (.inl rfl) rfl) ?_
  refine Lo u43 (rfl) ?_
  refine L_nil (K_seq ?_)
  refine B_cond _ rfl (fun hc2 => ?_) (fun hc2 => ?_)
  ·try simp only [qB, qN] at hc2
   have hm : l.getD k 0 ∉ (ofK l k).2 := by assumption
   have hK := ofK_no hm
   refine B_seq (B_region ?_)
   refine Lo u43 (v_move (.inl rfl) rfl) ?_
   refine Lo u43 (v_val (v_lenM rfl rfl rfl rfl (get_app rfl rfl)) (by rw [ofM_len])) ?_
   refine Lo u43 (v_move (.inr rfl) rfl) ?_
   refine L_nil (K_seq (B_region ?_))
   refine Lo u43 (v_move (.inl rfl) rfl) ?_
   refine Lo u43 (v_move (.inl rfl) rfl) ?_
   refine Lo u43 (v_move (.inl rfl) rfl) ?_
   refine Lo u43 (v_mupdI rfl rfl rfl rfl rfl rfl rfl rfl (get_app rfl rfl) of_get ((congrArg (fun m => List.set _ _ (VBlk.map m)) (of_put hnd hm)).trans (set_app rfl))) ?_
   refine L_nil (K_seq (B_region ?_))
   refine Lo u43 (v_move (.inl rfl) rfl) ?_
   refine Lo u43 (v_move (.inl rfl) rfl) ?_
   refine Lo u43 (v_move (.inl rfl) rfl) ?_
   refine Lo u43 (W18 rfl rfl rfl rfl rfl rfl rfl) ?_
   refine Lo u43 (W4v rfl rfl rfl rfl rfl rfl rfl) ?_
   refine L_nil (K_blk (K_seq (B_region ?_)))
   refine Lo u43 (W14 rfl rfl rfl) ?_
   refine Lo u43 (v_move (.inl rfl) rfl) ?_
   refine L_nil ?_
   refine K_loop (mk 43 8796092104655) (env' := u43) rfl ⟨k + 1, ?_, rfl, ?_⟩
   ·first | omega | (simp only []; omega)
   ·exact ⟨by omega, by rw [ofZ_set (by omega) (congrArg Prod.fst hK), hK]⟩
  ·try simp only [qB, qN] at hc2
   have hm : l.getD k 0 ∈ (ofK l k).2 := by assumption
   have hK := ofK_yes hm
   rw [if_pos hm]
   refine B_skip (K_seq (B_region ?_))
   refine Lo u43 (v_move (.inl rfl) rfl) ?_
   refine Lo u43 (v_move (.inl rfl) rfl) ?_
   refine Lo u43 (v_move (.inl rfl) rfl) ?_
   refine Lo u43 (W18 rfl rfl rfl rfl rfl rfl rfl) ?_
   refine Lo u43 (W4v rfl rfl rfl rfl rfl rfl rfl) ?_
   refine L_nil (K_blk (K_seq (B_region ?_)))
   refine Lo u43 (W14 rfl rfl rfl) ?_
   refine Lo u43 (v_move (.inl rfl) rfl) ?_
   refine L_nil ?_
   refine K_loop (mk 43 8796092104655) (env' := u43) rfl ⟨k + 1, ?_, rfl, ?_⟩
   ·first | omega | (simp only []; omega)
   ·exact ⟨by omega, by rw [ofZ_set (by omega) (congrArg Prod.fst hK), hK]⟩
 ·try simp only [qB, qN] at hc1
  refine B_exit (K_seqX (K_loopX (K_blkX (K_seq (B_seq ?_)))))
  obtain rfl : k = l.length := by omega
  rw [ofZ_all]
  refine B_gh (Gh.freezeL (l := rcN (ofP l)) 4 0 rfl rfl (cellsAt_all (by rw [List.length_map, ofP_len']; rfl)) (Nat.le_refl _) rfl) ?_
  refine B_region ?_
  refine Lo u43 (v_move (.inl rfl) rfl) ?_
  refine Lo u43 (v_move (.inr rfl) rfl) ?_
  refine Lo u43 (v_const (VVal.int .i64 0) (.inr rfl) rfl) ?_
  refine L_nil (K_seq (B_ret ?_))
  refine W4x (.inr rfl) (vres_tmp2 rfl rfl rfl) ?_
  exact ⟨by show _ = VVal.tuple [.fsl (rcN (ofP l)) (ofP l).length 1 false, iI 0]; rw [ofP_len']; rfl, rfl⟩
theorem Of_big {x : SW} (H : VHeap) (l : List Int) (hl : 25 < l.length) : F (psys x) 60 [fzI l] H fun v G => v = .tuple [fzN [], iI 2] ∧ G = H := by
 refine F_body Tryd.func60 rfl u43 rfl ?_
 refine B_seq (B_region ?_)
 refine Lo u43 (v_const (VVal.slice none 0 0 true 0) (.inr rfl) rfl) ?_
 refine Lo u43 (v_const (VVal.int .i64 0) (.inr rfl) rfl) ?_
 refine L_nil (K_seq (B_seq (B_seq (B_region ?_))))
 refine Lo u43 (v_move (.inl rfl) rfl) ?_
 refine Lo u43 (rfl) ?_
 refine Lo u43 (v_is true rfl (by simp; omega)) ?_
 refine L_nil (K_seq ?_)
 refine B_true rfl rfl ?_
 refine B_seq (B_region ?_)
 refine Lo u43 (v_const (VVal.slice none 0 0 true 0) (.inr rfl) rfl) ?_
 refine Lo u43 (v_const (VVal.int .i64 2) (.inr rfl) rfl) ?_
 refine L_nil (K_seq ?_)
 refine B_gh (Gh.freezeNil 2 (es' := 1) rfl rfl) ?_
 refine B_ret (K_seqR ?_)
 refine W10 (.inr rfl) (vres_tmp2 rfl rfl rfl) ?_
 exact ⟨rfl, rfl⟩
end Go.Proofs.YtnbihdflnjpinaaDoor.VT

set_option autoImplicit false
set_option linter.unusedVariables false
set_option linter.unusedSimpArgs false
set_option maxHeartbeats 4000000
set_option maxRecDepth 100000
namespace Go.Proofs.YtnbihdflnjpinaaDoor.VT
open Go Go.V Go.RowKit
theorem W50 {P : Prop} (h : P := by first | exact ⟨by rw [show cmpI [x1] [y1] = -1 by simp [cmpI]; omega], rfl⟩ | exact ⟨by rw [show cmpI [x1] [y1] = 1 by simp [cmpI]; omega], rfl⟩ | exact ⟨by rw [show cmpI [x1] [y1] = 0 by simp [cmpI]; omega], rfl⟩ | (exfalso; simp at *; done)) : P := h
theorem W53 {P : Prop} (h : P := by first | (exfalso; omega) | exact ⟨by rw [cmpI_same hl (fun i hi => hall i (by omega))], rfl⟩ | exact ⟨by rw [cmpI_at (k := k) (by omega) (by omega) hall (by assumption)], rfl⟩ | (exfalso; omega)) : P := h
theorem W55 {P : Prop} (h : P := by first | exact ⟨by rw [hE, if_neg (by assumption)], rfl⟩ | exact ⟨by rw [hE, if_pos (by assumption)], rfl⟩ | exact ⟨by rw [bef_len (by omega)], rfl⟩) : P := h
theorem isNaN_spec {x : SW} (H : VHeap) (x1 : Int) : F (psys x) 106 [iI x1] H fun v G => v = .bool false ∧ G = H := by
 refine F_body Tryd.func106 rfl u6 rfl ?_
 refine B_seq (B_region ?_)
 refine Lo u6 (v_const (VVal.bool false) (.inr rfl) rfl) ?_
 refine L_nil (K_seq (B_seq (B_region ?_)))
 refine Lo u6 (v_move (.inl rfl) rfl) ?_
 refine Lo u6 (v_move (.inl rfl) rfl) ?_
 refine Lo u6 (v_is false rfl (by simp)) ?_
 refine Lo u6 (v_move (.inr rfl) rfl) ?_
 refine L_nil (K_seq (B_ret ?_))
 refine W10 (.inr rfl) (vres_tmp rfl rfl) ?_
 exact ⟨rfl, rfl⟩
theorem cmpC_spec {x : SW} (H : VHeap) (x1 y1 : Int) : F (psys x) 89 [iI x1, iI y1] H fun v G => v = iI (cmpI [x1] [y1]) ∧ G = H := by
 refine F_body Tryd.func89 rfl u20 rfl ?_
 refine B_seq (B_region ?_)
 refine Lo u20 (v_const (VVal.int .i64 0) (.inr rfl) rfl) ?_
 refine L_nil (K_seq (B_seq (B_region ?_)))
 refine Lo u20 (v_move (.inl rfl) rfl) ?_
 refine L_call rfl rfl rfl (by exact isNaN_spec _ _) ?_
 rintro _ _ ⟨rfl, rfl⟩
 refine Le u20 ?_
 refine Lo u20 (v_move (.inr rfl) rfl) ?_
 refine L_nil (K_seq (B_seq (B_region ?_)))
 refine Lo u20 (v_move (.inl rfl) rfl) ?_
 refine L_call rfl rfl rfl (by exact isNaN_spec _ _) ?_
 rintro _ _ ⟨rfl, rfl⟩
 refine Le u20 ?_
 refine Lo u20 (v_move (.inr rfl) rfl) ?_
 refine L_nil (K_seq (B_seq (B_seq (B_region ?_))))
 refine Lo u20 (v_move (.inl rfl) rfl) ?_
 refine L_nil (K_seq ?_)
 refine B_cond _ rfl (fun hc1 => ?_) (fun hc1 => ?_)
 ·try simp only [qB] at hc1
  refine B_seq (B_seq (B_region ?_))
  refine Lo u20 (v_move (.inl rfl) rfl) ?_
  refine L_nil (K_seq ?_)
  refine B_cond _ rfl (fun hc2 => ?_) (fun hc2 => ?_)
  ·try simp only [qB] at hc2
   refine B_seq (B_region ?_)
   refine Lo u20 (v_const (VVal.int .i64 0) (.inr rfl) rfl) ?_
   refine L_nil (K_seq (B_ret (K_seqR (K_seqR ?_))))
   refine W10 (.inr rfl) (vres_tmp rfl rfl) ?_
   exact W50
  ·try simp only [qB] at hc2
   refine B_skip (K_seq (B_seq (B_region ?_)))
   refine Lo u20 (v_const (VVal.int .i64 (-1)) (.inr rfl) rfl) ?_
   refine L_nil (K_seq (B_ret (K_seqR ?_)))
   refine W10 (.inr rfl) (vres_tmp rfl rfl) ?_
   exact W50
 ·try simp only [qB] at hc1
  refine B_skip (K_seq (B_seq (B_seq (B_region ?_))))
  refine Lo u20 (v_move (.inl rfl) rfl) ?_
  refine L_nil (K_seq ?_)
  refine B_cond _ rfl (fun hc3 => ?_) (fun hc3 => ?_)
  ·try simp only [qB] at hc3
   refine B_seq (B_region ?_)
   refine Lo u20 (v_const (VVal.int .i64 1) (.inr rfl) rfl) ?_
   refine L_nil (K_seq (B_ret (K_seqR ?_)))
   refine W10 (.inr rfl) (vres_tmp rfl rfl) ?_
   exact W50
  ·try simp only [qB] at hc3
   refine B_skip (K_seq (B_seq (B_seq (B_region ?_))))
   refine Lo u20 (v_move (.inl rfl) rfl) ?_
   refine Lo u20 (v_move (.inl rfl) rfl) ?_
   refine Lo u20 (rfl) ?_
   refine L_nil (K_seq ?_)
   refine B_cond _ rfl (fun hc4 => ?_) (fun hc4 => ?_)
   ·try simp only [qB] at hc4
    refine B_seq (B_region ?_)
    refine Lo u20 (v_const (VVal.int .i64 (-1)) (.inr rfl) rfl) ?_
    refine L_nil (K_seq (B_ret (K_seqR ?_)))
    refine W10 (.inr rfl) (vres_tmp rfl rfl) ?_
    exact W50
   ·try simp only [qB] at hc4
    refine B_skip (K_seq (B_seq (B_seq (B_region ?_))))
    refine Lo u20 (v_move (.inl rfl) rfl) ?_
    refine Lo u20 (v_move (.inl rfl) rfl) ?_
    refine Lo u20 (rfl) ?_
    refine L_nil (K_seq ?_)
    refine B_cond _ rfl (fun hc5 => ?_) (fun hc5 => ?_)
    ·try simp only [qB] at hc5
     refine B_seq (B_region ?_)
     refine Lo u20 (v_const (VVal.int .i64 1) (.inr rfl) rfl) ?_
     refine L_nil (K_seq (B_ret (K_seqR ?_)))
     refine W10 (.inr rfl) (vres_tmp rfl rfl) ?_
     exact W50
    ·try simp only [qB] at hc5
     refine B_skip (K_seq (B_seq (B_region ?_)))
     refine Lo u20 (v_const (VVal.int .i64 0) (.inr rfl) rfl) ?_
     refine L_nil (K_seq (B_ret ?_))
     refine W10 (.inr rfl) (vres_tmp rfl rfl) ?_
     exact W50
theorem cmpI_drop {a b : List Int} : ∀ {k : Nat}, k ≤ a.length → k ≤ b.length → (∀ i, i < k → a.getD i 0 = b.getD i 0) → cmpI a b = cmpI (a.drop k) (b.drop k)
  | 0, _, _, _ => rfl
  | k + 1, h1, h2, h3 => by
    rw [cmpI_drop (k := k) (by omega) (by omega) (fun i hi => h3 i (by omega))]
    have e := h3 k (by omega)
    rw [List.getD_eq_getElem?_getD, List.getElem?_eq_getElem (by omega), List.getD_eq_getElem?_getD, List.getElem?_eq_getElem (by omega)] at e
    have e : a[k] = b[k] := e
    rw [List.drop_eq_getElem_cons (l := a) (by omega), List.drop_eq_getElem_cons (l := b) (by omega), cmpI, if_pos e]
theorem cmpI_at {a b : List Int} {k : Nat} (h1 : k < a.length) (h2 : k < b.length) (h3 : ∀ i, i < k → a.getD i 0 = b.getD i 0) (h4 : cmpI [a.getD k 0] [b.getD k 0] ≠ 0) : cmpI a b = cmpI [a.getD k 0] [b.getD k 0] := by
  rw [cmpI_drop (by omega) (by omega) h3, List.drop_eq_getElem_cons (l := a) h1, List.drop_eq_getElem_cons (l := b) h2]
  rw [List.getD_eq_getElem?_getD, List.getElem?_eq_getElem h1, List.getD_eq_getElem?_getD, List.getElem?_eq_getElem h2] at h4 ⊢
  simp only [Option.getD_some] at h4 ⊢
  have hne : ¬ a[k] = b[k] := fun e => h4 (by rw [e, cmpI_self])
  rw [cmpI, cmpI, if_neg hne, if_neg hne]
theorem cmpI_same {a b : List Int} (hl : a.length = b.length) (h : ∀ i, i < a.length → a.getD i 0 = b.getD i 0) : cmpI a b = 0 := by
  rw [cmpI_drop (k := a.length) (Nat.le_refl _) (by omega) h, List.drop_length, hl, List.drop_length]; rfl
theorem cmp1_0 {x y : Int} (h : cmpI [x] [y] = 0) : x = y := by have := cmpI_eq h; simpa using this
theorem Cmp_spec {x : SW} (H : VHeap) (a b : List Int) (hl : a.length = b.length) (h25 : a.length ≤ 1000000) : F (psys x) 61 [fzI a, fzI b] H fun v G => v = iI (cmpI a b) ∧ G = H := by
 refine F_body Tryd.func61 rfl u36 rfl ?_
 refine B_seq (B_region ?_)
 refine Lo u36 (v_const (VVal.int .i64 0) (.inr rfl) rfl) ?_
 refine L_nil (K_seq (B_seq (B_seq (B_region ?_))))
 refine Lo u36 (v_move (.inl rfl) rfl) ?_
 refine Lo u36 (rfl) ?_
 refine Lo u36 (v_const (VVal.int .i64 0) (.inl rfl) rfl) ?_
 refine L_nil (K_seq (B_block ?_))
 refine B_clear (mk 36 68719473148) (env' := u36) rfl ?_
 refine B_loopE (fun (k : Nat) => a.length - k) (fun (k : Nat) => [(11, iI (k : Nat))]) (fun (k : Nat) G => (k ≤ a.length ∧ ∀ i, i < k → a.getD i 0 = b.getD i 0) ∧ G = H ++ []) 0 rfl ?_ ?_
 ·refine ⟨?_, rfl⟩
  exact ⟨Nat.zero_le _, fun i h => by omega⟩
 rintro k _ ⟨⟨hk, hall⟩, rfl⟩
 refine B_env (env' := u36) rfl ?_
 refine B_seq (B_region ?_)
 refine Lo u36 (rfl) ?_
 refine L_nil (K_seq (B_seq ?_))
 refine B_cond _ rfl (fun hc1 => ?_) (fun hc1 => ?_)
 ·try simp only [qB, qN] at hc1
  refine B_skip (K_seq (B_seq (B_block (B_seq (B_region ?_)))))
  refine Lo u36 (v_move (.inl rfl) rfl) ?_
  refine Lo u36 (W18 rfl rfl rfl rfl rfl rfl rfl) ?_
  refine Lo u36 (W4u rfl rfl rfl rfl) ?_
  refine Lo u36 (v_move (.inr rfl) rfl) ?_
  refine Lo u36 (v_move (.inr rfl) rfl) ?_
  refine L_nil (K_seq (B_seq (B_seq (B_region ?_))))
  refine Lo u36 (v_move (.inl rfl) rfl) ?_
  refine Lo u36 (v_move (.inl rfl) rfl) ?_
  refine Lo u36 (rfl) ?_
  refine Lo u36 (rfl) ?_
  refine L_nil (K_seq ?_)
  refine B_cond _ rfl (fun hc2 => ?_) (fun hc2 => ?_)
  ·try simp only [qB, qN] at hc2
   refine B_seq (B_region ?_)
   refine Lo u36 (v_const (VVal.int .i64 1) (.inr rfl) rfl) ?_
   refine L_nil (K_seq (B_ret (K_seqR (K_blkR (K_seqR (K_loopR (K_blkR (K_seqR ?_))))))))
   refine W10 (.inr rfl) (vres_tmp rfl rfl) ?_
   exact W53
  ·try simp only [qB, qN] at hc2
   refine B_skip (K_seq (B_seq (B_region ?_)))
   refine Lo u36 (v_move (.inl rfl) rfl) ?_
   refine Lo u36 (v_move (.inl rfl) rfl) ?_
   refine Lo u36 (W18 rfl rfl rfl rfl rfl rfl rfl) ?_
   refine Lo u36 (W4u rfl rfl rfl rfl) ?_
   refine Lo u36 (v_move (.inr rfl) rfl) ?_
   refine L_nil (K_seq (B_seq (B_region ?_)))
   refine Lo u36 (v_move (.inl rfl) rfl) ?_
   refine Lo u36 (v_move (.inl rfl) rfl) ?_
   refine L_call rfl rfl rfl (by exact cmpC_spec _ _ _) ?_
   rintro _ _ ⟨rfl, rfl⟩
   refine Le u36 ?_
   refine Lo u36 (v_move (.inr rfl) rfl) ?_
   refine L_nil (K_seq (B_seq (B_region ?_)))
   refine Lo u36 (v_move (.inl rfl) rfl) ?_
   refine Lo u36 (rfl) ?_
   refine L_nil (K_seq ?_)
   refine B_cond _ rfl (fun hc3 => ?_) (fun hc3 => ?_)
   ·try simp only [qB, qN] at hc3
    refine B_seq (B_region ?_)
    refine Lo u36 (v_move (.inl rfl) rfl) ?_
    refine Lo u36 (v_move (.inr rfl) rfl) ?_
    refine L_nil (K_seq (B_ret (K_blkR (K_seqR (K_loopR (K_blkR (K_seqR ?_)))))))
    refine W10 (.inr rfl) (vres_tmp rfl rfl) ?_
    exact W53
   ·try simp only [qB, qN] at hc3
    refine B_skip (K_blk (K_seq (B_region ?_)))
    refine Lo u36 (W14 rfl rfl rfl) ?_
    refine Lo u36 (v_move (.inl rfl) rfl) ?_
    refine L_nil ?_
    refine K_loop (mk 36 68719473148) (env' := u36) rfl ⟨k + 1, ?_, rfl, ?_⟩
    ·first | omega | (simp only []; omega)
    ·exact ⟨⟨by omega, fun j hj => by by_cases e : j = k; (subst e; exact cmp1_0 (by assumption)); exact hall j (by omega)⟩, rfl⟩
 ·try simp only [qB, qN] at hc1
  refine B_exit (K_seqX (K_loopX (K_blkX (K_seq (B_seq (B_seq (B_region ?_)))))))
  refine Lo u36 (v_move (.inl rfl) rfl) ?_
  refine Lo u36 (rfl) ?_
  refine Lo u36 (v_move (.inl rfl) rfl) ?_
  refine Lo u36 (rfl) ?_
  refine Lo u36 (rfl) ?_
  refine L_nil (K_seq ?_)
  refine B_cond _ rfl (fun hc4 => ?_) (fun hc4 => ?_)
  ·try simp only [qB, qN] at hc4
   refine B_seq (B_region ?_)
   refine Lo u36 (v_const (VVal.int .i64 (-1)) (.inr rfl) rfl) ?_
   refine L_nil (K_seq (B_ret (K_seqR ?_)))
   refine W10 (.inr rfl) (vres_tmp rfl rfl) ?_
   exact W53
  ·try simp only [qB, qN] at hc4
   refine B_skip (K_seq (B_seq (B_region ?_)))
   refine Lo u36 (v_const (VVal.int .i64 0) (.inr rfl) rfl) ?_
   refine L_nil (K_seq (B_ret ?_))
   refine W10 (.inr rfl) (vres_tmp rfl rfl) ?_
   exact W53
theorem Cmp_N {x : SW} (H : VHeap) (a b : List Nat) (hl : a.length = b.length) (h25 : a.length ≤ 1000000) : F (psys x) 61 [fzN a, fzN b] H fun v G => v = iI (cmpI (zI a) (zI b)) ∧ G = H := by
  rw [fzN_is, fzN_is]; exact Cmp_spec H (zI a) (zI b) (by rw [zI_len, zI_len, hl]) (by rw [zI_len]; exact h25)
theorem bef_len {a b : List Int} (h : ¬ (a.length = b.length ∧ a.length ≤ 25)) : bef a b = false := by unfold bef; rw [decide_eq_false h, Bool.false_and]
theorem Before_y {x : SW} (H : VHeap) (a b : List Int) (ha : a.length ≤ 25) (hb : b.length ≤ 25) : F (psys x) 35 [fzI a, fzI b] H fun v G => v = .bool (bef a b) ∧ G = H := by
 refine F_body Tryd.func35 rfl u44 rfl ?_
 refine B_seq (B_region ?_)
 refine Lo u44 (v_const (VVal.bool false) (.inr rfl) rfl) ?_
 refine L_nil (K_seq (B_seq (B_region ?_)))
 refine Lo u44 (v_move (.inl rfl) rfl) ?_
 refine L_call rfl rfl rfl (by exact pOf_spec _ a ha) ?_
 rintro _ _ ⟨rfl, rfl⟩
 refine Le u44 ?_
 refine Lo u44 (v_move (.inl rfl) rfl) ?_
 refine Lo u44 (rfl) ?_
 refine Lo u44 (rfl) ?_
 refine Lo u44 (v_move (.inr rfl) rfl) ?_
 refine Lo u44 (v_move (.inr rfl) rfl) ?_
 refine L_nil (K_seq (B_seq (B_region ?_)))
 refine Lo u44 (v_move (.inl rfl) rfl) ?_
 refine L_call rfl rfl rfl (by exact pOf_spec _ b hb) ?_
 rintro _ _ ⟨rfl, rfl⟩
 refine Le u44 ?_
 refine Lo u44 (v_move (.inl rfl) rfl) ?_
 refine Lo u44 (rfl) ?_
 refine Lo u44 (rfl) ?_
 refine Lo u44 (v_move (.inr rfl) rfl) ?_
 refine Lo u44 (v_move (.inr rfl) rfl) ?_
 refine L_nil (K_seq (B_seq (B_seq (B_region ?_))))
 refine Lo u44 (v_move (.inl rfl) rfl) ?_
 refine Lo u44 (rfl) ?_
 refine Lo u44 (v_move (.inl rfl) rfl) ?_
 refine Lo u44 (v_move (.inl rfl) rfl) ?_
 refine Lo u44 (rfl) ?_
 refine Lo u44 (v_pickF rfl rfl rfl) ?_
 refine Lo u44 (v_move (.inl rfl) rfl) ?_
 refine Lo u44 (v_move (.inl rfl) rfl) ?_
 refine Lo u44 (rfl) ?_
 refine Lo u44 (v_move (.inl rfl) rfl) ?_
 refine Lo u44 (rfl) ?_
 refine Lo u44 (rfl) ?_
 refine Lo u44 (v_pickF rfl rfl rfl) ?_
 refine L_nil (K_seq ?_)
 refine B_cond _ rfl (fun hc1 => ?_) (fun hc1 => ?_)
 ·try simp only [qB, qN] at hc1
  refine B_seq (B_region ?_)
  refine Lo u44 (v_const (VVal.bool false) (.inr rfl) rfl) ?_
  refine L_nil (K_seq (B_ret (K_seqR ?_)))
  refine W10 (.inr rfl) (vres_tmp rfl rfl) ?_
  exact W55
 ·try simp only [qB, qN] at hc1
  refine B_skip (K_seq (B_seq (B_seq ?_)))
  have hl : a.length = b.length := by omega
  have hE := bef_is hl ha
  refine B_region ?_
  refine Lo u44 (v_move (.inl rfl) rfl) ?_
  refine Lo u44 (v_move (.inl rfl) rfl) ?_
  refine L_call rfl rfl rfl (by exact Cmp_N _ _ _ (by rw [ofP_len', ofP_len', hl]) (by rw [ofP_len']; omega)) ?_
  rintro _ _ ⟨rfl, rfl⟩
  refine Le u44 ?_
  refine Lo u44 (v_move (.inr rfl) rfl) ?_
  refine L_nil (K_seq (B_seq (B_region ?_)))
  refine Lo u44 (v_move (.inl rfl) rfl) ?_
  refine Lo u44 (rfl) ?_
  refine L_nil (K_seq ?_)
  refine B_cond _ rfl (fun hc2 => ?_) (fun hc2 => ?_)
  ·try simp only [qB, qN] at hc2
   refine B_seq (B_region ?_)
   refine Lo u44 (v_move (.inl rfl) rfl) ?_
   refine Lo u44 (rfl) ?_
   refine Lo u44 (v_move (.inr rfl) rfl) ?_
   refine L_nil (K_seq (B_ret (K_seqR ?_)))
   refine W10 (.inr rfl) (vres_tmp rfl rfl) ?_
   exact W55
  ·try simp only [qB, qN] at hc2
   refine B_skip (K_seq (B_seq (B_region ?_)))
   refine Lo u44 (v_move (.inl rfl) rfl) ?_
   refine Lo u44 (v_move (.inl rfl) rfl) ?_
   refine L_call rfl rfl rfl (by exact Cmp_spec _ a b hl (by omega)) ?_
   rintro _ _ ⟨rfl, rfl⟩
   refine Le u44 ?_
   refine Lo u44 (rfl) ?_
   refine Lo u44 (v_move (.inr rfl) rfl) ?_
   refine L_nil (K_seq (B_ret ?_))
   refine W10 (.inr rfl) (vres_tmp rfl rfl) ?_
   exact W55
theorem Before_a {x : SW} (H : VHeap) (a b : List Int) (ha : a.length ≤ 25) (hb : 25 < b.length) : F (psys x) 35 [fzI a, fzI b] H fun v G => v = .bool (bef a b) ∧ G = H := by
 refine F_body Tryd.func35 rfl u44 rfl ?_
 refine B_seq (B_region ?_)
 refine Lo u44 (v_const (VVal.bool false) (.inr rfl) rfl) ?_
 refine L_nil (K_seq (B_seq (B_region ?_)))
 refine Lo u44 (v_move (.inl rfl) rfl) ?_
 refine L_call rfl rfl rfl (by exact pOf_spec _ a ha) ?_
 rintro _ _ ⟨rfl, rfl⟩
 refine Le u44 ?_
 refine Lo u44 (v_move (.inl rfl) rfl) ?_
 refine Lo u44 (rfl) ?_
 refine Lo u44 (rfl) ?_
 refine Lo u44 (v_move (.inr rfl) rfl) ?_
 refine Lo u44 (v_move (.inr rfl) rfl) ?_
 refine L_nil (K_seq (B_seq (B_region ?_)))
 refine Lo u44 (v_move (.inl rfl) rfl) ?_
 refine L_call rfl rfl rfl (by exact Of_big _ b hb) ?_
 rintro _ _ ⟨rfl, rfl⟩
 refine Le u44 ?_
 refine Lo u44 (v_move (.inl rfl) rfl) ?_
 refine Lo u44 (rfl) ?_
 refine Lo u44 (rfl) ?_
 refine Lo u44 (v_move (.inr rfl) rfl) ?_
 refine Lo u44 (v_move (.inr rfl) rfl) ?_
 refine L_nil (K_seq (B_seq (B_seq (B_region ?_))))
 refine Lo u44 (v_move (.inl rfl) rfl) ?_
 refine Lo u44 (rfl) ?_
 refine Lo u44 (v_move (.inl rfl) rfl) ?_
 refine Lo u44 (v_move (.inl rfl) rfl) ?_
 refine Lo u44 (rfl) ?_
 refine Lo u44 (v_pickF rfl rfl rfl) ?_
 refine Lo u44 (v_move (.inl rfl) rfl) ?_
 refine Lf u44 ?_
 refine Lf u44 ?_
 refine Lf u44 ?_
 refine Lf u44 ?_
 refine Lf u44 ?_
 refine Lo u44 (v_pickTC (VVal.bool true) rfl rfl rfl) ?_
 refine L_nil (K_seq ?_)
 refine B_true rfl rfl ?_
 refine B_seq (B_region ?_)
 refine Lo u44 (v_const (VVal.bool false) (.inr rfl) rfl) ?_
 refine L_nil (K_seq (B_ret (K_seqR ?_)))
 refine W10 (.inr rfl) (vres_tmp rfl rfl) ?_
 exact ⟨by rw [bef_len (by omega)], rfl⟩
theorem Before_b {x : SW} (H : VHeap) (a b : List Int) (ha : 25 < a.length) (hb : b.length ≤ 25) : F (psys x) 35 [fzI a, fzI b] H fun v G => v = .bool (bef a b) ∧ G = H := by
 refine F_body Tryd.func35 rfl u44 rfl ?_
 refine B_seq (B_region ?_)
 refine Lo u44 (v_const (VVal.bool false) (.inr rfl) rfl) ?_
 refine L_nil (K_seq (B_seq (B_region ?_)))
 refine Lo u44 (v_move (.inl rfl) rfl) ?_
 refine L_call rfl rfl rfl (by exact Of_big _ a ha) ?_
 rintro _ _ ⟨rfl, rfl⟩
 refine Le u44 ?_
 refine Lo u44 (v_move (.inl rfl) rfl) ?_
 refine Lo u44 (rfl) ?_
 refine Lo u44 (rfl) ?_
 refine Lo u44 (v_move (.inr rfl) rfl) ?_
 refine Lo u44 (v_move (.inr rfl) rfl) ?_
 refine L_nil (K_seq (B_seq (B_region ?_)))
 refine Lo u44 (v_move (.inl rfl) rfl) ?_
 refine L_call rfl rfl rfl (by exact pOf_spec _ b hb) ?_
 rintro _ _ ⟨rfl, rfl⟩
 refine Le u44 ?_
 refine Lo u44 (v_move (.inl rfl) rfl) ?_
 refine Lo u44 (rfl) ?_
 refine Lo u44 (rfl) ?_
 refine Lo u44 (v_move (.inr rfl) rfl) ?_
 refine Lo u44 (v_move (.inr rfl) rfl) ?_
 refine L_nil (K_seq (B_seq (B_seq (B_region ?_))))
 refine Lo u44 (v_move (.inl rfl) rfl) ?_
 refine Lo u44 (rfl) ?_
 refine Lo u44 (v_move (.inl rfl) rfl) ?_
 refine Lf u44 ?_
 refine Lf u44 ?_
 refine Lo u44 (v_pickTC (VVal.bool true) rfl rfl rfl) ?_
 refine Lo u44 (v_move (.inl rfl) rfl) ?_
 refine Lf u44 ?_
 refine Lf u44 ?_
 refine Lf u44 ?_
 refine Lf u44 ?_
 refine Lf u44 ?_
 refine Lo u44 (v_pickTC (VVal.bool true) rfl rfl rfl) ?_
 refine L_nil (K_seq ?_)
 refine B_true rfl rfl ?_
 refine B_seq (B_region ?_)
 refine Lo u44 (v_const (VVal.bool false) (.inr rfl) rfl) ?_
 refine L_nil (K_seq (B_ret (K_seqR ?_)))
 refine W10 (.inr rfl) (vres_tmp rfl rfl) ?_
 exact ⟨by rw [bef_len (by omega)], rfl⟩
theorem Before_n {x : SW} (H : VHeap) (a b : List Int) (ha : 25 < a.length) (hb : 25 < b.length) : F (psys x) 35 [fzI a, fzI b] H fun v G => v = .bool (bef a b) ∧ G = H := by
 refine F_body Tryd.func35 rfl u44 rfl ?_
 refine B_seq (B_region ?_)
 refine Lo u44 (v_const (VVal.bool false) (.inr rfl) rfl) ?_
 refine L_nil (K_seq (B_seq (B_region ?_)))
 refine Lo u44 (v_move (.inl rfl) rfl) ?_
 refine L_call rfl rfl rfl (by exact Of_big _ a ha) ?_
 rintro _ _ ⟨rfl, rfl⟩
 refine Le u44 ?_
 refine Lo u44 (v_move (.inl rfl) rfl) ?_
 refine Lo u44 (rfl) ?_
 refine Lo u44 (rfl) ?_
 refine Lo u44 (v_move (.inr rfl) rfl) ?_
 refine Lo u44 (v_move (.inr rfl) rfl) ?_
 refine L_nil (K_seq (B_seq (B_region ?_)))
 refine Lo u44 (v_move (.inl rfl) rfl) ?_
 refine L_call rfl rfl rfl (by exact Of_big _ b hb) ?_
 rintro _ _ ⟨rfl, rfl⟩
 refine Le u44 ?_
 refine Lo u44 (v_move (.inl rfl) rfl) ?_
 refine Lo u44 (rfl) ?_
 refine Lo u44 (rfl) ?_
 refine Lo u44 (v_move (.inr rfl) rfl) ?_
 refine Lo u44 (v_move (.inr rfl) rfl) ?_
 refine L_nil (K_seq (B_seq (B_seq (B_region ?_))))
 refine Lo u44 (v_move (.inl rfl) rfl) ?_
 refine Lo u44 (rfl) ?_
 refine Lo u44 (v_move (.inl rfl) rfl) ?_
 refine Lf u44 ?_
 refine Lf u44 ?_
 refine Lo u44 (v_pickTC (VVal.bool true) rfl rfl rfl) ?_
 refine Lo u44 (v_move (.inl rfl) rfl) ?_
 refine Lf u44 ?_
 refine Lf u44 ?_
 refine Lf u44 ?_
 refine Lf u44 ?_
 refine Lf u44 ?_
 refine Lo u44 (v_pickTC (VVal.bool true) rfl rfl rfl) ?_
 refine L_nil (K_seq ?_)
 refine B_true rfl rfl ?_
 refine B_seq (B_region ?_)
 refine Lo u44 (v_const (VVal.bool false) (.inr rfl) rfl) ?_
 refine L_nil (K_seq (B_ret (K_seqR ?_)))
 refine W10 (.inr rfl) (vres_tmp rfl rfl) ?_
 exact ⟨by rw [bef_len (by omega)], rfl⟩
theorem Before_spec {x : SW} (H : VHeap) (a b : List Int) : F (psys x) 35 [fzI a, fzI b] H fun v G => v = .bool (bef a b) ∧ G = H := by
  by_cases ha : a.length ≤ 25
  · by_cases hb : b.length ≤ 25
    · exact Before_y H a b ha hb
    · exact Before_a H a b ha (by omega)
  · by_cases hb : b.length ≤ 25
    · exact Before_b H a b (by omega) hb
    · exact Before_n H a b (by omega) (by omega)
end Go.Proofs.YtnbihdflnjpinaaDoor.VT
