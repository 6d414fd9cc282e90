/- Proved: Rows.PlanBackSaid, the statement PlanBack, of the given program at the commit; no conditions beyond those in the statement. -/
import Derived.Test.YtbngdhlmggdaaaaC4x12
set_option autoImplicit false
set_option linter.unusedVariables false
set_option linter.unusedSimpArgs false
set_option maxHeartbeats 4000000
set_option maxRecDepth 100000
namespace Go.Proofs.Ytbngdhlmggdaaaa.VT
open Go Go.V Go.RowKit

abbrev uS10n25 {a0 a1 a2 a3 a4 a5 a6 a7 a8 a9 a10 a11 a12 a13 a14 a15 a16 a17 a18 a19 a20 a21 a22 a23 a24 : VVal} : VEnv := a0 :: a1 :: a2 :: a3 :: a4 :: a5 :: a6 :: a7 :: a8 :: a9 :: a10 :: a11 :: a12 :: a13 :: a14 :: a15 :: a16 :: a17 :: a18 :: a19 :: a20 :: a21 :: a22 :: a23 :: a24 :: []
abbrev uS10n102 {a0 a1 a2 a3 a4 a5 a6 a7 a8 a9 a10 a11 a12 a13 a14 a15 a16 a17 a18 a19 a20 a21 a22 a23 a24 a25 a26 a27 a28 a29 a30 a31 a32 a33 a34 a35 a36 a37 a38 a39 a40 a41 a42 a43 a44 a45 a46 a47 a48 a49 a50 a51 a52 a53 a54 a55 a56 a57 a58 a59 a60 a61 a62 a63 a64 a65 a66 a67 a68 a69 a70 a71 a72 a73 a74 a75 a76 a77 a78 a79 a80 a81 a82 a83 a84 a85 a86 a87 a88 a89 a90 a91 a92 a93 a94 a95 a96 a97 a98 a99 a100 a101 : VVal} : VEnv := a0 :: a1 :: a2 :: a3 :: a4 :: a5 :: a6 :: a7 :: a8 :: a9 :: a10 :: a11 :: a12 :: a13 :: a14 :: a15 :: a16 :: a17 :: a18 :: a19 :: a20 :: a21 :: a22 :: a23 :: a24 :: a25 :: a26 :: a27 :: a28 :: a29 :: a30 :: a31 :: a32 :: a33 :: a34 :: a35 :: a36 :: a37 :: a38 :: a39 :: a40 :: a41 :: a42 :: a43 :: a44 :: a45 :: a46 :: a47 :: a48 :: a49 :: a50 :: a51 :: a52 :: a53 :: a54 :: a55 :: a56 :: a57 :: a58 :: a59 :: a60 :: a61 :: a62 :: a63 :: a64 :: a65 :: a66 :: a67 :: a68 :: a69 :: a70 :: a71 :: a72 :: a73 :: a74 :: a75 :: a76 :: a77 :: a78 :: a79 :: a80 :: a81 :: a82 :: a83 :: a84 :: a85 :: a86 :: a87 :: a88 :: a89 :: a90 :: a91 :: a92 :: a93 :: a94 :: a95 :: a96 :: a97 :: a98 :: a99 :: a100 :: a101 :: []

theorem wS10n0 {T : TypeId → Option VTy} {H : VHeap} {op : Op} {ρ : Operand → VVal} {t ty : TypeId} {x y : Operand} {n m : Int} (ho : op = .binOp .sub t x y ty) (hx : ρ x = .int .i64 n) (hy : ρ y = .int .i64 m) (h : -9223372036854775808 ≤ n - m ∧ n - m < 9223372036854775808 := by first | assumption | omega | (simp [*]; done) | (simp at *; omega)) : vop T ρ H op = some (.int .i64 (n - m), H) := v_subI ho hx hy h
theorem wS10n1 {T : TypeId → Option VTy} {H : VHeap} {op : Op} {ρ : Operand → VVal} {t : TypeId} {a : Operand} {y : VTy} {p v : VVal} (ho : op = .load t a) (ha : ρ a = p) (hy : T t = some y) (hd : isAggDesc y.desc = false) (h : LdOk H p v := by first | exact .inl ⟨_, _, rfl, by first | rfl | assumption | exact fget (α := BitVec 64) 0 (by omega) | exact fget (α := Int) 0 (by omega) | exact fget0 (α := BitVec 64) 0 (by omega) | exact fget0 (α := Int) 0 (by omega) | exact fget (α := Bool) false (by omega) | exact fget0 (α := Bool) false (by omega) | (simp [*]; done)⟩ | exact .inr ⟨_, _, _, _, rfl, by exact get_app hB r1.c, by first | rfl | assumption | exact fget (α := BitVec 64) 0 (by omega) | exact fget (α := Int) 0 (by omega) | exact fget0 (α := BitVec 64) 0 (by omega) | exact fget0 (α := Int) 0 (by omega) | exact fget (α := Bool) false (by omega) | exact fget0 (α := Bool) false (by omega) | (simp [*]; done)⟩) : vop T ρ H op = some (v, H) := v_ld ho ha hy hd h
theorem wS10n2 {T : TypeId → Option VTy} {H : VHeap} {op : Op} {ρ : VEnv} {H' : VHeap} {t : TypeId} {a : Operand} {i : Nat} {v : VVal} {y : VTy} {b off : Nat} {cs new : List VVal} (ho : op = .store t a (.tmp i)) (hv : ρ[i]? = some v) (ha : ρ.eval a = .ptr (some (b, off))) (hy : T t = some y) (hx : v.cells = some new) (hn : new.length = y.size) (h1 : new.all VVal.one = true) (hb : H[b]? = some (.cells cs true) := by exact get_app hB (get_append ((hY2 j r1.n).trans r1.c))) (hl : off + new.length ≤ cs.length := by first | exact Nat.le_of_ble_eq_true rfl | (simp only [List.length_map, List.length_cons, List.length_nil]; omega) | omega | (simp; done) | (simp; omega)) (hH : H.set b (.cells (splice cs off new) true) = H' := by exact set_app hB) : vop T ρ.eval H op = some (.skip, H') := v_storeT ho hv ha hy hx hn h1 hb hl hH
theorem wS10n3 {T : TypeId → Option VTy} {H : VHeap} {op : Op} {ρ : Operand → VVal} {t : TypeId} {a : Operand} {y : VTy} {p : VVal} {n : Nat} {vs : List VVal} (ho : op = .load t a) (ha : ρ a = p) (hy : T t = some y) (hd : isAggDesc y.desc = true) (hn : y.size = n) (h : LdOkA H p n vs := by first | exact .inl ⟨_, _, rfl, by first | rfl | assumption | exact fgetN (α := BitVec 64) 0 (by omega) | exact fgetN (α := Int) 0 (by omega) | exact rul_at (by omega)⟩ | exact .inr ⟨_, _, _, _, rfl, by first | exact get_app rfl rfl | exact get_out (by assumption) | exact getE0 rfl rfl | exact get_out (get_app rfl rfl) | exact get_app rfl (by assumption) | assumption | (simp only [List.append_assoc, List.singleton_append, List.cons_append, List.nil_append]; refine getE (i := 0) rfl ?_ rfl; simp; done) | (simp only [List.append_assoc, List.singleton_append, List.cons_append, List.nil_append]; refine getE (i := 1) rfl ?_ rfl; simp; done) | (simp only [List.append_assoc, List.singleton_append, List.cons_append, List.nil_append]; refine getE (i := 2) rfl ?_ rfl; simp; done) | (simp only [List.append_assoc, List.singleton_append, List.cons_append, List.nil_append]; refine getE (i := 3) rfl ?_ rfl; simp; done) | (simp [*]; done), by first | rfl | assumption | exact fgetN (α := BitVec 64) 0 (by omega) | exact fgetN (α := Int) 0 (by omega) | exact rul_at (by omega)⟩) : vop T ρ H op = some (.agg vs, H) := v_ldA ho ha hy hd hn h
theorem wS10n4 {S : V.Sys} {H : VHeap} {fn : Func} {ex : Exit} {env : VEnv} {B L : VHeap} {v : VVal} {R : VVal → VHeap → Prop} (hx : ex = .normal ∨ ex = .ret) (hv : vresults S.C.T env (B ++ L) fn.results = some v) (h : R v B) (hB : BaseOk H B := by first | exact BaseOk.refl _ | exact BaseOk.set (BaseOk.refl _) _ rfl) (hu : v.under H.length = true := by first | rfl | (simp only [VVal.under, VVal.underL, Bool.and_true]; exact mapB_under _ _)) : fnK S fn H R ex env (B ++ L) := E_app hx hv hB hu h
theorem wS10n5 {P : Prop} (h : P := by first | exact ⟨by unfold cW; rw [eW_1 (by assumption), if_neg (by assumption)]; rfl, rfl⟩ | exact ⟨by unfold cW; rw [eW_2 hpk hne, if_neg (by decide)]; rfl, rfl⟩ | exact ⟨by unfold cW; rw [eW_0 hpk hfl, if_pos rfl, cB, List.take_of_length_le (by omega)]; rfl, rfl⟩) : P := h
theorem wS10n6 {T : TypeId → Option VTy} {H : VHeap} {op : Op} {ρ : VEnv} {H' : VHeap} {t : TypeId} {a : Operand} {i : Nat} {v : VVal} {y : VTy} {b off : Nat} {cs new : List VVal} (ho : op = .store t a (.tmp i)) (hv : ρ[i]? = some v) (ha : ρ.eval a = .ptr (some (b, off))) (hy : T t = some y) (hx : v.cells = some new) (hn : new.length = y.size) (h1 : new.all VVal.one = true) (hb : H[b]? = some (.cells cs true) := by first | exact get_app rfl rfl | exact get_out (by assumption) | exact getE0 rfl rfl | exact get_out (get_app rfl rfl) | exact get_app rfl (by assumption) | assumption | (simp only [List.append_assoc, List.singleton_append, List.cons_append, List.nil_append]; refine getE (i := 0) rfl ?_ rfl; simp; done) | (simp only [List.append_assoc, List.singleton_append, List.cons_append, List.nil_append]; refine getE (i := 1) rfl ?_ rfl; simp; done) | (simp only [List.append_assoc, List.singleton_append, List.cons_append, List.nil_append]; refine getE (i := 2) rfl ?_ rfl; simp; done) | (simp only [List.append_assoc, List.singleton_append, List.cons_append, List.nil_append]; refine getE (i := 3) rfl ?_ rfl; simp; done) | (simp [*]; done)) (hl : off + new.length ≤ cs.length := by first | exact Nat.le_of_ble_eq_true rfl | (simp only [List.length_map, List.length_cons, List.length_nil]; omega) | omega | (simp; done) | (simp; omega)) (hH : H.set b (.cells (splice cs off new) true) = H' := by first | exact setE0 rfl rfl | (simp only [List.append_assoc, List.singleton_append, List.cons_append, List.nil_append]; refine setE (i := 0) rfl ?_; simp; done) | (simp only [List.append_assoc, List.singleton_append, List.cons_append, List.nil_append]; refine setE (i := 1) rfl ?_; simp; done) | (simp only [List.append_assoc, List.singleton_append, List.cons_append, List.nil_append]; refine setE (i := 2) rfl ?_; simp; done) | (simp only [List.append_assoc, List.singleton_append, List.cons_append, List.nil_append]; refine setE (i := 3) rfl ?_; simp; done) | (refine setB rfl ?_; simp; done) | exact set_app rfl | exact set_out (lt_of_get (by assumption)) | rfl) : vop T ρ.eval H op = some (.skip, H') := v_storeT ho hv ha hy hx hn h1 hb hl hH
theorem wS10n7 {T : TypeId → Option VTy} {H : VHeap} {op : Op} {ρ : Operand → VVal} {t : TypeId} {a : Operand} {y : VTy} {p v : VVal} (ho : op = .load t a) (ha : ρ a = p) (hy : T t = some y) (hd : isAggDesc y.desc = false) (h : LdOk H p v := by first | exact .inl ⟨_, _, rfl, by first | rfl | assumption | exact fgetN (α := BitVec 64) 0 (by omega) | exact fgetN (α := Int) 0 (by omega) | exact rul_at (by omega)⟩ | exact .inr ⟨_, _, _, _, rfl, by first | exact get_app rfl rfl | exact get_out (by assumption) | exact getE0 rfl rfl | exact get_out (get_app rfl rfl) | exact get_app rfl (by assumption) | assumption | (simp only [List.append_assoc, List.singleton_append, List.cons_append, List.nil_append]; refine getE (i := 0) rfl ?_ rfl; simp; done) | (simp only [List.append_assoc, List.singleton_append, List.cons_append, List.nil_append]; refine getE (i := 1) rfl ?_ rfl; simp; done) | (simp only [List.append_assoc, List.singleton_append, List.cons_append, List.nil_append]; refine getE (i := 2) rfl ?_ rfl; simp; done) | (simp only [List.append_assoc, List.singleton_append, List.cons_append, List.nil_append]; refine getE (i := 3) rfl ?_ rfl; simp; done) | (simp [*]; done), by first | rfl | assumption | exact fgetN (α := BitVec 64) 0 (by omega) | exact fgetN (α := Int) 0 (by omega) | exact rul_at (by omega)⟩) : vop T ρ H op = some (v, H) := v_ld ho ha hy hd h
theorem wS10n8 {T : TypeId → Option VTy} {H : VHeap} {op : Op} {ρ : Operand → VVal} {t e : TypeId} {x i : Operand} {y z : VTy} {k : IntKind} {n : Int} {p v : VVal} {es : Nat} (ho : op = .indexAddr t x i) (hx : ρ x = p) (hi : ρ i = .int k n) (hy : T t = some y) (hd : y.desc = .slice e) (hz : T e = some z) (hs : z.size = es) (h : IxOk p es n v := by first | exact .inl ⟨_, _, _, rfl, by first | assumption | omega | (simp [*]; done) | (simp at *; omega), rfl⟩ | exact .inr ⟨_, _, _, _, _, rfl, by first | assumption | omega | (simp [*]; done) | (simp at *; omega), rfl⟩) : vop T ρ H op = some (v, H) := v_ix ho hx hi hy hd hz hs h
theorem wS10n9 {T : TypeId → Option VTy} {H : VHeap} {op : Op} {ρ : Operand → VVal} {t ty : TypeId} {x y : Operand} {n m : Int} (ho : op = .binOp .add t x y ty) (hx : ρ x = .int .i64 n) (hy : ρ y = .int .i64 m) (h : -9223372036854775808 ≤ n + m ∧ n + m < 9223372036854775808 := by have h9 := g.ok k (by omega); unfold okW at h9; rw [Bool.and_eq_true, decide_eq_true_eq] at h9; omega) : vop T ρ H op = some (.int .i64 (n + m), H) := v_addI ho hx hy h
theorem wS10n10 {T : TypeId → Option VTy} {H : VHeap} {op : Op} {ρ : Operand → VVal} {t ty : TypeId} {x y : Operand} {n m : Int} (ho : op = .binOp .add t x y ty) (hx : ρ x = .int .i64 n) (hy : ρ y = .int .i64 m) (h : -9223372036854775808 ≤ n + m ∧ n + m < 9223372036854775808 := by first | assumption | omega | (simp [*]; done) | (simp at *; omega)) : vop T ρ H op = some (.int .i64 (n + m), H) := v_addI ho hx hy h
theorem wS10n11 {T : TypeId → Option VTy} {H : VHeap} {op : Op} {ρ : Operand → VVal} {t : TypeId} {a : Operand} {y : VTy} {p v : VVal} (ho : op = .load t a) (ha : ρ a = p) (hy : T t = some y) (hd : isAggDesc y.desc = false) (h : LdOk H p v := by first | exact .inl ⟨_, _, rfl, by first | rfl | assumption | exact fgetN (α := BitVec 64) 0 (by omega) | exact fgetN (α := Int) 0 (by omega) | exact rul_at (by omega)⟩ | exact .inr ⟨_, _, _, _, rfl, by exact get_app (n := H.length + 1) (j := 1) (by simp) r.c, by first | rfl | assumption | exact fgetN (α := BitVec 64) 0 (by omega) | exact fgetN (α := Int) 0 (by omega) | exact rul_at (by omega)⟩) : vop T ρ H op = some (v, H) := v_ld ho ha hy hd h

theorem cellsB {cs : List VVal} {new : List VVal} (h : new.length = cs.length) : splice cs 0 new = new := by unfold splice; rw [h, Nat.zero_add, List.take_zero, List.drop_length]; simp
theorem flA_len0 {p : Pb} {us : List Int} (h : pck p = 0) (h2 : ¬ 0 < ((flA p us).length : Int)) : flw p us = [] := List.eq_nil_of_length_eq_zero (by rw [flA_0 h] at h2; omega)
theorem flA_pos {p : Pb} {us : List Int} (h : pck p = 0) (h2 : 0 < ((flA p us).length : Int)) : ¬ flw p us = [] := fun e => by rw [flA_0 h, e] at h2; simp at h2

theorem put_spec {x : SW} (B X : VHeap) (h j : Nat) (v : VVal) (L : List UInt8) (w : BitVec 64) (wide : Nat) (hB : B.length = h) (r : RB h X j v L) (hL : L.length ≤ 1000000) (hw : wide ≤ 8) : F (psys x) 37 [.ptr (some (h + j, 0)), iW w, iI (wide : Nat)] (B ++ X) fun u G => u = .tuple [] ∧ ∃ X1 v1, G = B ++ X1 ∧ RB h X1 j v1 (L ++ be w wide) := by
 refine F_body Try.func37 rfl uS10n25 rfl ?_
 refine B_seq (B_region ?_)
 refine Lo uS10n25 (v_move (.inl rfl) rfl) ?_
 refine Lo uS10n25 (wS10n0 rfl rfl rfl) ?_
 refine Lo uS10n25 (v_move (.inr rfl) rfl) ?_
 refine L_nil (K_seq (B_block ?_))
 refine B_clear (mk 25 33554364) (env' := uS10n25) rfl ?_
 refine B_loopE (fun (m : Nat) => m) (fun (m : Nat) => [(6, iI ((m : Int) - 1))]) (fun (m : Nat) G => (m ≤ wide) ∧ ∃ X1 v1, G = B ++ X1 ∧ RB h X1 j v1 (L ++ ((be w wide).take (wide - m)))) wide rfl ?_ ?_
 ·refine ⟨?_, ⟨X, v, List.append_nil _, r.cast (by rw [Nat.sub_self, List.take_zero, List.append_nil])⟩⟩
  exact Nat.le_refl _
 rintro m _ ⟨hm, ⟨X1, v1, rfl, r1⟩⟩
 refine B_env (env' := uS10n25) rfl ?_
 refine B_seq (B_seq (B_region ?_))
 refine Lo uS10n25 (v_move (.inl rfl) rfl) ?_
 refine Lo uS10n25 (rfl) ?_
 refine L_nil (K_seq ?_)
 refine B_cond _ rfl (fun hc1 => ?_) (fun hc1 => ?_)
 ·try simp only [qB, qN] at hc1
  refine B_skip (K_seq (B_seq (B_block ?_)))
  refine B_draw [0, 1, 2, 3, 4, 5, 6, 7, 8, 9, 10, 11, 12] #[0, 0, 2, 6, 0, 0, 32, 112, 240, 496, 1022, 2047, 4095] (by kernel_rfl) (by kernel_rfl) (by kernel_rfl) ?_
  refine Oo uS10n25 .calm rfl (v_move (.inl rfl) rfl) ?_
  refine Oo uS10n25 .calm rfl (v_move (.inl rfl) rfl) ?_
  refine Oo uS10n25 .calm rfl (rfl) ?_
  refine Oo uS10n25 .look rfl (wS10n1 rfl rfl rfl rfl) ?_
  refine Oo uS10n25 .calm rfl (v_move (.inl rfl) rfl) ?_
  refine Oo uS10n25 .calm rfl (v_move (.inl rfl) rfl) ?_
  refine Oo uS10n25 .calm rfl (v_mulI rfl rfl rfl (by omega)) ?_
  refine Oo uS10n25 .calm rfl (v_val (u := iW (w >>> (8 * (m - 1)))) (v_shrW rfl rfl rfl (by omega)) (by rw [show (8 * ((m : Int) - 1)).toNat = 8 * (m - 1) by omega])) ?_
  refine Oo uS10n25 .calm rfl (v_cvWB rfl rfl rfl rfl rfl) ?_
  refine Oo uS10n25 .grow rfl (v_buildSlice rfl rfl (by decide) rfl) ?_
  refine O_opX .turn rfl rfl rfl (v_appXh rfl rfl rfl rfl rfl rfl rfl hB r1.l rfl rfl (by decide) (by have h9 := List.length_take_le (wide - m) (be w wide); rw [List.length_append]; show (_ + 1) * 1 ≤ _ ∧ _ + 1 ≤ _; omega) (by decide)) rfl rfl ?_
  rintro _ _ ⟨Y1, rfl, rfl, hY1, hY2, hY3⟩
  refine O_env (env' := uS10n25) rfl ?_
  refine Oo uS10n25 .calm rfl (rfl) ?_
  refine Oo uS10n25 .turn rfl (wS10n2 rfl rfl rfl rfl rfl rfl rfl) ?_
  refine O_nil [] (by kernel_rfl) (trivial) ?_
  refine K_blk (K_seq (B_region ?_))
  refine Lo uS10n25 (v_move (.inl rfl) rfl) ?_
  refine Lo uS10n25 (wS10n0 rfl rfl rfl) ?_
  refine Lo uS10n25 (v_move (.inr rfl) rfl) ?_
  refine L_nil ?_
  refine K_loop (mk 25 33554364) (env' := uS10n25) rfl ⟨m - 1, ?_, (by rw [show (((m - 1 : Nat) : Int)) = (m : Int) - 1 by omega]; rfl), ?_⟩
  ·first | omega | (simp only []; omega)
  ·exact ⟨by omega, _, _, rfl, RB.cast (RB.push (RG.push r1 hY1 hY2 hY3).1) (by rw [be_step (by omega) (by omega), List.append_assoc])⟩
 ·try simp only [qB, qN] at hc1
  refine B_exit (K_seqX (K_loopX (K_blkX ?_)))
  refine E_keep (.inl rfl) (vres_none rfl) ?_
  obtain rfl : m = 0 := by omega
  exact ⟨rfl, _, _, rfl, r1.cast (by rw [Nat.sub_zero, List.take_of_length_le (by rw [be_len]; exact Nat.le_refl _)])⟩

theorem put1_spec {x : SW} (B X : VHeap) (h j : Nat) (v : VVal) (L : List UInt8) (n : Int) (hB : B.length = h) (r : RB h X j v L) (hL : L.length ≤ 1000000) : F (psys x) 37 [.ptr (some (h + j, 0)), iW (BitVec.ofInt 64 n), iI 1] (B ++ X) fun u G => u = .tuple [] ∧ ∃ X1 v1, G = B ++ X1 ∧ RB h X1 j v1 (L ++ [bI n]) := by
  have := put_spec (x := x) B X h j v L (BitVec.ofInt 64 n) 1 hB r hL (by decide)
  rw [be_1] at this; exact this

theorem Write_spec {x : SW} (H : VHeap) (p : Pb) (us : List Int) (hp : PbL p) (hu : us.length ≤ 1000000) : F (psys x) 15 [.agg (pbB p), fzI us] H fun v G => v = .tuple [fzB (cW p us), iI (eW p us)] ∧ G = H := by
 refine F_body Try.func15 rfl uS10n102 rfl ?_
 refine B_seq (B_region ?_)
 refine Lo uS10n102 (v_boxT rfl rfl rfl) ?_
 refine Lo uS10n102 (v_const (VVal.slice none 0 0 true 0) (.inr rfl) rfl) ?_
 refine Lo uS10n102 (v_const (VVal.int .i64 0) (.inr rfl) rfl) ?_
 refine L_nil (K_seq (B_seq (B_region ?_)))
 refine Lo uS10n102 (wS10n3 rfl rfl rfl rfl rfl) ?_
 refine Lo uS10n102 (v_move (.inl rfl) rfl) ?_
 refine L_call rfl rfl rfl (by exact Flaws_spec _ _ _ hp hu) ?_
 rintro _ _ ⟨rfl, rfl⟩
 refine Le uS10n102 ?_
 refine Lo uS10n102 (v_move (.inl rfl) rfl) ?_
 refine Lo uS10n102 (rfl) ?_
 refine Lo uS10n102 (rfl) ?_
 refine Lo uS10n102 (v_move (.inr rfl) rfl) ?_
 refine Lo uS10n102 (v_move (.inr rfl) rfl) ?_
 refine L_nil (K_seq (B_seq (B_block (B_seq (B_region ?_)))))
 refine Lo uS10n102 (v_move (.inl rfl) rfl) ?_
 refine Lo uS10n102 (rfl) ?_
 refine Lo uS10n102 (v_move (.inr rfl) rfl) ?_
 refine L_nil (K_seq ?_)
 refine B_cond _ rfl (fun hc1 => ?_) (fun hc1 => ?_)
 ·try simp only [qB, qN] at hc1
  refine B_seq (B_region ?_)
  refine Lo uS10n102 (v_move (.inl rfl) rfl) ?_
  refine Lo uS10n102 (v_const (VVal.slice none 0 0 true 0) (.inr rfl) rfl) ?_
  refine Lo uS10n102 (v_move (.inr rfl) rfl) ?_
  refine L_nil (K_seq ?_)
  refine B_gh (Gh.freezeNil 4 (es' := 1) rfl rfl) ?_
  refine B_ret (K_blkR (K_seqR ?_))
  refine wS10n4 (.inr rfl) (vres_tmp2 rfl rfl rfl) ?_
  exact wS10n5
 ·try simp only [qB, qN] at hc1
  refine B_seq (B_region ?_)
  refine Lo uS10n102 (v_move (.inl rfl) rfl) ?_
  refine Lo uS10n102 (rfl) ?_
  refine Lo uS10n102 (rfl) ?_
  refine Lo uS10n102 (v_move (.inr rfl) rfl) ?_
  refine L_nil (K_seq ?_)
  refine B_cond _ rfl (fun hc2 => ?_) (fun hc2 => ?_)
  ·try simp only [qB, qN] at hc2
   refine B_seq (B_region ?_)
   refine Lo uS10n102 (v_const (VVal.slice none 0 0 true 0) (.inr rfl) rfl) ?_
   refine Lo uS10n102 (v_const (VVal.int .i64 1) (.inr rfl) rfl) ?_
   refine L_nil (K_seq ?_)
   refine B_gh (Gh.freezeNil 4 (es' := 1) rfl rfl) ?_
   have hpk : pck p = 0 := by assumption
   have hne := flA_pos hpk (by assumption)
   refine B_ret (K_blkR (K_seqR ?_))
   refine wS10n4 (.inr rfl) (vres_tmp2 rfl rfl rfl) ?_
   exact wS10n5
  ·try simp only [qB, qN] at hc2
   refine B_skip (K_blk (K_seq (B_seq ?_)))
   have hpk : pck p = 0 := by assumption
   have g : Go.V.Good p := pck_good.1 hpk
   have g1 := g.n12; have g2 := g.u64; have g3 := g.r32; have g4 := g.u0; have g5 := g.fx
   have hfl : flw p us = [] := flA_len0 hpk (by omega)
   have hus := flw_0len hfl
   have hT : ∀ m, ∀ r, r ∈ p.rules.take m → r.steps.length ≤ 12 := fun m r hr => rck_len (g.ru r (List.mem_of_mem_take hr))
   refine B_region ?_
   refine Lo uS10n102 (v_buildSlice rfl rfl (by decide) rfl) ?_
   refine L_gh (Gh.loosen 29 rfl rfl) ?_
   refine Lo uS10n102 (v_cvSl rfl rfl rfl rfl rfl rfl (get_app rfl rfl)) ?_
   refine Lo uS10n102 (v_alloc rfl rfl) ?_
   refine Lo uS10n102 (wS10n6 rfl rfl rfl rfl rfl rfl rfl) ?_
   refine L_nil (K_seq (B_seq ?_))
   refine B_heap (H' := (H ++ [VBlk.cells (pbB p) true]) ++ [VBlk.cells ([80, 67].map iB) true, VBlk.cells [VVal.slice (some (H.length + 1, 0)) 2 2 false 1] true]) (List.append_assoc H [_] [_, _]).symm ?_
   have r : RB (H.length + 1) [VBlk.cells ([80, 67].map iB) true, VBlk.cells [VVal.slice (some (H.length + 1, 0)) 2 2 false 1] true] 1 (VVal.slice (some (H.length + 1, 0)) 2 2 false 1) [80, 67] := ⟨rfl, ⟨rfl, .inr ⟨by decide, 0, rfl, rfl⟩⟩, by simp [vidx]⟩
   refine B_region ?_
   refine Lo uS10n102 (rfl) ?_
   refine Lo uS10n102 (wS10n7 rfl rfl rfl rfl) ?_
   refine Lo uS10n102 (v_cvW rfl rfl rfl rfl rfl) ?_
   refine L_call rfl rfl rfl (by exact put1_spec _ _ (H.length + 1) 1 _ _ _ (by simp) r (by simp only [List.length_append, List.length_cons, List.length_nil, be_len, stsB_len, hdB] <;> omega)) ?_
   rintro _ _ ⟨rfl, X, v, rfl, r⟩
   refine Le uS10n102 ?_
   refine L_nil (K_seq (B_seq (B_region ?_)))
   refine Lo uS10n102 (v_move (.inl rfl) rfl) ?_
   refine Lo uS10n102 (rfl) ?_
   refine Lo uS10n102 (v_cvW rfl rfl rfl rfl rfl) ?_
   refine L_call rfl rfl rfl (by exact put1_spec _ _ (H.length + 1) 1 _ _ _ (by simp) r (by simp only [List.length_append, List.length_cons, List.length_nil, be_len, stsB_len, hdB] <;> omega)) ?_
   rintro _ _ ⟨rfl, X, v, rfl, r⟩
   refine Le uS10n102 ?_
   refine L_nil (K_seq (B_seq (B_seq (B_region ?_))))
   refine Lo uS10n102 (v_move (.inl rfl) rfl) ?_
   refine Lo uS10n102 (rfl) ?_
   refine Lo uS10n102 (v_const (VVal.int .i64 0) (.inl rfl) rfl) ?_
   refine L_nil (K_seq (B_block ?_))
   refine B_clear (mk 102 5070602400912917602138522124027) (env' := uS10n102) rfl ?_
   refine B_loopE (fun (k : Nat) => us.length - k) (fun (k : Nat) => [(41, iI (k : Nat))]) (fun (k : Nat) G => (k ≤ us.length) ∧ ∃ X v, G = (H ++ [VBlk.cells (pbB p) true]) ++ X ∧ RB (H.length + 1) X 1 v (hdB p ++ stsB p us k)) 0 rfl ?_ ?_
   ·refine ⟨?_, ⟨_, _, rfl, r.cast (by rw [hus]; rfl)⟩⟩
    exact Nat.zero_le _
   rintro k _ ⟨hk, ⟨X, v, rfl, r⟩⟩
   refine B_env (env' := uS10n102) rfl ?_
   refine B_seq (B_region ?_)
   refine Lo uS10n102 (rfl) ?_
   refine L_nil (K_seq (B_seq ?_))
   refine B_cond _ rfl (fun hc3 => ?_) (fun hc3 => ?_)
   ·try simp only [qB, qN] at hc3
    refine B_skip (K_seq (B_seq (B_block (B_seq (B_region ?_)))))
    refine Lo uS10n102 (v_move (.inl rfl) rfl) ?_
    refine Lo uS10n102 (wS10n8 rfl rfl rfl rfl rfl rfl rfl) ?_
    refine Lo uS10n102 (wS10n7 rfl rfl rfl rfl) ?_
    refine Lo uS10n102 (v_move (.inr rfl) rfl) ?_
    refine Lo uS10n102 (v_move (.inr rfl) rfl) ?_
    refine L_nil (K_seq (B_seq (B_region ?_)))
    refine Lo uS10n102 (rfl) ?_
    refine Lo uS10n102 (wS10n7 rfl rfl rfl rfl) ?_
    refine Lo uS10n102 (v_move (.inl rfl) rfl) ?_
    refine Lo uS10n102 (wS10n8 rfl rfl rfl rfl rfl rfl rfl) ?_
    refine Lo uS10n102 (wS10n7 rfl rfl rfl rfl) ?_
    refine L_call rfl rfl rfl (by exact put_spec _ _ (H.length + 1) 1 _ _ _ _ (by simp) r (by simp only [List.length_append, List.length_cons, List.length_nil, be_len, stsB_len, hdB] <;> omega) (by decide)) ?_
    rintro _ _ ⟨rfl, X, v, rfl, r⟩
    refine Le uS10n102 ?_
    refine L_nil (K_seq (B_seq (B_region ?_)))
    refine Lo uS10n102 (rfl) ?_
    refine Lo uS10n102 (wS10n7 rfl rfl rfl rfl) ?_
    refine Lo uS10n102 (v_move (.inl rfl) rfl) ?_
    refine Lo uS10n102 (wS10n8 rfl rfl rfl rfl rfl rfl rfl) ?_
    refine Lo uS10n102 (wS10n7 rfl rfl rfl rfl) ?_
    refine Lo uS10n102 (wS10n9 rfl rfl rfl) ?_
    refine Lo uS10n102 (v_cvW rfl rfl rfl rfl rfl) ?_
    refine L_call rfl rfl rfl (by exact put1_spec _ _ (H.length + 1) 1 _ _ _ (by simp) r (by simp only [List.length_append, List.length_cons, List.length_nil, be_len, stsB_len, hdB] <;> omega)) ?_
    rintro _ _ ⟨rfl, X, v, rfl, r⟩
    refine Le uS10n102 ?_
    refine L_nil (K_seq (B_region ?_))
    refine Lo uS10n102 (v_move (.inl rfl) rfl) ?_
    refine Lo uS10n102 (v_cvW rfl rfl rfl rfl rfl) ?_
    refine L_call rfl rfl rfl (by exact put1_spec _ _ (H.length + 1) 1 _ _ _ (by simp) r (by simp only [List.length_append, List.length_cons, List.length_nil, be_len, stsB_len, hdB] <;> omega)) ?_
    rintro _ _ ⟨rfl, X, v, rfl, r⟩
    refine Le uS10n102 ?_
    refine L_nil (K_blk (K_seq (B_region ?_)))
    refine Lo uS10n102 (wS10n10 rfl rfl rfl) ?_
    refine Lo uS10n102 (v_move (.inl rfl) rfl) ?_
    refine L_nil ?_
    refine K_loop (mk 102 5070602400912917602138522124027) (env' := uS10n102) rfl ⟨k + 1, ?_, rfl, ?_⟩
    ·first | omega | (simp only []; omega)
    ·exact ⟨by omega, _, _, rfl, r.cast (by rw [stsB_succ, stB]; simp only [List.append_assoc, List.cons_append, List.nil_append])⟩
   ·try simp only [qB, qN] at hc3
    refine B_exit (K_seqX (K_loopX (K_blkX (K_seq (B_seq ?_)))))
    obtain rfl : k = us.length := by omega
    rw [hus] at r
    refine B_region ?_
    refine Lo uS10n102 (rfl) ?_
    refine Lo uS10n102 (wS10n7 rfl rfl rfl rfl) ?_
    refine Lo uS10n102 (rfl) ?_
    refine Lo uS10n102 (v_cvW rfl rfl rfl rfl rfl) ?_
    refine L_call rfl rfl rfl (by exact put1_spec _ _ (H.length + 1) 1 _ _ _ (by simp) r (by simp only [List.length_append, List.length_cons, List.length_nil, be_len, stsB_len, hdB] <;> omega)) ?_
    rintro _ _ ⟨rfl, X, v, rfl, r⟩
    refine Le uS10n102 ?_
    refine L_nil (K_seq (B_seq (B_seq (B_region ?_))))
    refine Lo uS10n102 (rfl) ?_
    refine Lo uS10n102 (wS10n7 rfl rfl rfl rfl) ?_
    refine Lo uS10n102 (rfl) ?_
    refine Lo uS10n102 (v_const (VVal.int .i64 0) (.inl rfl) rfl) ?_
    refine L_nil (K_seq (B_block ?_))
    refine B_clear (mk 102 5070602392648776260964933697279) (env' := uS10n102) rfl ?_
    refine B_loopE (fun (q : Nat) => p.rules.length - q) (fun (q : Nat) => [(72, iI (q : Nat))]) (fun (q : Nat) G => (q ≤ p.rules.length) ∧ ∃ X v, G = (H ++ [VBlk.cells (pbB p) true]) ++ X ∧ RB (H.length + 1) X 1 v (hdB p ++ stsB p us p.who.length ++ [bI p.rules.length] ++ (p.rules.take q).flatMap ruB)) 0 rfl ?_ ?_
    ·refine ⟨?_, ⟨_, _, rfl, r.cast (by simp)⟩⟩
     exact Nat.zero_le _
    rintro q _ ⟨hq, ⟨X, v, rfl, r⟩⟩
    refine B_env (env' := uS10n102) rfl ?_
    refine B_seq (B_region ?_)
    refine Lo uS10n102 (rfl) ?_
    refine L_nil (K_seq (B_seq ?_))
    refine B_cond _ rfl (fun hc4 => ?_) (fun hc4 => ?_)
    ·try simp only [qB, qN] at hc4
     refine B_skip (K_seq (B_seq (B_block (B_seq (B_region ?_)))))
     refine Lo uS10n102 (wS10n8 rfl rfl rfl rfl rfl rfl rfl) ?_
     refine Lo uS10n102 (wS10n3 rfl rfl rfl rfl rfl) ?_
     refine Lo uS10n102 (v_alloc rfl rfl) ?_
     refine Lo uS10n102 (wS10n6 rfl rfl rfl rfl rfl rfl rfl) ?_
     refine L_nil (K_seq (B_seq ?_))
     refine B_gh (Gh.freezeEnd (cs := rlB (p.rules.getD q r0)) 12 rfl rfl) ?_
     have r := RG.app r [VBlk.dead]
     have hT := hT q
     have hs12 := rck_len (g.ru _ (rul_mem (l := p.rules) (k := q) (by omega)))
     refine B_region ?_
     refine Lo uS10n102 (rfl) ?_
     refine Lo uS10n102 (wS10n7 rfl rfl rfl rfl) ?_
     refine Lo uS10n102 (v_cvW rfl rfl rfl rfl rfl) ?_
     refine L_call rfl rfl rfl (by exact put1_spec _ _ (H.length + 1) 1 _ _ _ (by simp) r (by have h9 := rusB_len (n := 0) (p.rules.take q) hT; rw [List.length_take] at h9; simp only [List.length_append, List.length_cons, List.length_nil, be_len, stsB_len, hdB, List.length_map, List.length_take]; omega)) ?_
     rintro _ _ ⟨rfl, X, v, rfl, r⟩
     refine Le uS10n102 ?_
     refine L_nil (K_seq (B_seq (B_region ?_)))
     refine Lo uS10n102 (rfl) ?_
     refine Lo uS10n102 (wS10n7 rfl rfl rfl rfl) ?_
     refine Lo uS10n102 (v_cvW rfl rfl rfl rfl rfl) ?_
     refine L_call rfl rfl rfl (by exact put_spec _ _ (H.length + 1) 1 _ _ _ _ (by simp) r (by have h9 := rusB_len (n := 0) (p.rules.take q) hT; rw [List.length_take] at h9; simp only [List.length_append, List.length_cons, List.length_nil, be_len, stsB_len, hdB, List.length_map, List.length_take]; omega) (by decide)) ?_
     rintro _ _ ⟨rfl, X, v, rfl, r⟩
     refine Le uS10n102 ?_
     refine L_nil (K_seq (B_seq (B_region ?_)))
     refine Lo uS10n102 (rfl) ?_
     refine Lo uS10n102 (wS10n7 rfl rfl rfl rfl) ?_
     refine Lo uS10n102 (rfl) ?_
     refine Lo uS10n102 (v_cvW rfl rfl rfl rfl rfl) ?_
     refine L_call rfl rfl rfl (by exact put1_spec _ _ (H.length + 1) 1 _ _ _ (by simp) r (by have h9 := rusB_len (n := 0) (p.rules.take q) hT; rw [List.length_take] at h9; simp only [List.length_append, List.length_cons, List.length_nil, be_len, stsB_len, hdB, List.length_map, List.length_take]; omega)) ?_
     rintro _ _ ⟨rfl, X, v, rfl, r⟩
     refine Le uS10n102 ?_
     refine L_nil (K_seq (B_seq (B_region ?_)))
     refine Lo uS10n102 (rfl) ?_
     refine Lo uS10n102 (wS10n7 rfl rfl rfl rfl) ?_
     refine Lo uS10n102 (rfl) ?_
     refine Lo uS10n102 (v_const (VVal.int .i64 0) (.inl rfl) rfl) ?_
     refine L_nil (K_seq (B_block ?_))
     refine B_clear (mk 102 5061936812373778599040639827711) (env' := uS10n102) rfl ?_
     refine B_loopE (fun (s : Nat) => (p.rules.getD q r0).steps.length - s) (fun (s : Nat) => [(92, iI (s : Nat))]) (fun (s : Nat) G => (s ≤ (p.rules.getD q r0).steps.length) ∧ ∃ X v, G = (H ++ [VBlk.cells (pbB p) true]) ++ X ∧ RB (H.length + 1) X 1 v (hdB p ++ stsB p us p.who.length ++ [bI p.rules.length] ++ (p.rules.take q).flatMap ruB ++ ([bI (p.rules.getD q r0).kind] ++ be (BitVec.ofInt 64 (p.rules.getD q r0).k) 4 ++ [bI (p.rules.getD q r0).steps.length] ++ ((p.rules.getD q r0).steps.take s).map bI))) 0 rfl ?_ ?_
     ·refine ⟨?_, ⟨_, _, rfl, r.cast (by simp)⟩⟩
      exact Nat.zero_le _
     rintro s _ ⟨hs, ⟨X, v, rfl, r⟩⟩
     refine B_env (env' := uS10n102) rfl ?_
     refine B_seq (B_region ?_)
     refine Lo uS10n102 (rfl) ?_
     refine L_nil (K_seq (B_seq ?_))
     refine B_cond _ rfl (fun hc5 => ?_) (fun hc5 => ?_)
     ·try simp only [qB, qN] at hc5
      refine B_skip (K_seq (B_seq (B_block (B_seq (B_region ?_)))))
      refine Lo uS10n102 (wS10n8 rfl rfl rfl rfl rfl rfl rfl) ?_
      refine Lo uS10n102 (wS10n7 rfl rfl rfl rfl) ?_
      refine Lo uS10n102 (v_move (.inr rfl) rfl) ?_
      refine L_nil (K_seq (B_region ?_))
      refine Lo uS10n102 (v_move (.inl rfl) rfl) ?_
      refine Lo uS10n102 (v_cvW rfl rfl rfl rfl rfl) ?_
      refine L_call rfl rfl rfl (by exact put1_spec _ _ (H.length + 1) 1 _ _ _ (by simp) r (by have h9 := rusB_len (n := 0) (p.rules.take q) hT; rw [List.length_take] at h9; simp only [List.length_append, List.length_cons, List.length_nil, be_len, stsB_len, hdB, List.length_map, List.length_take]; omega)) ?_
      rintro _ _ ⟨rfl, X, v, rfl, r⟩
      refine Le uS10n102 ?_
      refine L_nil (K_blk (K_seq (B_region ?_)))
      refine Lo uS10n102 (wS10n10 rfl rfl rfl) ?_
      refine Lo uS10n102 (v_move (.inl rfl) rfl) ?_
      refine L_nil ?_
      refine K_loop (mk 102 5061936812373778599040639827711) (env' := uS10n102) rfl ⟨s + 1, ?_, rfl, ?_⟩
      ·first | omega | (simp only []; omega)
      ·exact ⟨by omega, _, _, rfl, r.cast (by rw [take_at (d := 0) (l := (p.rules.getD q r0).steps) (by omega), List.map_append]; simp)⟩
     ·try simp only [qB, qN] at hc5
      refine B_exit (K_seqX (K_loopX (K_blkX (K_blk (K_seq (B_region ?_))))))
      refine Lo uS10n102 (wS10n10 rfl rfl rfl) ?_
      refine Lo uS10n102 (v_move (.inl rfl) rfl) ?_
      refine L_nil ?_
      obtain rfl : s = (p.rules.getD q r0).steps.length := by omega
      refine K_loop (mk 102 5070602392648776260964933697279) (env' := uS10n102) rfl ⟨q + 1, ?_, rfl, ?_⟩
      ·first | omega | (simp only []; omega)
      ·exact ⟨by omega, _, _, rfl, r.cast (by rw [rusB_succ (d := r0) (by omega), ruB, List.take_of_length_le (Nat.le_refl _)]; simp only [List.append_assoc, List.cons_append, List.nil_append])⟩
    ·try simp only [qB, qN] at hc4
     refine B_exit (K_seqX (K_loopX (K_blkX (K_seq (B_seq (B_region ?_))))))
     refine Lo uS10n102 (wS10n11 rfl rfl rfl rfl) ?_
     refine Lo uS10n102 (v_move (.inr rfl) rfl) ?_
     refine Lo uS10n102 (v_const (VVal.int .i64 0) (.inr rfl) rfl) ?_
     refine L_nil (K_seq ?_)
     refine B_ghLVh (env' := uS10n102) 4 r.l (by simp) rfl rfl fun X9 _ _ => ?_
     refine B_heap (List.append_assoc _ _ _) ?_
     refine B_ret ?_
     refine wS10n4 (.inr rfl) (vres_tmp2 rfl rfl rfl) ?_
     exact wS10n5
end Go.Proofs.Ytbngdhlmggdaaaa.VT

set_option autoImplicit false
set_option linter.unusedVariables false
set_option linter.unusedSimpArgs false
set_option maxHeartbeats 4000000
set_option maxRecDepth 100000
namespace Go.Proofs.Ytbngdhlmggdaaaa.VT
open Go Go.V Go.RowKit

abbrev uS12n44 {a0 a1 a2 a3 a4 a5 a6 a7 a8 a9 a10 a11 a12 a13 a14 a15 a16 a17 a18 a19 a20 a21 a22 a23 a24 a25 a26 a27 a28 a29 a30 a31 a32 a33 a34 a35 a36 a37 a38 a39 a40 a41 a42 a43 : VVal} : VEnv := a0 :: a1 :: a2 :: a3 :: a4 :: a5 :: a6 :: a7 :: a8 :: a9 :: a10 :: a11 :: a12 :: a13 :: a14 :: a15 :: a16 :: a17 :: a18 :: a19 :: a20 :: a21 :: a22 :: a23 :: a24 :: a25 :: a26 :: a27 :: a28 :: a29 :: a30 :: a31 :: a32 :: a33 :: a34 :: a35 :: a36 :: a37 :: a38 :: a39 :: a40 :: a41 :: a42 :: a43 :: []

theorem wS12n0 {T : TypeId → Option VTy} {H : VHeap} {op : Op} {ρ : VEnv} {H' : VHeap} {t : TypeId} {a : Operand} {i : Nat} {v : VVal} {y : VTy} {b off : Nat} {cs new : List VVal} (ho : op = .store t a (.tmp i)) (hv : ρ[i]? = some v) (ha : ρ.eval a = .ptr (some (b, off))) (hy : T t = some y) (hx : v.cells = some new) (hn : new.length = y.size) (h1 : new.all VVal.one = true) (hb : H[b]? = some (.cells cs true) := by first | exact get_app rfl rfl | exact get_out (by assumption) | exact getE0 rfl rfl | exact get_out (get_app rfl rfl) | exact get_app rfl (by assumption) | assumption | (simp only [List.append_assoc, List.singleton_append, List.cons_append, List.nil_append]; refine getE (i := 0) rfl ?_ rfl; simp; done) | (simp only [List.append_assoc, List.singleton_append, List.cons_append, List.nil_append]; refine getE (i := 1) rfl ?_ rfl; simp; done) | (simp only [List.append_assoc, List.singleton_append, List.cons_append, List.nil_append]; refine getE (i := 2) rfl ?_ rfl; simp; done) | (simp only [List.append_assoc, List.singleton_append, List.cons_append, List.nil_append]; refine getE (i := 3) rfl ?_ rfl; simp; done) | (simp [*]; done)) (hl : off + new.length ≤ cs.length := by first | exact Nat.le_of_ble_eq_true rfl | (simp only [List.length_map, List.length_cons, List.length_nil]; omega) | omega | (simp; done) | (simp; omega)) (hH : H.set b (.cells (splice cs off new) true) = H' := by first | exact setE0 rfl rfl | (simp only [List.append_assoc, List.singleton_append, List.cons_append, List.nil_append]; refine setE (i := 0) rfl ?_; simp; done) | (simp only [List.append_assoc, List.singleton_append, List.cons_append, List.nil_append]; refine setE (i := 1) rfl ?_; simp; done) | (simp only [List.append_assoc, List.singleton_append, List.cons_append, List.nil_append]; refine setE (i := 2) rfl ?_; simp; done) | (simp only [List.append_assoc, List.singleton_append, List.cons_append, List.nil_append]; refine setE (i := 3) rfl ?_; simp; done) | (refine setB rfl ?_; simp; done) | exact set_app rfl | exact set_out (lt_of_get (by assumption)) | rfl) : vop T ρ.eval H op = some (.skip, H') := v_storeT ho hv ha hy hx hn h1 hb hl hH
theorem wS12n1 {T : TypeId → Option VTy} {H : VHeap} {op : Op} {ρ : Operand → VVal} {t : TypeId} {a : Operand} {y : VTy} {p : VVal} {n : Nat} {vs : List VVal} (ho : op = .load t a) (ha : ρ a = p) (hy : T t = some y) (hd : isAggDesc y.desc = true) (hn : y.size = n) (h : LdOkA H p n vs := by first | exact .inl ⟨_, _, rfl, by first | rfl | assumption | exact fget (α := BitVec 64) 0 (by omega) | exact fget (α := Int) 0 (by omega) | exact fget0 (α := BitVec 64) 0 (by omega) | exact fget0 (α := Int) 0 (by omega) | exact fget (α := Bool) false (by omega) | exact fget0 (α := Bool) false (by omega) | (simp [*]; done)⟩ | exact .inr ⟨_, _, _, _, rfl, by first | exact get_app rfl rfl | exact get_out (by assumption) | exact getE0 rfl rfl | exact get_out (get_app rfl rfl) | exact get_app rfl (by assumption) | assumption | (simp only [List.append_assoc, List.singleton_append, List.cons_append, List.nil_append]; refine getE (i := 0) rfl ?_ rfl; simp; done) | (simp only [List.append_assoc, List.singleton_append, List.cons_append, List.nil_append]; refine getE (i := 1) rfl ?_ rfl; simp; done) | (simp only [List.append_assoc, List.singleton_append, List.cons_append, List.nil_append]; refine getE (i := 2) rfl ?_ rfl; simp; done) | (simp only [List.append_assoc, List.singleton_append, List.cons_append, List.nil_append]; refine getE (i := 3) rfl ?_ rfl; simp; done) | (simp [*]; done), by first | rfl | assumption | exact fget (α := BitVec 64) 0 (by omega) | exact fget (α := Int) 0 (by omega) | exact fget0 (α := BitVec 64) 0 (by omega) | exact fget0 (α := Int) 0 (by omega) | exact fget (α := Bool) false (by omega) | exact fget0 (α := Bool) false (by omega) | (simp [*]; done)⟩) : vop T ρ H op = some (.agg vs, H) := v_ldA ho ha hy hd hn h
theorem wS12n2 {T : TypeId → Option VTy} {H : VHeap} {op : Op} {ρ : Operand → VVal} {t e : TypeId} {x i : Operand} {y z : VTy} {k : IntKind} {n : Int} {p v : VVal} {es : Nat} (ho : op = .indexAddr t x i) (hx : ρ x = p) (hi : ρ i = .int k n) (hy : T t = some y) (hd : y.desc = .slice e) (hz : T e = some z) (hs : z.size = es) (h : IxOk p es n v := by first | exact .inl ⟨_, _, _, rfl, by first | assumption | omega | (simp [*]; done) | (simp at *; omega), rfl⟩ | exact .inr ⟨_, _, _, _, _, rfl, by first | assumption | omega | (simp [*]; done) | (simp at *; omega), rfl⟩) : vop T ρ H op = some (v, H) := v_ix ho hx hi hy hd hz hs h
theorem wS12n3 {T : TypeId → Option VTy} {H : VHeap} {op : Op} {ρ : Operand → VVal} {t : TypeId} {a : Operand} {y : VTy} {p v : VVal} (ho : op = .load t a) (ha : ρ a = p) (hy : T t = some y) (hd : isAggDesc y.desc = false) (h : LdOk H p v := by first | exact .inl ⟨_, _, rfl, by first | rfl | assumption | exact fget (α := BitVec 64) 0 (by omega) | exact fget (α := Int) 0 (by omega) | exact fget0 (α := BitVec 64) 0 (by omega) | exact fget0 (α := Int) 0 (by omega) | exact fget (α := Bool) false (by omega) | exact fget0 (α := Bool) false (by omega) | (simp [*]; done)⟩ | exact .inr ⟨_, _, _, _, rfl, by first | exact get_app rfl rfl | exact get_out (by assumption) | exact getE0 rfl rfl | exact get_out (get_app rfl rfl) | exact get_app rfl (by assumption) | assumption | (simp only [List.append_assoc, List.singleton_append, List.cons_append, List.nil_append]; refine getE (i := 0) rfl ?_ rfl; simp; done) | (simp only [List.append_assoc, List.singleton_append, List.cons_append, List.nil_append]; refine getE (i := 1) rfl ?_ rfl; simp; done) | (simp only [List.append_assoc, List.singleton_append, List.cons_append, List.nil_append]; refine getE (i := 2) rfl ?_ rfl; simp; done) | (simp only [List.append_assoc, List.singleton_append, List.cons_append, List.nil_append]; refine getE (i := 3) rfl ?_ rfl; simp; done) | (simp [*]; done), by first | rfl | assumption | exact fget (α := BitVec 64) 0 (by omega) | exact fget (α := Int) 0 (by omega) | exact fget0 (α := BitVec 64) 0 (by omega) | exact fget0 (α := Int) 0 (by omega) | exact fget (α := Bool) false (by omega) | exact fget0 (α := Bool) false (by omega) | (simp [*]; done)⟩) : vop T ρ H op = some (v, H) := v_ld ho ha hy hd h
theorem wS12n4 {S : V.Sys} {H : VHeap} {fn : Func} {ex : Exit} {env : VEnv} {B L : VHeap} {v : VVal} {R : VVal → VHeap → Prop} (hx : ex = .normal ∨ ex = .ret) (hv : vresults S.C.T env (B ++ L) fn.results = some v) (h : R v B) (hB : BaseOk H B := by first | exact BaseOk.refl _ | exact BaseOk.set (BaseOk.refl _) _ rfl) (hu : v.under H.length = true := by first | rfl | simp [VVal.under, VVal.underL, *]) : fnK S fn H R ex env (B ++ L) := E_app hx hv hB hu h

section
variable {T : TypeId → Option VTy} {ρ : Operand → VVal} {H : VHeap} {op : Op}
theorem v_eqS {t ty : TypeId} {x y : Operand} {a : ByteArray} (ho : op = .binOp .eql t x y ty) (hx : ρ x = .str a) (hy : ρ y = .str a) : vop T ρ H op = some (.bool true, H) := by
  rw [ho]; simp [vop, vbin, hx, hy, vstr]
end
theorem flw_le (p : Pb) (us : List Int) : (flw p us).length ≤ us.length + p.rules.length + 1 := by
  unfold flw
  split
  · simp
  · rw [List.length_append, flR_len]
    have := flU_len p us us.length; have := brk_len p.rules us; omega
def p0 : Pb := (1, [1#64], [-1], [], ())
theorem p0_L : PbL p0 := ⟨by decide, by decide, by decide, by decide, fun r hr => by cases hr⟩
theorem wk_w : VVal.tuple [fzB (cW p0 [0]), iI (eW p0 [0])] = .tuple [fzB [80, 67, 1, 1, 0, 0, 0, 0, 0, 0, 0, 1, 0, 0, 0], iI 0] := by kernel_rfl
theorem wk_f : VVal.tuple [fzF (flA p0 [1]), iI (pck p0)] = .tuple [fzF [(2, 0, 0)], iI 0] := by kernel_rfl

theorem pwakes_spec {x : SW} (H : VHeap) : F (psys x) 12 [] H fun v G => v = .bool true ∧ G = H := by
 refine F_body Try.func12 rfl uS12n44 rfl ?_
 refine B_seq (B_region ?_)
 refine Lo uS12n44 (v_const (VVal.bool false) (.inr rfl) rfl) ?_
 refine L_nil (K_seq (B_seq (B_region ?_)))
 refine Lo uS12n44 (v_buildSlice rfl rfl (by decide) rfl) ?_
 refine Lo uS12n44 (v_buildSlice rfl rfl (by decide) rfl) ?_
 refine Lo uS12n44 (rfl) ?_
 refine Lo uS12n44 (v_alloc rfl rfl) ?_
 refine Lo uS12n44 (wS12n0 rfl rfl rfl rfl rfl rfl rfl) ?_
 refine L_nil (K_seq (B_seq (B_region ?_)))
 refine L_gh (Gh.cellL (l := [iW 1#64]) 2 1 0 rfl rfl (by decide) rfl rfl (Nat.le_refl _)) ?_
 refine L_gh (Gh.cellL (l := [iI (-1)]) 2 2 1 rfl rfl (by decide) rfl rfl (Nat.le_refl _)) ?_
 refine L_gh (Gh.cellNilL 2 3 (es' := 3) rfl rfl) ?_
 refine Lo uS12n44 (wS12n1 rfl rfl rfl rfl rfl) ?_
 refine Lo uS12n44 (v_buildSlice rfl rfl (by decide) rfl) ?_
 refine L_gh (Gh.freezeL (l := [iI 0]) 11 3 rfl rfl rfl (Nat.le_refl _) rfl) ?_
 refine L_call rfl rfl rfl (by exact Write_spec _ p0 [0] p0_L (by decide)) ?_
 rintro v _ ⟨hv, rfl⟩; rw [wk_w] at hv; subst hv
 refine Le uS12n44 ?_
 refine Lo uS12n44 (v_move (.inl rfl) rfl) ?_
 refine Lo uS12n44 (rfl) ?_
 refine Lo uS12n44 (rfl) ?_
 refine Lo uS12n44 (v_move (.inr rfl) rfl) ?_
 refine Lo uS12n44 (v_move (.inr rfl) rfl) ?_
 refine L_nil (K_seq (B_seq (B_region ?_)))
 refine Lo uS12n44 (wS12n1 rfl rfl rfl rfl rfl) ?_
 refine Lo uS12n44 (v_buildSlice rfl rfl (by decide) rfl) ?_
 refine L_gh (Gh.freezeL (l := [iI 1]) 17 4 rfl rfl rfl (Nat.le_refl _) rfl) ?_
 refine L_call rfl rfl rfl (by exact Flaws_spec _ p0 [1] p0_L (by decide)) ?_
 rintro v _ ⟨hv, rfl⟩; rw [wk_f] at hv; subst hv
 refine Le uS12n44 ?_
 refine Lo uS12n44 (v_move (.inl rfl) rfl) ?_
 refine Lo uS12n44 (rfl) ?_
 refine Lo uS12n44 (rfl) ?_
 refine Lo uS12n44 (v_move (.inr rfl) rfl) ?_
 refine Lo uS12n44 (v_move (.inr rfl) rfl) ?_
 refine L_nil (K_seq (B_seq (B_region ?_)))
 refine Lo uS12n44 (v_move (.inl rfl) rfl) ?_
 refine Lo uS12n44 (v_is true rfl rfl) ?_
 refine Lo uS12n44 (v_move (.inl rfl) rfl) ?_
 refine Lo uS12n44 (v_move (.inl rfl) rfl) ?_
 refine Lo uS12n44 (v_is true rfl rfl) ?_
 refine Lo uS12n44 (v_pickT rfl rfl rfl) ?_
 refine Lo uS12n44 (v_move (.inl rfl) rfl) ?_
 refine Lo uS12n44 (v_move (.inl rfl) rfl) ?_
 refine Lo uS12n44 (v_cvS rfl rfl rfl rfl rfl rfl rfl rfl) ?_
 refine Lo uS12n44 (v_eqS rfl rfl rfl) ?_
 refine Lo uS12n44 (v_pickT rfl rfl rfl) ?_
 refine Lo uS12n44 (v_move (.inl rfl) rfl) ?_
 refine Lo uS12n44 (v_move (.inl rfl) rfl) ?_
 refine Lo uS12n44 (rfl) ?_
 refine Lo uS12n44 (v_is true rfl rfl) ?_
 refine Lo uS12n44 (v_pickT rfl rfl rfl) ?_
 refine Lo uS12n44 (v_move (.inl rfl) rfl) ?_
 refine Lo uS12n44 (v_move (.inl rfl) rfl) ?_
 refine Lo uS12n44 (wS12n2 rfl rfl rfl rfl rfl rfl rfl) ?_
 refine Lo uS12n44 (rfl) ?_
 refine Lo uS12n44 (wS12n3 rfl rfl rfl rfl) ?_
 refine Lo uS12n44 (v_is true rfl rfl) ?_
 refine Lo uS12n44 (v_pickT rfl rfl rfl) ?_
 refine Lo uS12n44 (v_move (.inr rfl) rfl) ?_
 refine L_nil (K_seq (B_ret ?_))
 refine wS12n4 (.inr rfl) (vres_tmp rfl rfl) ?_
 exact ⟨rfl, rfl⟩
end Go.Proofs.Ytbngdhlmggdaaaa.VT

set_option autoImplicit false
set_option linter.unusedVariables false
set_option linter.unusedSimpArgs false
namespace Go.V
open Go Go.RowKit
/-- the number that bytes are -/
def vB (l : List UInt8) : BitVec 64 := l.foldl (fun n c => n <<< 8 ||| BitVec.ofNat 64 c.toNat) 0#64
theorem vB_app (l : List UInt8) (c : UInt8) : vB (l ++ [c]) = vB l <<< 8 ||| BitVec.ofNat 64 c.toNat := by unfold vB; rw [List.foldl_append]; rfl
theorem byte_lt (c : UInt8) : c.toNat < 256 := c.toNat_lt
theorem or_add (n : BitVec 64) (c : UInt8) : n <<< 8 ||| BitVec.ofNat 64 c.toNat = 256#64 * n + BitVec.ofNat 64 c.toNat := by
  have h0 : n <<< 8 &&& BitVec.ofNat 64 c.toNat = 0#64 := by
    apply BitVec.eq_of_getLsbD_eq
    intro i hi
    rw [BitVec.getLsbD_and, BitVec.getLsbD_shiftLeft]
    by_cases h : i < 8
    · simp [h]
    · have : (BitVec.ofNat 64 c.toNat).getLsbD i = false := by
        rw [BitVec.getLsbD_ofNat]
        have h2 : c.toNat.testBit i = false := Nat.testBit_lt_two_pow (Nat.lt_of_lt_of_le (byte_lt c) (by rw [show (256 : Nat) = 2 ^ 8 from rfl]; exact Nat.pow_le_pow_right (by omega) (by omega)))
        rw [h2, Bool.and_false]
      rw [this, Bool.and_false]; simp
  rw [← BitVec.add_eq_or_of_and_eq_zero _ _ h0, BitVec.shiftLeft_eq_mul_twoPow, BitVec.mul_comm]; rfl
theorem vB_app2 (l : List UInt8) (c : UInt8) : vB (l ++ [c]) = 256#64 * vB l + BitVec.ofNat 64 c.toNat := by rw [vB_app, or_add]
theorem vB_lt : ∀ (l : List UInt8), l.length ≤ 7 → (vB l).toNat < 256 ^ l.length := by
  intro l
  refine rev_ind (P := fun l => l.length ≤ 7 → (vB l).toNat < 256 ^ l.length) (fun _ => by decide) (fun l c ih h => ?_) l
  rw [List.length_append, List.length_singleton] at h ⊢
  have h1 := ih (by omega)
  rw [vB_app2, BitVec.toNat_add, BitVec.toNat_mul]
  have hc := byte_lt c
  rw [Nat.pow_succ]
  have hp : 256 ^ l.length ≤ 256 ^ 6 := Nat.pow_le_pow_right (by omega) (by omega)
  simp only [BitVec.toNat_ofNat]
  rw [Nat.mod_eq_of_lt (b := 2 ^ 64) (show c.toNat < 2 ^ 64 by omega), Nat.mod_eq_of_lt (show 256 < 2 ^ 64 by decide), Nat.mod_eq_of_lt (show 256 * (vB l).toNat < 2 ^ 64 by omega), Nat.mod_eq_of_lt (by omega)]
  omega
abbrev RSt := List UInt8 × Bool
/-- a number of so many bytes -/
def rg (n : Nat) (s : RSt) : BitVec 64 × RSt := if s.1.length < n then (0#64, ([], true)) else (vB (s.1.take n), (s.1.drop n, s.2))
theorem rg_no {n : Nat} {s : RSt} (h : s.1.length < n) : rg n s = (0#64, ([], true)) := if_pos h
theorem rg_yes {n : Nat} {s : RSt} (h : n ≤ s.1.length) : rg n s = (vB (s.1.take n), (s.1.drop n, s.2)) := if_neg (by omega)
theorem rg_lt {n : Nat} {s : RSt} (h : n ≤ 7) : (rg n s).1.toNat < 256 ^ n := by
  by_cases hh : s.1.length < n
  · rw [rg_no hh]; exact Nat.pow_pos (by decide)
  · rw [rg_yes (by omega)]
    have := vB_lt (s.1.take n) (by rw [List.length_take]; omega)
    rw [List.length_take, Nat.min_eq_left (by omega)] at this; exact this
theorem rg_len {n : Nat} {s : RSt} : (rg n s).2.1.length ≤ s.1.length := by
  by_cases hh : s.1.length < n
  · rw [rg_no hh]; simp
  · rw [rg_yes (by omega)]; simp
/-- once it was too short, it stays so -/
def Shr (s : RSt) : Prop := s.2 = true
theorem rg_shr {n : Nat} {s : RSt} (h : Shr s) : Shr (rg n s).2 := by
  by_cases hh : s.1.length < n
  · rw [rg_no hh]; rfl
  · rw [rg_yes (by omega)]; exact h
theorem rg_short {n : Nat} {s : RSt} (h : s.1.length < n) : Shr (rg n s).2 := by rw [rg_no h]; rfl
abbrev Stp := BitVec 64 × Int × Int
def stP : Nat → RSt → List Stp × RSt
  | 0, s => ([], s)
  | k + 1, s => let r := stP k s; let w := rg 8 r.2; let f := rg 1 w.2; let u := rg 1 f.2; (r.1 ++ [(w.1, (f.1.toNat : Int) - 1, (u.1.toNat : Int))], u.2)
def sP : Nat → RSt → List Int × RSt
  | 0, s => ([], s)
  | k + 1, s => let r := sP k s; let w := rg 1 r.2; (r.1 ++ [(w.1.toNat : Int)], w.2)
def ruP (s : RSt) : Rul × RSt := let kd := rg 1 s; let kk := rg 4 kd.2; let c := rg 1 kk.2; let t := sP c.1.toNat c.2; (((kd.1.toNat : Int), (kk.1.toNat : Int), t.1, ()), t.2)
def rusP : Nat → RSt → List Rul × RSt
  | 0, s => ([], s)
  | k + 1, s => let r := rusP k s; let w := ruP r.2; (r.1 ++ [w.1], w.2)
theorem stP_len (k : Nat) (s : RSt) : (stP k s).1.length = k := by
  induction k with
  | zero => rfl
  | succ k ih => simp [stP, ih]
theorem sP_len (k : Nat) (s : RSt) : (sP k s).1.length = k := by
  induction k with
  | zero => rfl
  | succ k ih => simp [sP, ih]
theorem rusP_len (k : Nat) (s : RSt) : (rusP k s).1.length = k := by
  induction k with
  | zero => rfl
  | succ k ih => simp [rusP, ih]
theorem stP_shr {s : RSt} (h : Shr s) (k : Nat) : Shr (stP k s).2 := by
  induction k with
  | zero => exact h
  | succ k ih => exact rg_shr (rg_shr (rg_shr ih))
theorem sP_shr {s : RSt} (h : Shr s) (k : Nat) : Shr (sP k s).2 := by
  induction k with
  | zero => exact h
  | succ k ih => exact rg_shr ih
theorem ruP_shr {s : RSt} (h : Shr s) : Shr (ruP s).2 := sP_shr (rg_shr (rg_shr (rg_shr h))) _
theorem rusP_shr {s : RSt} (h : Shr s) (k : Nat) : Shr (rusP k s).2 := by
  induction k with
  | zero => exact h
  | succ k ih => exact ruP_shr ih
theorem stP_mono {s : RSt} {i n : Nat} (h : i ≤ n) (hs : Shr (stP i s).2) : Shr (stP n s).2 := by
  induction n with
  | zero => obtain rfl : i = 0 := by omega
            exact hs
  | succ n ih =>
    by_cases e : i = n + 1
    · subst e; exact hs
    · exact rg_shr (rg_shr (rg_shr (ih (by omega))))
theorem sP_mono {s : RSt} {i n : Nat} (h : i ≤ n) (hs : Shr (sP i s).2) : Shr (sP n s).2 := by
  induction n with
  | zero => obtain rfl : i = 0 := by omega
            exact hs
  | succ n ih =>
    by_cases e : i = n + 1
    · subst e; exact hs
    · exact rg_shr (ih (by omega))
theorem rusP_mono {s : RSt} {i n : Nat} (h : i ≤ n) (hs : Shr (rusP i s).2) : Shr (rusP n s).2 := by
  induction n with
  | zero => obtain rfl : i = 0 := by omega
            exact hs
  | succ n ih =>
    by_cases e : i = n + 1
    · subst e; exact hs
    · exact ruP_shr (ih (by omega))
/-- a rule's steps never bring more than there was -/
theorem sP_rules (k : Nat) (s : RSt) : ∀ x, x ∈ (sP k s).1 → 0 ≤ x ∧ x < 256 := by
  induction k with
  | zero => intro x hx; cases hx
  | succ k ih =>
    intro x hx
    simp only [sP, List.mem_append, List.mem_singleton] at hx
    rcases hx with hx | rfl
    · exact ih x hx
    · have := rg_lt (n := 1) (s := (sP k s).2) (by decide); omega
theorem rusP_steps (k : Nat) (s : RSt) : ∀ r, r ∈ (rusP k s).1 → r.steps.length ≤ 255 := by
  induction k with
  | zero => intro x hx; cases hx
  | succ k ih =>
    intro x hx
    simp only [rusP, List.mem_append, List.mem_singleton] at hx
    rcases hx with hx | rfl
    · exact ih x hx
    · show (ruP _).1.steps.length ≤ 255
      simp only [ruP, Rul.steps, sP_len]
      have := rg_lt (n := 1) (s := (rg 4 (rg 1 (rusP k s).2).2).2) (by decide); omega
/-! ### all of it -/
structure Hd where
  head : BitVec 64
  users : Int
  n : Nat
  st : RSt
def hdP (raw : List UInt8) : Hd := let a := rg 1 (raw, false); let b := rg 1 a.2; let u := rg 1 b.2; let n := rg 1 u.2; ⟨a.1 <<< 8 ||| b.1, (u.1.toNat : Int), n.1.toNat, n.2⟩
def stA (raw : List UInt8) : List Stp × RSt := stP (hdP raw).n (hdP raw).st
def mA (raw : List UInt8) : BitVec 64 × RSt := rg 1 (stA raw).2
def ruA (raw : List UInt8) : List Rul × RSt := rusP (mA raw).1.toNat (mA raw).2
def badA (raw : List UInt8) : Bool := (ruA raw).2.2 || (decide (0 < (ruA raw).2.1.length) || decide ((hdP raw).head ≠ 20547#64))
def pA (raw : List UInt8) : Pb := ((hdP raw).users, (stA raw).1.map (·.1), (stA raw).1.map (·.2.1), (ruA raw).1, ())
def uA (raw : List UInt8) : List Int := (stA raw).1.map (·.2.2)
def zPb : Pb := (0, [], [], [], ())
def rdE (raw : List UInt8) : Int := if badA raw = true ∨ ¬ pck (pA raw) = 0 then 3 else if flw (pA raw) (uA raw) = [] then 0 else 52
def rdPb (raw : List UInt8) : Pb := if rdE raw = 0 then pA raw else zPb
def rdU (raw : List UInt8) : List Int := if rdE raw = 0 then uA raw else []
theorem rdE_3 {raw : List UInt8} (h : badA raw = true ∨ ¬ pck (pA raw) = 0) : rdE raw = 3 := if_pos h
theorem rdE_52 {raw : List UInt8} (h : badA raw = false) (h2 : pck (pA raw) = 0) (h3 : ¬ flw (pA raw) (uA raw) = []) : rdE raw = 52 := by unfold rdE; rw [if_neg (by rw [h]; simpa using h2), if_neg h3]
theorem rdE_0 {raw : List UInt8} (h : badA raw = false) (h2 : pck (pA raw) = 0) (h3 : flw (pA raw) (uA raw) = []) : rdE raw = 0 := by unfold rdE; rw [if_neg (by rw [h]; simpa using h2), if_pos h3]
theorem hdP_lt (raw : List UInt8) : (0 ≤ (hdP raw).users ∧ (hdP raw).users < 256) ∧ (hdP raw).n < 256 := by
  have h1 := rg_lt (n := 1) (s := (rg 1 (rg 1 (raw, false)).2).2) (by decide)
  have h2 := rg_lt (n := 1) (s := (rg 1 (rg 1 (rg 1 (raw, false)).2).2).2) (by decide)
  simp only [hdP]; omega
theorem mA_lt (raw : List UInt8) : (mA raw).1.toNat < 256 := rg_lt (n := 1) (by decide)
theorem pA_lens (raw : List UInt8) : (pA raw).who.length ≤ 255 ∧ (pA raw).fixed.length ≤ 255 ∧ (pA raw).rules.length ≤ 255 ∧ (uA raw).length ≤ 255 := by
  have h1 := hdP_lt raw; have h2 := mA_lt raw
  simp only [pA, uA, Pb.who, Pb.fixed, Pb.rules, List.length_map, stA, stP_len, ruA, rusP_len]
  omega
/-! what these come to, for use behind here -/
theorem stP_0 (s : RSt) : stP 0 s = ([], s) := rfl
theorem sP_0 (s : RSt) : sP 0 s = ([], s) := rfl
theorem rusP_0 (s : RSt) : rusP 0 s = ([], s) := rfl
theorem stP_s (k : Nat) (s : RSt) : (stP (k + 1) s).2 = (rg 1 (rg 1 (rg 8 (stP k s).2).2).2).2 := rfl
theorem sP_s (k : Nat) (s : RSt) : (sP (k + 1) s).2 = (rg 1 (sP k s).2).2 := rfl
theorem sP_s1 (k : Nat) (s : RSt) : (sP (k + 1) s).1 = (sP k s).1 ++ [((rg 1 (sP k s).2).1.toNat : Int)] := rfl
theorem rusP_s (k : Nat) (s : RSt) : (rusP (k + 1) s).2 = (ruP (rusP k s).2).2 := rfl
theorem rusP_s1 (k : Nat) (s : RSt) : (rusP (k + 1) s).1 = (rusP k s).1 ++ [(ruP (rusP k s).2).1] := rfl
theorem stP_1 {k : Nat} {s : RSt} : (stP (k + 1) s).1.map (fun x : Stp => x.1) = (stP k s).1.map (fun x : Stp => x.1) ++ [(rg 8 (stP k s).2).1] := by simp [stP]
theorem stP_2 {k : Nat} {s : RSt} : (stP (k + 1) s).1.map (fun x : Stp => x.2.1) = (stP k s).1.map (fun x : Stp => x.2.1) ++ [((rg 1 (rg 8 (stP k s).2).2).1.toNat : Int) - 1] := by simp [stP]
theorem stP_3 {k : Nat} {s : RSt} : (stP (k + 1) s).1.map (fun x : Stp => x.2.2) = (stP k s).1.map (fun x : Stp => x.2.2) ++ [((rg 1 (rg 1 (rg 8 (stP k s).2).2).2).1.toNat : Int)] := by simp [stP]
theorem ruP_2 (s : RSt) : (ruP s).2 = (sP (rg 1 (rg 4 (rg 1 s).2).2).1.toNat (rg 1 (rg 4 (rg 1 s).2).2).2).2 := rfl
theorem ruP_1 (s : RSt) : (ruP s).1 = (((rg 1 s).1.toNat : Int), ((rg 4 (rg 1 s).2).1.toNat : Int), (sP (rg 1 (rg 4 (rg 1 s).2).2).1.toNat (rg 1 (rg 4 (rg 1 s).2).2).2).1, ()) := rfl
theorem rg_l {n : Nat} {s : RSt} (h : s.1.length ≤ 1000000) : (rg n s).2.1.length ≤ 1000000 := Nat.le_trans rg_len h
theorem sP_l {s : RSt} (h : s.1.length ≤ 1000000) (k : Nat) : (sP k s).2.1.length ≤ 1000000 := by
  induction k with
  | zero => exact h
  | succ k ih => exact rg_l ih
theorem ruP_l {s : RSt} (h : s.1.length ≤ 1000000) : (ruP s).2.1.length ≤ 1000000 := sP_l (rg_l (rg_l (rg_l h))) _
theorem stP_l {s : RSt} (h : s.1.length ≤ 1000000) (k : Nat) : (stP k s).2.1.length ≤ 1000000 := by
  induction k with
  | zero => exact h
  | succ k ih => exact rg_l (rg_l (rg_l ih))
theorem rusP_l {s : RSt} (h : s.1.length ≤ 1000000) (k : Nat) : (rusP k s).2.1.length ≤ 1000000 := by
  induction k with
  | zero => exact h
  | succ k ih => exact ruP_l ih
theorem rg1_lt (s : RSt) : (rg 1 s).1.toNat < 256 := rg_lt (n := 1) (by decide)
theorem rg4_lt (s : RSt) : (rg 4 s).1.toNat < 4294967296 := rg_lt (n := 4) (by decide)
theorem bad1 {raw : List UInt8} (h : (rusP (mA raw).1.toNat (mA raw).2).2.2 = true) : badA raw = true := by
  unfold badA
  rw [show ruA raw = rusP (mA raw).1.toNat (mA raw).2 from rfl, h]; rfl
theorem bad2 {raw : List UInt8} (h : 0 < ((rusP (mA raw).1.toNat (mA raw).2).2.1.length : Int)) : badA raw = true := by
  unfold badA
  rw [show ruA raw = rusP (mA raw).1.toNat (mA raw).2 from rfl, decide_eq_true (by omega)]; simp
theorem bad3 {raw : List UInt8} (h : ¬ (rg 1 (raw, false)).1 <<< 8 ||| (rg 1 (rg 1 (raw, false)).2).1 = 20547#64) : badA raw = true := by
  unfold badA
  rw [show (hdP raw).head = (rg 1 (raw, false)).1 <<< 8 ||| (rg 1 (rg 1 (raw, false)).2).1 from rfl, decide_eq_true h]; simp
theorem bad0 {raw : List UInt8} (h1 : (rusP (mA raw).1.toNat (mA raw).2).2.2 = false) (h2 : ¬ 0 < ((rusP (mA raw).1.toNat (mA raw).2).2.1.length : Int)) (h3 : (rg 1 (raw, false)).1 <<< 8 ||| (rg 1 (rg 1 (raw, false)).2).1 = 20547#64) : badA raw = false := by
  unfold badA
  rw [show ruA raw = rusP (mA raw).1.toNat (mA raw).2 from rfl, h1, decide_eq_false (by omega), show (hdP raw).head = (rg 1 (raw, false)).1 <<< 8 ||| (rg 1 (rg 1 (raw, false)).2).1 from rfl, decide_eq_false (fun e => e h3)]; rfl
theorem pA_who (raw : List UInt8) : (pA raw).who = (stP (hdP raw).n (hdP raw).st).1.map (fun x : Stp => x.1) := rfl
theorem pA_fixed (raw : List UInt8) : (pA raw).fixed = (stP (hdP raw).n (hdP raw).st).1.map (fun x : Stp => x.2.1) := rfl
theorem uA_eq (raw : List UInt8) : uA raw = (stP (hdP raw).n (hdP raw).st).1.map (fun x : Stp => x.2.2) := rfl
theorem pA_eq (raw : List UInt8) : pA raw = ((hdP raw).users, (pA raw).who, (pA raw).fixed, (rusP (mA raw).1.toNat (mA raw).2).1, ()) := by
  have e : rusP (mA raw).1.toNat (mA raw).2 = ruA raw := rfl
  rw [e]; rfl
theorem ruA_eq (raw : List UInt8) : ruA raw = rusP (mA raw).1.toNat (mA raw).2 := rfl
theorem mA_eq (raw : List UInt8) : mA raw = rg 1 (stA raw).2 := rfl
theorem stA_eq (raw : List UInt8) : stA raw = stP (hdP raw).n (hdP raw).st := rfl
theorem ruA_shr {raw : List UInt8} (h : Shr (mA raw).2) : Shr (ruA raw).2 := by rw [ruA_eq]; exact rusP_shr h _
theorem mA_shr {raw : List UInt8} (h : Shr (stA raw).2) : Shr (mA raw).2 := by rw [mA_eq]; exact rg_shr h
theorem hd_n (raw : List UInt8) : (rg 1 (rg 1 (rg 1 (rg 1 (raw, false)).2).2).2).1.toNat = (hdP raw).n := rfl
theorem hd_st (raw : List UInt8) : (rg 1 (rg 1 (rg 1 (rg 1 (raw, false)).2).2).2).2 = (hdP raw).st := rfl
theorem hd_u (raw : List UInt8) : ((rg 1 (rg 1 (rg 1 (raw, false)).2).2).1.toNat : Int) = (hdP raw).users := rfl
theorem m_n (raw : List UInt8) : rg 1 (stP (hdP raw).n (hdP raw).st).2 = mA raw := rfl
theorem hd_l {raw : List UInt8} (h : raw.length ≤ 1000000) : (hdP raw).st.1.length ≤ 1000000 := rg_l (rg_l (rg_l (rg_l (s := (raw, false)) h)))
attribute [irreducible] rg sP stP ruP rusP hdP stA mA ruA pA uA
theorem pA_steps (raw : List UInt8) : ∀ r, r ∈ (pA raw).rules → r.steps.length ≤ 255 := by
  rw [pA_eq]
  exact rusP_steps (mA raw).1.toNat (mA raw).2
end Go.V

set_option autoImplicit false
set_option linter.unusedVariables false
set_option linter.unusedSimpArgs false
namespace Go.V
open Go Go.RowKit
theorem vB_1 (c : UInt8) : vB [c] = BitVec.ofNat 64 c.toNat := by simp [vB]
theorem vB_1n (c : UInt8) : (vB [c]).toNat = c.toNat := by
  have := byte_lt c
  rw [vB_1, BitVec.toNat_ofNat, Nat.mod_eq_of_lt (by omega)]
theorem take_1 {b : List UInt8} (h : 1 ≤ b.length) : b.take 1 = [b.getD 0 0] := by
  cases b with
  | nil => simp at h
  | cons x b => simp
theorem rg_1 {b : List UInt8} {f : Bool} (h : 1 ≤ b.length) : rg 1 (b, f) = (BitVec.ofNat 64 (b.getD 0 0).toNat, (b.drop 1, f)) := by
  rw [rg_yes (s := (b, f)) h]; show (vB (b.take 1), _) = _; rw [take_1 h, vB_1]
theorem byteW (c : UInt8) : (BitVec.ofNat 64 c.toNat).toNat = c.toNat := by
  have := byte_lt c
  rw [BitVec.toNat_ofNat, Nat.mod_eq_of_lt (by omega)]
theorem getD_drop {b : List UInt8} {n i : Nat} : (b.drop n).getD i 0 = b.getD (n + i) 0 := by simp [List.getD_eq_getElem?_getD]
abbrev nB (x : UInt8) : Int := (x.toNat : Int)
theorem sP_yes {b : List UInt8} : ∀ {c : Nat}, c ≤ b.length → sP c (b, false) = ((b.take c).map nB, (b.drop c, false))
  | 0, _ => by simp [sP]
  | c + 1, h => by
    have ih := sP_yes (b := b) (c := c) (by omega)
    simp only [sP, ih]
    rw [rg_1 (by rw [List.length_drop]; omega), getD_drop, Nat.add_zero, List.drop_drop, byteW]
    rw [take_at (d := 0) (l := b) (by omega), List.map_append]; rfl
theorem sP_no {b : List UInt8} {f : Bool} {c : Nat} (h : b.length < c) : Shr (sP c (b, f)).2 := by
  have key : ∀ c s, c ≤ s.1.length ∨ Shr (sP c s).2 := by
    intro c s
    by_cases hs : Shr s
    · exact .inr (sP_shr hs c)
    · obtain ⟨b, f⟩ := s
      have hf : f = false := by
        cases f with
        | false => rfl
        | true => exact absurd rfl hs
      subst hf
      by_cases hc : c ≤ b.length
      · exact .inl hc
      · right
        have h1 := sP_yes (b := b) (c := b.length) (Nat.le_refl _)
        have h2 : Shr (sP (b.length + 1) (b, false)).2 := by
          simp only [sP, h1]
          refine rg_short ?_
          simp
        exact sP_mono (by omega) h2
  rcases key c (b, f) with h1 | h1
  · simp only at h1; omega
  · exact h1
theorem ruP_yes {b : List UInt8} (h : 6 ≤ b.length) (h2 : 6 + (b.getD 5 0).toNat ≤ b.length) :
    ruP (b, false) = ((nB (b.getD 0 0), ((vB ((b.drop 1).take 4)).toNat : Int), ((b.drop 6).take (b.getD 5 0).toNat).map nB, ()), (b.drop (6 + (b.getD 5 0).toNat), false)) := by
  unfold ruP
  rw [rg_1 (by omega)]
  simp only
  rw [rg_yes (s := (b.drop 1, false)) (by rw [List.length_drop]; omega)]
  simp only [List.drop_drop]
  rw [rg_1 (b := b.drop (1 + 4)) (by rw [List.length_drop]; omega), getD_drop]
  simp only [List.drop_drop, byteW, Nat.reduceAdd]
  rw [sP_yes (by rw [List.length_drop]; omega), List.drop_drop]
theorem ruP_no {b : List UInt8} (h : b.length < 6 ∨ b.length < 6 + (b.getD 5 0).toNat) : Shr (ruP (b, false)).2 := by
  unfold ruP
  by_cases h1 : b.length < 1
  · exact sP_shr (rg_shr (rg_shr (rg_short h1))) _
  · rw [rg_1 (by omega)]
    simp only
    by_cases h2 : b.length < 5
    · exact sP_shr (rg_shr (rg_short (by show (b.drop 1).length < 4; rw [List.length_drop]; omega))) _
    · rw [rg_yes (s := (b.drop 1, false)) (by rw [List.length_drop]; omega)]
      simp only [List.drop_drop]
      by_cases h3 : b.length < 6
      · exact sP_shr (rg_short (by show (b.drop (1 + 4)).length < 1; rw [List.length_drop]; omega)) _
      · rw [rg_1 (b := b.drop (1 + 4)) (by rw [List.length_drop]; omega), getD_drop]
        simp only [List.drop_drop, byteW, Nat.reduceAdd]
        exact sP_no (by rw [List.length_drop]; omega)
theorem stP_yes {k : Nat} {s : RSt} {b : List UInt8} {L : List Stp} (h : stP k s = (L, (b, false))) (hb : 10 ≤ b.length) :
    stP (k + 1) s = (L ++ [(vB (b.take 8), nB (b.getD 8 0) - 1, nB (b.getD 9 0))], (b.drop 10, false)) := by
  simp only [stP, h]
  rw [rg_yes (s := (b, false)) (by show 8 ≤ b.length; omega)]
  simp only
  rw [rg_1 (b := b.drop 8) (by rw [List.length_drop]; omega)]
  simp only [List.drop_drop]
  rw [rg_1 (b := b.drop (8 + 1)) (by rw [List.length_drop]; omega)]
  simp only [List.drop_drop, getD_drop, byteW, Nat.reduceAdd]
theorem stP_no {k : Nat} {s : RSt} {b : List UInt8} {L : List Stp} (h : stP k s = (L, (b, false))) (hb : b.length < 10) : Shr (stP (k + 1) s).2 := by
  simp only [stP, h]
  by_cases h1 : b.length < 8
  · exact rg_shr (rg_shr (rg_short h1))
  · rw [rg_yes (s := (b, false)) (by show 8 ≤ b.length; omega)]
    simp only
    by_cases h2 : b.length < 9
    · exact rg_shr (rg_short (by show (b.drop 8).length < 1; rw [List.length_drop]; omega))
    · rw [rg_1 (b := b.drop 8) (by rw [List.length_drop]; omega)]
      simp only [List.drop_drop]
      exact rg_short (by show (b.drop (8 + 1)).length < 1; rw [List.length_drop]; omega)
theorem rusP_yes {k : Nat} {s : RSt} {b : List UInt8} {L : List Rul} (h : rusP k s = (L, (b, false))) (h1 : 6 ≤ b.length) (h2 : 6 + (b.getD 5 0).toNat ≤ b.length) :
    rusP (k + 1) s = (L ++ [(nB (b.getD 0 0), ((vB ((b.drop 1).take 4)).toNat : Int), ((b.drop 6).take (b.getD 5 0).toNat).map nB, ())], (b.drop (6 + (b.getD 5 0).toNat), false)) := by
  simp only [rusP, h]; rw [ruP_yes h1 h2]
theorem rusP_no {k : Nat} {s : RSt} {b : List UInt8} {L : List Rul} (h : rusP k s = (L, (b, false))) (h1 : b.length < 6 ∨ b.length < 6 + (b.getD 5 0).toNat) : Shr (rusP (k + 1) s).2 := by
  simp only [rusP, h]; exact ruP_no h1
/-- the rules of bytes, and are they just that -/
def rok (n : Nat) (b : List UInt8) : Bool := !(rusP n (b, false)).2.2 && decide ((rusP n (b, false)).2.1.length = 0)
def rfL (n : Nat) (b : List UInt8) : List Rul := if (rusP n (b, false)).2.2 = true then [] else (rusP n (b, false)).1
theorem rok_no {n i : Nat} {b : List UInt8} (h : i ≤ n) (hs : Shr (rusP i (b, false)).2) : rok n b = false ∧ rfL n b = [] := by
  have h1 : (rusP n (b, false)).2.2 = true := rusP_mono h hs
  unfold rok rfL
  rw [h1]; exact ⟨rfl, rfl⟩
theorem rok_end {n : Nat} {b c : List UInt8} {L : List Rul} (h : rusP n (b, false) = (L, (c, false))) : rok n b = decide (c.length = 0) ∧ rfL n b = L := by
  unfold rok rfL; rw [h]; exact ⟨rfl, rfl⟩
theorem rfL_ok {n : Nat} {b : List UInt8} (h : rok n b = true) : rfL n b = (rusP n (b, false)).1 ∧ (rusP n (b, false)).2 = ([], false) := by
  unfold rok at h
  rw [Bool.and_eq_true, decide_eq_true_eq, Bool.not_eq_true'] at h
  unfold rfL
  rw [if_neg (by rw [h.1]; decide)]
  exact ⟨rfl, Prod.ext (List.eq_nil_of_length_eq_zero h.2) h.1⟩
theorem rfL_len (n : Nat) (b : List UInt8) : (rfL n b).length ≤ n := by
  unfold rfL
  split
  · simp
  · rw [rusP_len]; exact Nat.le_refl _
theorem rfL_steps (n : Nat) (b : List UInt8) : ∀ r, r ∈ rfL n b → r.steps.length ≤ 255 := by
  unfold rfL
  split
  · intro r hr; cases hr
  · exact rusP_steps _ _
/-! ### the head -/
theorem head_iff {x y : UInt8} : BitVec.ofNat 64 x.toNat <<< 8 ||| BitVec.ofNat 64 y.toNat = 20547#64 ↔ x = 80 ∧ y = 67 := by
  rw [or_add, ← BitVec.toNat_inj, BitVec.toNat_add, BitVec.toNat_mul, byteW, byteW]
  have h1 := byte_lt x; have h2 := byte_lt y
  simp only [BitVec.toNat_ofNat]
  rw [Nat.mod_eq_of_lt (show 256 < 2 ^ 64 by decide), Nat.mod_eq_of_lt (show 256 * x.toNat < 2 ^ 64 by omega), Nat.mod_eq_of_lt (show 256 * x.toNat + y.toNat < 2 ^ 64 by omega), Nat.mod_eq_of_lt (show 20547 < 2 ^ 64 by decide)]
  constructor
  · intro h; exact ⟨UInt8.toNat_inj.1 (by show x.toNat = 80; omega), UInt8.toNat_inj.1 (by show y.toNat = 67; omega)⟩
  · rintro ⟨rfl, rfl⟩; rfl
theorem hdP_4 {raw : List UInt8} (h : 4 ≤ raw.length) : hdP raw = ⟨BitVec.ofNat 64 (raw.getD 0 0).toNat <<< 8 ||| BitVec.ofNat 64 (raw.getD 1 0).toNat, nB (raw.getD 2 0), (raw.getD 3 0).toNat, (raw.drop 4, false)⟩ := by
  unfold hdP
  rw [rg_1 (by omega)]
  simp only
  rw [rg_1 (b := raw.drop 1) (by rw [List.length_drop]; omega)]
  simp only [List.drop_drop]
  rw [rg_1 (b := raw.drop (1 + 1)) (by rw [List.length_drop]; omega)]
  simp only [List.drop_drop]
  rw [rg_1 (b := raw.drop (1 + 1 + 1)) (by rw [List.length_drop]; omega)]
  simp only [List.drop_drop, getD_drop, byteW, Nat.reduceAdd]
theorem badA_shr {raw : List UInt8} (h : Shr (ruA raw).2) : badA raw = true := by
  unfold badA; rw [show (ruA raw).2.2 = true from h, Bool.true_or]
theorem bad_st {raw : List UInt8} {i : Nat} (h : i ≤ (hdP raw).n) (hs : Shr (stP i (hdP raw).st).2) : badA raw = true :=
  badA_shr (ruA_shr (mA_shr (by rw [stA_eq]; exact stP_mono h hs)))
theorem bad_5 {raw : List UInt8} (h : raw.length < 5) : badA raw = true := by
  by_cases h4 : raw.length < 4
  · have hst : Shr (hdP raw).st := by
      unfold hdP
      show Shr (rg 1 (rg 1 (rg 1 (rg 1 (raw, false)).2).2).2).2
      by_cases h1 : raw.length < 1
      · exact rg_shr (rg_shr (rg_shr (rg_short h1)))
      · rw [rg_1 (b := raw) (by omega)]
        by_cases h2 : raw.length < 2
        · exact rg_shr (rg_shr (rg_short (by show (raw.drop 1).length < 1; rw [List.length_drop]; omega)))
        · simp only
          rw [rg_1 (b := raw.drop 1) (by rw [List.length_drop]; omega)]
          simp only [List.drop_drop]
          by_cases h3 : raw.length < 3
          · exact rg_shr (rg_short (by show (raw.drop (1 + 1)).length < 1; rw [List.length_drop]; omega))
          · rw [rg_1 (b := raw.drop (1 + 1)) (by rw [List.length_drop]; omega)]
            simp only [List.drop_drop]
            exact rg_short (by show (raw.drop (1 + 1 + 1)).length < 1; rw [List.length_drop]; omega)
    exact badA_shr (ruA_shr (mA_shr (by rw [stA_eq]; exact stP_shr hst _)))
  · have h4 : raw.length = 4 := by omega
    have hh := hdP_4 (raw := raw) (by omega)
    have hst : (hdP raw).st = ([], false) := by rw [hh]; show (raw.drop 4, false) = _; rw [List.drop_of_length_le (by omega)]
    by_cases hn : (hdP raw).n = 0
    · refine badA_shr (ruA_shr ?_)
      rw [mA_eq, stA_eq, hn, hst, stP_0]
      exact rg_short (by simp)
    · exact bad_st (i := 1) (by omega) (stP_no (k := 0) (s := (hdP raw).st) (L := []) (b := []) (by rw [hst, stP_0]) (by simp))
theorem bad_head {raw : List UInt8} (h : 4 ≤ raw.length) (h2 : ¬ (raw.getD 0 0 = 80 ∧ raw.getD 1 0 = 67)) : badA raw = true := by
  have hd : decide ((hdP raw).head ≠ 20547#64) = true := decide_eq_true (fun e => h2 (by rw [hdP_4 h] at e; exact head_iff.1 e))
  unfold badA
  rw [hd]; simp
theorem bad_m {raw : List UInt8} (h : (stA raw).2.1.length < 1) : badA raw = true := badA_shr (ruA_shr (by rw [mA_eq]; exact rg_short h))
/-- where the head and the steps are there, all hangs on the rules -/
theorem bad_iff {raw : List UInt8} {L : List Stp} {b : List UInt8} (h : 4 ≤ raw.length) (h2 : raw.getD 0 0 = 80 ∧ raw.getD 1 0 = 67) (hst : stA raw = (L, (b, false))) (hb : 1 ≤ b.length) :
    badA raw = !rok (b.getD 0 0).toNat (b.drop 1) ∧ ruA raw = rusP (b.getD 0 0).toNat (b.drop 1, false) := by
  have hm : mA raw = (BitVec.ofNat 64 (b.getD 0 0).toNat, (b.drop 1, false)) := by rw [mA_eq, hst]; exact rg_1 hb
  have hru : ruA raw = rusP (b.getD 0 0).toNat (b.drop 1, false) := by rw [ruA_eq, hm]; simp only [byteW]
  refine ⟨?_, hru⟩
  have hd : decide ((hdP raw).head ≠ 20547#64) = false := decide_eq_false (fun e => e (by rw [hdP_4 h]; exact head_iff.2 h2))
  unfold badA rok
  rw [hru, hd]
  cases hs : (rusP (b.getD 0 0).toNat (b.drop 1, false)).2.2
  · simp only [Bool.false_or, Bool.or_false, Bool.not_false, Bool.true_and]
    have e : ∀ m : Nat, decide (0 < m) = !decide (m = 0) := fun m => by cases m <;> simp
    exact e _
  · simp
end Go.V

set_option autoImplicit false
set_option linter.unusedVariables false
set_option linter.unusedSimpArgs false
set_option maxHeartbeats 4000000
set_option maxRecDepth 100000
namespace Go.Proofs.Ytbngdhlmggdaaaa.VT
open Go Go.V Go.RowKit

abbrev uS13n25 {a0 a1 a2 a3 a4 a5 a6 a7 a8 a9 a10 a11 a12 a13 a14 a15 a16 a17 a18 a19 a20 a21 a22 a23 a24 : VVal} : VEnv := a0 :: a1 :: a2 :: a3 :: a4 :: a5 :: a6 :: a7 :: a8 :: a9 :: a10 :: a11 :: a12 :: a13 :: a14 :: a15 :: a16 :: a17 :: a18 :: a19 :: a20 :: a21 :: a22 :: a23 :: a24 :: []
abbrev uS13n48 {a0 a1 a2 a3 a4 a5 a6 a7 a8 a9 a10 a11 a12 a13 a14 a15 a16 a17 a18 a19 a20 a21 a22 a23 a24 a25 a26 a27 a28 a29 a30 a31 a32 a33 a34 a35 a36 a37 a38 a39 a40 a41 a42 a43 a44 a45 a46 a47 : VVal} : VEnv := a0 :: a1 :: a2 :: a3 :: a4 :: a5 :: a6 :: a7 :: a8 :: a9 :: a10 :: a11 :: a12 :: a13 :: a14 :: a15 :: a16 :: a17 :: a18 :: a19 :: a20 :: a21 :: a22 :: a23 :: a24 :: a25 :: a26 :: a27 :: a28 :: a29 :: a30 :: a31 :: a32 :: a33 :: a34 :: a35 :: a36 :: a37 :: a38 :: a39 :: a40 :: a41 :: a42 :: a43 :: a44 :: a45 :: a46 :: a47 :: []

theorem wS13n0 {T : TypeId → Option VTy} {H : VHeap} {op : Op} {ρ : Operand → VVal} {t : TypeId} {a : Operand} {y : VTy} {p v : VVal} (ho : op = .load t a) (ha : ρ a = p) (hy : T t = some y) (hd : isAggDesc y.desc = false) (h : LdOk H p v := by first | exact .inl ⟨_, _, rfl, by first | rfl | exact fgetN (α := UInt8) 0 (by omega)⟩ | exact .inr ⟨_, _, _, _, rfl, by first | exact get_app rfl rfl | exact get_out (by assumption) | exact getE0 rfl rfl | exact get_out (get_app rfl rfl) | exact get_app rfl (by assumption) | assumption | (simp only [List.append_assoc, List.singleton_append, List.cons_append, List.nil_append]; refine getE (i := 0) rfl ?_ rfl; simp; done) | (simp only [List.append_assoc, List.singleton_append, List.cons_append, List.nil_append]; refine getE (i := 1) rfl ?_ rfl; simp; done) | (simp only [List.append_assoc, List.singleton_append, List.cons_append, List.nil_append]; refine getE (i := 2) rfl ?_ rfl; simp; done) | (simp only [List.append_assoc, List.singleton_append, List.cons_append, List.nil_append]; refine getE (i := 3) rfl ?_ rfl; simp; done) | (simp [*]; done), by first | rfl | exact fgetN (α := UInt8) 0 (by omega)⟩) : vop T ρ H op = some (v, H) := v_ld ho ha hy hd h
theorem wS13n1 {S : V.Sys} {H : VHeap} {fn : Func} {ex : Exit} {env : VEnv} {B L : VHeap} {v : VVal} {R : VVal → VHeap → Prop} (hx : ex = .normal ∨ ex = .ret) (hv : vresults S.C.T env (B ++ L) fn.results = some v) (h : R v B) (hB : BaseOk H B := by first | exact BaseOk.set (BaseOk.refl _) _ (show VBlk.under _ (rdB ([], true)) = true from rdB_under) | exact BaseOk.set (BaseOk.refl _) _ (show VBlk.under _ (rdB (s.1.drop n, s.2)) = true from rdB_under)) (hu : v.under H.length = true := by first | rfl | simp [VVal.under, VVal.underL, *]) : fnK S fn H R ex env (B ++ L) := E_app hx hv hB hu h
theorem wS13n2 {P : Prop} (h : P := by first | exact ⟨by rw [rg_no (by omega)]; rfl, by rw [rg_no (by omega)]⟩ | exact ⟨by rw [rg_yes (by omega), List.take_of_length_le (l := s.1.take n) (by omega)], by rw [rg_yes (by omega)]; rfl⟩) : P := h
theorem wS13n3 {T : TypeId → Option VTy} {H : VHeap} {op : Op} {ρ : Operand → VVal} {t e : TypeId} {x i : Operand} {y z : VTy} {k : IntKind} {n : Int} {p v : VVal} {es : Nat} (ho : op = .indexAddr t x i) (hx : ρ x = p) (hi : ρ i = .int k n) (hy : T t = some y) (hd : y.desc = .slice e) (hz : T e = some z) (hs : z.size = es) (h : IxOk p es n v := by first | exact .inl ⟨_, _, _, rfl, by first | assumption | omega | (simp [*]; done) | (simp at *; omega), rfl⟩ | exact .inr ⟨_, _, _, _, _, rfl, by first | assumption | omega | (simp [*]; done) | (simp at *; omega), rfl⟩) : vop T ρ H op = some (v, H) := v_ix ho hx hi hy hd hz hs h
theorem wS13n4 {T : TypeId → Option VTy} {H : VHeap} {op : Op} {ρ : Operand → VVal} {t ty : TypeId} {x y : Operand} {n m : Int} (ho : op = .binOp .add t x y ty) (hx : ρ x = .int .i64 n) (hy : ρ y = .int .i64 m) (h : -9223372036854775808 ≤ n + m ∧ n + m < 9223372036854775808 := by first | assumption | omega | (simp [*]; done) | (simp at *; omega)) : vop T ρ H op = some (.int .i64 (n + m), H) := v_addI ho hx hy h
theorem wS13n5 {T : TypeId → Option VTy} {H : VHeap} {op : Op} {ρ : VEnv} {H' : VHeap} {t : TypeId} {a : Operand} {i : Nat} {v : VVal} {y : VTy} {b off : Nat} {cs new : List VVal} (ho : op = .store t a (.tmp i)) (hv : ρ[i]? = some v) (ha : ρ.eval a = .ptr (some (b, off))) (hy : T t = some y) (hx : v.cells = some new) (hn : new.length = y.size) (h1 : new.all VVal.one = true) (hb : H[b]? = some (.cells cs true) := by first | exact get_app rfl rfl | exact get_out (by assumption) | exact getE0 rfl rfl | exact get_out (get_app rfl rfl) | exact get_app rfl (by assumption) | assumption | (simp only [List.append_assoc, List.singleton_append, List.cons_append, List.nil_append]; refine getE (i := 0) rfl ?_ rfl; simp; done) | (simp only [List.append_assoc, List.singleton_append, List.cons_append, List.nil_append]; refine getE (i := 1) rfl ?_ rfl; simp; done) | (simp only [List.append_assoc, List.singleton_append, List.cons_append, List.nil_append]; refine getE (i := 2) rfl ?_ rfl; simp; done) | (simp only [List.append_assoc, List.singleton_append, List.cons_append, List.nil_append]; refine getE (i := 3) rfl ?_ rfl; simp; done) | (simp [*]; done)) (hl : off + new.length ≤ cs.length := by first | exact Nat.le_of_ble_eq_true rfl | (simp only [List.length_map, List.length_cons, List.length_nil]; omega) | omega | (simp; done) | (simp; omega)) (hH : H.set b (.cells (splice cs off new) true) = H' := by exact set_out (lt_of_get hq)) : vop T ρ.eval H op = some (.skip, H') := v_storeT ho hv ha hy hx hn h1 hb hl hH
theorem wS13n6 {T : TypeId → Option VTy} {H : VHeap} {op : Op} {ρ : VEnv} {H' : VHeap} {t : TypeId} {a : Operand} {i : Nat} {v : VVal} {y : VTy} {b off : Nat} {cs new : List VVal} (ho : op = .store t a (.tmp i)) (hv : ρ[i]? = some v) (ha : ρ.eval a = .ptr (some (b, off))) (hy : T t = some y) (hx : v.cells = some new) (hn : new.length = y.size) (h1 : new.all VVal.one = true) (hb : H[b]? = some (.cells cs true) := by first | exact getB (by simp only [List.length_set]) rfl | exact get_app (by simp only [List.length_set]) rfl) (hl : off + new.length ≤ cs.length := by first | exact Nat.le_of_ble_eq_true rfl | (simp only [List.length_map, List.length_cons, List.length_nil]; omega) | omega | (simp; done) | (simp; omega)) (hH : H.set b (.cells (splice cs off new) true) = H' := by exact set_app (by simp only [List.length_set])) : vop T ρ.eval H op = some (.skip, H') := v_storeT ho hv ha hy hx hn h1 hb hl hH
theorem wS13n7 {T : TypeId → Option VTy} {H : VHeap} {op : Op} {ρ : Operand → VVal} {t : TypeId} {a : Operand} {y : VTy} {p v : VVal} (ho : op = .load t a) (ha : ρ a = p) (hy : T t = some y) (hd : isAggDesc y.desc = false) (h : LdOk H p v := by first | exact .inl ⟨_, _, rfl, by first | rfl | assumption | exact fget (α := BitVec 64) 0 (by omega) | exact fget (α := Int) 0 (by omega) | exact fget0 (α := BitVec 64) 0 (by omega) | exact fget0 (α := Int) 0 (by omega) | exact fget (α := Bool) false (by omega) | exact fget0 (α := Bool) false (by omega) | (simp [*]; done)⟩ | exact .inr ⟨_, _, _, _, rfl, by first | exact getB (by simp only [List.length_set]) rfl | exact get_app (by simp only [List.length_set]) rfl, by first | rfl | assumption | exact fget (α := BitVec 64) 0 (by omega) | exact fget (α := Int) 0 (by omega) | exact fget0 (α := BitVec 64) 0 (by omega) | exact fget0 (α := Int) 0 (by omega) | exact fget (α := Bool) false (by omega) | exact fget0 (α := Bool) false (by omega) | (simp [*]; done)⟩) : vop T ρ H op = some (v, H) := v_ld ho ha hy hd h
theorem wS13n8 {T : TypeId → Option VTy} {H : VHeap} {op : Op} {ρ : VEnv} {H' : VHeap} {t : TypeId} {a : Operand} {i : Nat} {v : VVal} {y : VTy} {b off : Nat} {cs new : List VVal} (ho : op = .store t a (.tmp i)) (hv : ρ[i]? = some v) (ha : ρ.eval a = .ptr (some (b, off))) (hy : T t = some y) (hx : v.cells = some new) (hn : new.length = y.size) (h1 : new.all VVal.one = true) (hb : H[b]? = some (.cells cs true) := by first | exact getB (by simp only [List.length_set]) rfl | exact get_app (by simp only [List.length_set]) rfl) (hl : off + new.length ≤ cs.length := by first | exact Nat.le_of_ble_eq_true rfl | (simp only [List.length_map, List.length_cons, List.length_nil]; omega) | omega | (simp; done) | (simp; omega)) (hH : H.set b (.cells (splice cs off new) true) = H' := by (refine setB (by simp only [List.length_set]) ?_; simp; done)) : vop T ρ.eval H op = some (.skip, H') := v_storeT ho hv ha hy hx hn h1 hb hl hH
theorem wS13n9 {T : TypeId → Option VTy} {H : VHeap} {op : Op} {ρ : Operand → VVal} {t : TypeId} {a : Operand} {y : VTy} {p : VVal} {n : Nat} {vs : List VVal} (ho : op = .load t a) (ha : ρ a = p) (hy : T t = some y) (hd : isAggDesc y.desc = true) (hn : y.size = n) (h : LdOkA H p n vs := by first | exact .inl ⟨_, _, rfl, by first | rfl | assumption | exact fget (α := BitVec 64) 0 (by omega) | exact fget (α := Int) 0 (by omega) | exact fget0 (α := BitVec 64) 0 (by omega) | exact fget0 (α := Int) 0 (by omega) | exact fget (α := Bool) false (by omega) | exact fget0 (α := Bool) false (by omega) | (simp [*]; done)⟩ | exact .inr ⟨_, _, _, _, rfl, by first | exact getB (by simp only [List.length_set]) rfl | exact get_app (by simp only [List.length_set]) rfl, by first | rfl | assumption | exact fget (α := BitVec 64) 0 (by omega) | exact fget (α := Int) 0 (by omega) | exact fget0 (α := BitVec 64) 0 (by omega) | exact fget0 (α := Int) 0 (by omega) | exact fget (α := Bool) false (by omega) | exact fget0 (α := Bool) false (by omega) | (simp [*]; done)⟩) : vop T ρ H op = some (.agg vs, H) := v_ldA ho ha hy hd hn h
theorem wS13n10 {S : V.Sys} {H : VHeap} {fn : Func} {ex : Exit} {env : VEnv} {B L : VHeap} {v : VVal} {R : VVal → VHeap → Prop} (hx : ex = .normal ∨ ex = .ret) (hv : vresults S.C.T env (B ++ L) fn.results = some v) (h : R v B) (hB : BaseOk H B := by exact BaseOk.set (BaseOk.refl _) _ rdB_under) (hu : v.under H.length = true := by exact rl_under (r := (((rg 1 s).1.toNat : Int), ((rg 4 (rg 1 s).2).1.toNat : Int), (sP (rg 1 (rg 4 (rg 1 s).2).2).1.toNat (rg 1 (rg 4 (rg 1 s).2).2).2).1, ()))) : fnK S fn H R ex env (B ++ L) := E_app hx hv hB hu h

abbrev rdB (s : RSt) : VBlk := .cells [fzB s.1, .bool s.2] true
theorem rdB_under {n : Nat} {s : RSt} : (rdB s).under n = true := by simp [VBlk.under, VVal.underL, VVal.under, fzB_under]
section
variable {T : TypeId → Option VTy} {ρ : Operand → VVal} {H : VHeap} {op : Op} {t ty e : TypeId} {x y : Operand} {k : IntKind}
theorem v_shlN {a : BitVec 64} (m : Nat) (ho : op = .binOp .shl t x y ty) (hx : ρ x = .int .u64 a.toNat) (hy : ρ y = .int k (m : Nat)) (hm : m ≤ 64) : vop T ρ H op = some (iW (a <<< m), H) := by
  rw [ho]
  simp only [vop, vbin, hx, hy, vshift]
  have e1 : IntKind.u64.wrap ((a.toNat : Int) * 2 ^ m) = ((a <<< m).toNat : Int) := by
    have e0 : IntKind.u64.wrap ((a.toNat : Int) * 2 ^ m) = ((a.toNat : Int) * 2 ^ m) % 18446744073709551616 := by simp [IntKind.wrap, IntKind.bits, IntKind.signed]
    have h : (a.toNat : Int) * 2 ^ m = ((a.toNat * 2 ^ m : Nat) : Int) := by rw [Int.natCast_mul, Int.natCast_pow]; rfl
    rw [e0, BitVec.toNat_shiftLeft, Nat.shiftLeft_eq, h]
    generalize a.toNat * 2 ^ m = q
    omega
  rw [if_neg (by omega), Int.toNat_natCast, show min m (IntKind.bits .u64) = m from Nat.min_eq_left hm, e1]
  rfl
theorem v_mulWW {a b : BitVec 64} (ho : op = .binOp .mul t x y ty) (hx : ρ x = .int .u64 a.toNat) (hy : ρ y = .int .u64 b.toNat) : vop T ρ H op = some (iW (a * b), H) := by
  rw [ho]
  have e1 : IntKind.u64.wrap ((a.toNat : Int) * b.toNat) = ((a * b).toNat : Int) := by
    have e0 : IntKind.u64.wrap ((a.toNat : Int) * b.toNat) = ((a.toNat : Int) * b.toNat) % 18446744073709551616 := by simp [IntKind.wrap, IntKind.bits, IntKind.signed]
    have h : (a.toNat : Int) * b.toNat = ((a.toNat * b.toNat : Nat) : Int) := by rw [Int.natCast_mul]
    rw [e0, BitVec.toNat_mul, h]
    generalize a.toNat * b.toNat = q
    omega
  simp only [vop, vbin, hx, hy, vint, if_true, Option.map_some, e1]
theorem v_addU {n m : Int} (ho : op = .binOp .add t x y ty) (hx : ρ x = .int .u64 n) (hy : ρ y = .int .u64 m) (h : 0 ≤ n + m ∧ n + m < 18446744073709551616) : vop T ρ H op = some (.int .u64 (n + m), H) := by
  rw [ho]
  simp only [vop, vbin, hx, hy, vint, if_true, Option.map_some]
  have e1 : IntKind.u64.wrap (n + m) = (n + m) % 18446744073709551616 := by simp [IntKind.wrap, IntKind.bits, IntKind.signed]
  rw [e1, Int.emod_eq_of_lt h.1 h.2]
theorem v_bLH {lo hi : Operand} {yt z : VTy} {l : List UInt8} {a b : Nat} {kd kd2 : IntKind} (ho : op = .slice t x (some lo) (some hi) none) (hy : T t = some yt) (hd : yt.desc = .slice e) (hz : T e = some z) (hs : z.size = 1) (hx : ρ x = fzB l) (hl : ρ lo = .int kd (a : Nat)) (hh : ρ hi = .int kd2 (b : Nat)) (hab : a ≤ b) (hb : b ≤ l.length) : vop T ρ H op = some (fzB ((l.drop a).take (b - a)), H) := by
  rw [ho]
  have hv : vbounds l.length l.length (some (VVal.int kd a)) (some (VVal.int kd2 b)) none = some (a, b, l.length) := vb_lh hab hb
  have hc : cellsAt (l.map iB) (a * 1) ((b - a) * 1) = some (((l.drop a).take (b - a)).map iB) := by
    unfold cellsAt; rw [if_pos (by rw [List.length_map]; omega), List.map_take, List.map_drop, Nat.mul_one, Nat.mul_one]
  simp only [vop, vslice, hy, hd, hx, hz, fzB, Option.map_some, Option.map_none, hs, hl, hh, Option.isSome_none, Bool.false_and]
  rw [hv]
  simp only [if_true]
  rw [hc]
  simp only [Bool.false_eq_true, if_false, Option.map_some]
  congr 1; congr 1
  have hlen : ((l.drop a).take (b - a)).length = b - a := by rw [List.length_take, List.length_drop]; omega
  rw [hlen]
theorem vres_cAtt {env : VEnv} {a t1 t2 : Nat} {rs : Array ResultVar} {tt : TypeId} {y : VTy} {b off : Nat} {cs vs : List VVal} {rw : Bool} {v1 v2 : VVal} (hr : rs = #[.cell a tt, .tmp t1, .tmp t2]) (ha : env.getD a .skip = .ptr (some (b, off))) (hy : T tt = some y) (hd : isAggDesc y.desc = true)
    (hb : H[b]? = some (.cells cs rw)) (hv : cellsAt cs off y.size = some vs) (h1 : env[t1]? = some v1) (h2 : env[t2]? = some v2) : vresults T env H rs = some (.tuple [.agg vs, v1, v2]) := by
  subst hr
  have e0 : vresult T env H (.cell a tt) = some (.agg vs) := by
    show vload T H tt (env.getD a .skip) = some (.agg vs)
    rw [ha]; simp only [vload, hy, vread, hb, hd, if_true, hv, Option.map_some]
  have e1 : vresult T env H (.tmp t1) = some v1 := by
    show some (env.getD t1 .skip) = _
    rw [List.getD_eq_getElem?_getD, h1]; rfl
  have e2 : vresult T env H (.tmp t2) = some v2 := by
    show some (env.getD t2 .skip) = _
    rw [List.getD_eq_getElem?_getD, h2]; rfl
  show (List.mapM (vresult T env H) [.cell a tt, .tmp t1, .tmp t2]).map VVal.tuple = _
  simp [List.mapM_cons, e0, e1, e2]
end

theorem get_spec {x : SW} (H : VHeap) (q : Nat) (s : RSt) (n : Nat) (hq : H[q]? = some (rdB s)) (hs : s.1.length ≤ 1000000) (hn : n ≤ 8) : F (psys x) 39 [.ptr (some (q, 0)), iI (n : Nat)] H fun v G => v = iW (rg n s).1 ∧ G = H.set q (rdB (rg n s).2) := by
 refine F_body Try.func39 rfl uS13n48 rfl ?_
 refine B_seq (B_region ?_)
 refine Lo uS13n48 (v_const (VVal.int .u64 0) (.inr rfl) rfl) ?_
 refine L_nil (K_seq (B_seq (B_seq (B_region ?_))))
 refine Lo uS13n48 (v_move (.inl rfl) rfl) ?_
 refine Lo uS13n48 (rfl) ?_
 refine Lo uS13n48 (rfl) ?_
 refine Lo uS13n48 (wS13n0 rfl rfl rfl rfl) ?_
 refine Lo uS13n48 (rfl) ?_
 refine Lo uS13n48 (v_move (.inl rfl) rfl) ?_
 refine Lo uS13n48 (rfl) ?_
 refine L_nil (K_seq ?_)
 refine B_cond _ rfl (fun hc1 => ?_) (fun hc1 => ?_)
 ·try simp only [qB, qN] at hc1
  refine B_seq (B_region ?_)
  refine Lo uS13n48 (v_move (.inl rfl) rfl) ?_
  refine Lo uS13n48 (v_move (.inl rfl) rfl) ?_
  refine Lo uS13n48 (rfl) ?_
  refine Lo uS13n48 (rfl) ?_
  refine Lo uS13n48 (v_storeC (VVal.slice none 0 0 true 0) rfl rfl rfl rfl rfl rfl rfl (by first | exact get_app rfl rfl | exact get_out (by assumption) | exact getE0 rfl rfl | exact get_out (get_app rfl rfl) | exact get_app rfl (by assumption) | assumption | (simp only [List.append_assoc, List.singleton_append, List.cons_append, List.nil_append]; refine getE (i := 0) rfl ?_ rfl; simp; done) | (simp only [List.append_assoc, List.singleton_append, List.cons_append, List.nil_append]; refine getE (i := 1) rfl ?_ rfl; simp; done) | (simp only [List.append_assoc, List.singleton_append, List.cons_append, List.nil_append]; refine getE (i := 2) rfl ?_ rfl; simp; done) | (simp only [List.append_assoc, List.singleton_append, List.cons_append, List.nil_append]; refine getE (i := 3) rfl ?_ rfl; simp; done) | (simp [*]; done)) (by first | exact Nat.le_of_ble_eq_true rfl | (simp only [List.length_map, List.length_cons, List.length_nil]; omega) | omega | (simp; done) | (simp; omega)) (by exact set_out (lt_of_get hq))) ?_
  refine Lo uS13n48 (rfl) ?_
  refine Lo uS13n48 (rfl) ?_
  refine Lo uS13n48 (v_storeC (VVal.bool true) rfl rfl rfl rfl rfl rfl rfl (by exact get_out (List.getElem?_set_self (lt_of_get hq))) (by first | exact Nat.le_of_ble_eq_true rfl | (simp only [List.length_map, List.length_cons, List.length_nil]; omega) | omega | (simp; done) | (simp; omega)) (by exact (set_out (by rw [List.length_set]; exact lt_of_get hq)).trans (congrArg (· ++ []) (List.set_set _)))) ?_
  refine L_nil (K_seq (B_seq (B_region ?_)))
  refine Lo uS13n48 (v_const (VVal.int .u64 0) (.inr rfl) rfl) ?_
  refine L_nil (K_seq ?_)
  refine B_gh (Gh.cellNil q 0 (es' := 1) (get_out (List.getElem?_set_self (lt_of_get hq))) rfl) ?_
  refine B_heap (H' := H.set q (rdB ([], true)) ++ []) ((set_out (by rw [List.length_set]; exact lt_of_get hq)).trans (congrArg (· ++ []) (List.set_set _))) ?_
  refine B_ret (K_seqR ?_)
  refine wS13n1 (.inr rfl) (vres_tmp rfl rfl) ?_
  exact wS13n2
 ·try simp only [qB, qN] at hc1
  refine B_skip (K_seq (B_seq (B_region ?_)))
  refine Lo uS13n48 (v_const (VVal.int .u64 0) (.inr rfl) rfl) ?_
  refine L_nil (K_seq (B_seq (B_seq (B_region ?_))))
  refine Lo uS13n48 (v_move (.inl rfl) rfl) ?_
  refine Lo uS13n48 (rfl) ?_
  refine Lo uS13n48 (rfl) ?_
  refine Lo uS13n48 (wS13n0 rfl rfl rfl rfl) ?_
  refine Lo uS13n48 (v_move (.inl rfl) rfl) ?_
  refine Lo uS13n48 (v_bHi rfl rfl rfl rfl rfl rfl rfl (by omega)) ?_
  refine Lo uS13n48 (rfl) ?_
  refine Lo uS13n48 (v_const (VVal.int .i64 0) (.inl rfl) rfl) ?_
  refine L_nil (K_seq (B_block ?_))
  refine B_clear (mk 48 281474506948572) (env' := uS13n48) rfl ?_
  have htl : (s.1.take n).length = n := by rw [List.length_take]; omega
  refine B_loopE (fun (k : Nat) => (s.1.take n).length - k) (fun (k : Nat) => [(5, iW (vB ((s.1.take n).take k))), (28, iI (k : Nat))]) (fun (k : Nat) G => (k ≤ (s.1.take n).length) ∧ G = H ++ []) 0 rfl ?_ ?_
  ·refine ⟨?_, rfl⟩
   exact Nat.zero_le _
  rintro k _ ⟨hk, rfl⟩
  refine B_env (env' := uS13n48) rfl ?_
  refine B_seq (B_region ?_)
  refine Lo uS13n48 (rfl) ?_
  refine L_nil (K_seq (B_seq ?_))
  refine B_cond _ rfl (fun hc2 => ?_) (fun hc2 => ?_)
  ·try simp only [qB, qN] at hc2
   refine B_skip (K_seq (B_seq (B_block (B_seq (B_region ?_)))))
   refine Lo uS13n48 (wS13n3 rfl rfl rfl rfl rfl rfl rfl) ?_
   refine Lo uS13n48 (wS13n0 rfl rfl rfl rfl) ?_
   refine Lo uS13n48 (v_move (.inr rfl) rfl) ?_
   refine L_nil (K_seq (B_region ?_))
   refine Lo uS13n48 (v_move (.inl rfl) rfl) ?_
   refine Lo uS13n48 (v_shlN 8 rfl rfl rfl (by decide)) ?_
   refine Lo uS13n48 (v_move (.inl rfl) rfl) ?_
   refine Lo uS13n48 (v_cvBW rfl rfl rfl rfl rfl) ?_
   refine Lo uS13n48 (v_orW rfl rfl rfl) ?_
   refine Lo uS13n48 (v_move (.inr rfl) rfl) ?_
   refine L_nil (K_blk (K_seq (B_region ?_)))
   refine Lo uS13n48 (wS13n4 rfl rfl rfl) ?_
   refine Lo uS13n48 (v_move (.inl rfl) rfl) ?_
   refine L_nil ?_
   refine K_loop (mk 48 281474506948572) (env' := uS13n48) rfl ⟨k + 1, ?_, (by rw [take_at (d := 0) (l := s.1.take n) (by omega), vB_app]; rfl), ?_⟩
   ·first | omega | (simp only []; omega)
   ·exact ⟨by omega, rfl⟩
  ·try simp only [qB, qN] at hc2
   refine B_exit (K_seqX (K_loopX (K_blkX (K_seq (B_seq (B_region ?_))))))
   refine Lo uS13n48 (v_move (.inl rfl) rfl) ?_
   refine Lo uS13n48 (v_move (.inl rfl) rfl) ?_
   refine Lo uS13n48 (rfl) ?_
   refine Lo uS13n48 (rfl) ?_
   refine Lo uS13n48 (wS13n0 rfl rfl rfl rfl) ?_
   refine Lo uS13n48 (v_move (.inl rfl) rfl) ?_
   refine Lo uS13n48 (v_bLo rfl rfl rfl rfl rfl rfl rfl (by omega)) ?_
   refine Lo uS13n48 (rfl) ?_
   refine Lo uS13n48 (rfl) ?_
   refine Lo uS13n48 (wS13n5 rfl rfl rfl rfl rfl rfl rfl) ?_
   refine L_nil (K_seq (B_seq (B_region ?_)))
   refine Lo uS13n48 (v_move (.inl rfl) rfl) ?_
   refine Lo uS13n48 (v_move (.inr rfl) rfl) ?_
   refine L_nil (K_seq (B_ret ?_))
   refine wS13n1 (.inr rfl) (vres_tmp rfl rfl) ?_
   exact wS13n2

theorem get_in {x : SW} (H L : VHeap) (q : Nat) (s : RSt) (n : Nat) (hq : q < H.length) (hs : s.1.length ≤ 1000000) (hn : n ≤ 8) : F (psys x) 39 [.ptr (some (q, 0)), iI (n : Nat)] (H.set q (rdB s) ++ L) fun v G => v = iW (rg n s).1 ∧ G = H.set q (rdB (rg n s).2) ++ L := by
  have := get_spec (x := x) (H.set q (rdB s) ++ L) q s n (get_out (List.getElem?_set_self hq)) hs hn
  rw [set_out (by rw [List.length_set]; exact hq), List.set_set] at this; exact this
theorem get_at {x : SW} (H L X : VHeap) (j : Nat) (s : RSt) (n : Nat) (hj : L[j]? = some (rdB s)) (hs : s.1.length ≤ 1000000) (hn : n ≤ 8) : F (psys x) 39 [.ptr (some (H.length + j, 0)), iI (n : Nat)] ((H ++ L) ++ X) fun v G => v = iW (rg n s).1 ∧ G = (H ++ L.set j (rdB (rg n s).2)) ++ X := by
  have := get_spec (x := x) ((H ++ L) ++ X) (H.length + j) s n (getB rfl hj) hs hn
  rw [setB rfl (lt_of_get hj)] at this; exact this
theorem get_in2 {x : SW} (H L X : VHeap) (q : Nat) (s : RSt) (n : Nat) (hq : q < H.length) (hs : s.1.length ≤ 1000000) (hn : n ≤ 8) : F (psys x) 39 [.ptr (some (q, 0)), iI (n : Nat)] ((H.set q (rdB s) ++ L) ++ X) fun v G => v = iW (rg n s).1 ∧ G = (H.set q (rdB (rg n s).2) ++ L) ++ X := by
  have := get_in (x := x) H (L ++ X) q s n hq hs hn
  rw [← List.append_assoc, ← List.append_assoc] at this; exact this
theorem rl_under {n : Nat} {r : Rul} : VVal.under n (.agg (rlB r)) = true := by simp [VVal.under, VVal.underL, fzI_under]
abbrev xB (a b : Int) (v : VVal) : VBlk := .cells [iI a, iI b, v] true

theorem rdrule_spec {x : SW} (H : VHeap) (q : Nat) (s : RSt) (hq : H[q]? = some (rdB s)) (hs : s.1.length ≤ 1000000) : F (psys x) 40 [.ptr (some (q, 0))] H fun v G => v = .agg (rlB (ruP s).1) ∧ G = H.set q (rdB (ruP s).2) := by
 have hql := lt_of_get hq
 have hb1 := rg1_lt s; have hb2 := rg4_lt (rg 1 s).2; have hb3 := rg1_lt (rg 4 (rg 1 s).2).2
 refine F_body Try.func40 rfl uS13n25 rfl ?_
 refine B_seq (B_region ?_)
 refine Lo uS13n25 (v_alloc rfl rfl) ?_
 refine L_nil (K_seq (B_seq ?_))
 refine B_heap (H' := H.set q (rdB s) ++ [xB 0 0 nilS]) (by rw [← set_keep hq]; rfl) ?_
 refine B_region ?_
 refine Lo uS13n25 (v_move (.inl rfl) rfl) ?_
 refine L_call rfl rfl rfl (by exact get_in _ _ q s 1 hql hs (by decide)) ?_
 rintro _ _ ⟨rfl, rfl⟩
 refine Le uS13n25 ?_
 refine Lo uS13n25 (v_cvI rfl rfl rfl rfl rfl (by omega)) ?_
 refine Lo uS13n25 (v_move (.inl rfl) rfl) ?_
 refine L_call rfl rfl rfl (by exact get_in _ _ q _ 4 hql (rg_l hs) (by decide)) ?_
 rintro _ _ ⟨rfl, rfl⟩
 refine Le uS13n25 ?_
 refine Lo uS13n25 (v_cvI rfl rfl rfl rfl rfl (by omega)) ?_
 refine Lo uS13n25 (rfl) ?_
 refine Lo uS13n25 (v_alloc rfl rfl) ?_
 refine Lo uS13n25 (wS13n6 rfl rfl rfl rfl rfl rfl rfl) ?_
 refine L_nil (K_seq (B_seq (B_seq (B_region ?_))))
 refine Lo uS13n25 (v_move (.inl rfl) rfl) ?_
 refine L_call rfl rfl rfl (by exact get_in _ _ q _ 1 hql (rg_l (rg_l hs)) (by decide)) ?_
 rintro _ _ ⟨rfl, rfl⟩
 refine Le uS13n25 ?_
 refine Lo uS13n25 (v_const (VVal.int .u64 0) (.inl rfl) rfl) ?_
 refine L_nil (K_seq (B_block ?_))
 refine B_clear (mk 25 33542130) (env' := uS13n25) rfl ?_
 refine B_loopE (fun (k : Nat) => (rg 1 (rg 4 (rg 1 s).2).2).1.toNat - k) (fun (k : Nat) => [(13, .int .u64 (k : Nat))]) (fun (k : Nat) G => (k ≤ (rg 1 (rg 4 (rg 1 s).2).2).1.toNat) ∧ ∃ st lv X, st = (sP k (rg 1 (rg 4 (rg 1 s).2).2).2).2 ∧ G = (H.set q (rdB st) ++ [xB 0 0 nilS, xB (rg 1 s).1.toNat (rg 4 (rg 1 s).2).1.toNat lv]) ++ X ∧ LV (H.length + 2) 1 X lv ((sP k (rg 1 (rg 4 (rg 1 s).2).2).2).1.map iI) (sP k (rg 1 (rg 4 (rg 1 s).2).2).2).1.length) 0 rfl ?_ ?_
 ·refine ⟨?_, ⟨_, _, [], by rw [sP_0], (List.append_nil _).symm, by rw [sP_0]; exact LV.nil _ _ _⟩⟩
  exact Nat.zero_le _
 rintro k _ ⟨hk, ⟨st, lv, X, rfl, rfl, hl⟩⟩
 refine B_env (env' := uS13n25) rfl ?_
 refine B_seq (B_region ?_)
 refine Lo uS13n25 (rfl) ?_
 refine L_nil (K_seq (B_seq ?_))
 refine B_cond _ rfl (fun hc1 => ?_) (fun hc1 => ?_)
 ·try simp only [qB, qN] at hc1
  refine B_skip (K_seq (B_seq (B_block ?_)))
  have hb4 := rg1_lt (sP k (rg 1 (rg 4 (rg 1 s).2).2).2).2
  refine B_draw [0, 1, 2, 3, 4, 5, 6, 7, 8] #[0, 1, 0, 4, 12, 28, 63, 127, 255] (by kernel_rfl) (by kernel_rfl) (by kernel_rfl) ?_
  refine Oo uS13n25 .calm rfl (rfl) ?_
  refine O_opI (env' := uS13n25) (x := .look _ _) rfl rfl rfl (wS13n7 rfl rfl rfl rfl) rfl rfl rfl ?_
  refine Oo uS13n25 .calm rfl (v_move (.inl rfl) rfl) ?_
  refine O_call (env' := uS13n25) rfl rfl rfl rfl rfl (by exact get_in2 H _ _ q _ 1 hql (sP_l (rg_l (rg_l (rg_l hs))) k) (by decide)) (by first | exact Nat.le_refl _ | simp) rfl rfl ?_
  refine Oo uS13n25 .calm rfl (v_cvI rfl rfl rfl rfl rfl (by omega)) ?_
  refine Oo uS13n25 .grow rfl (v_buildSlice rfl rfl (by decide) rfl) ?_
  refine O_opX .turn rfl rfl rfl (v_appXh rfl rfl rfl rfl rfl rfl rfl (by simp) hl rfl rfl (by decide) (by rw [sP_len]; show (_ + 1) * 8 ≤ _ ∧ _ + 1 ≤ _; omega) (by decide)) rfl rfl ?_
  rintro _ _ ⟨Y1, rfl, rfl, hY1, hY2, hY3⟩
  refine O_env (env' := uS13n25) rfl ?_
  refine Oo uS13n25 .calm rfl (rfl) ?_
  refine Oo uS13n25 .turn rfl (wS13n8 rfl rfl rfl rfl rfl rfl rfl) ?_
  refine O_nil [_] (by rfl) (And.intro (And.intro (wS13n7 rfl rfl rfl rfl) (wS13n7 rfl rfl rfl rfl)) trivial) ?_
  refine K_blk (K_seq (B_region ?_))
  refine Lo uS13n25 (v_addU rfl rfl rfl (by omega)) ?_
  refine Lo uS13n25 (v_move (.inl rfl) rfl) ?_
  refine L_nil ?_
  refine K_loop (mk 25 33542130) (env' := uS13n25) rfl ⟨k + 1, ?_, rfl, ?_⟩
  ·first | omega | (simp only []; omega)
  ·exact ⟨by omega, _, _, _, (sP_s _ _).symm, rfl, by rw [sP_s1]; exact LV.pushI hY3⟩
 ·try simp only [qB, qN] at hc1
  refine B_exit (K_seqX (K_loopX (K_blkX (K_seq (B_seq ?_)))))
  obtain rfl : k = (rg 1 (rg 4 (rg 1 s).2).2).1.toNat := by omega
  refine B_ghCell 1 2 hl rfl rfl (by simp) fun X1 _ _ => ?_
  refine B_heap (List.append_assoc _ _ _) ?_
  refine B_region ?_
  refine Lo uS13n25 (wS13n9 rfl rfl rfl rfl rfl) ?_
  refine Lo uS13n25 (wS13n6 rfl rfl rfl rfl rfl rfl rfl) ?_
  refine L_nil (K_seq (B_ret ?_))
  refine wS13n10 (.inr rfl) (vres_cellA rfl rfl rfl rfl (by first | exact getB (by simp only [List.length_set]) rfl | exact get_app (by simp only [List.length_set]) rfl) (by first | rfl | assumption | exact fget (α := BitVec 64) 0 (by omega) | exact fget (α := Int) 0 (by omega) | exact fget0 (α := BitVec 64) 0 (by omega) | exact fget0 (α := Int) 0 (by omega) | exact fget (α := Bool) false (by omega) | exact fget0 (α := Bool) false (by omega) | (simp [*]; done))) ?_
  rw [ruP_1, ruP_2]
  exact ⟨rfl, rfl⟩

theorem rdrule_at {x : SW} (H L X : VHeap) (j : Nat) (s : RSt) (hj : L[j]? = some (rdB s)) (hs : s.1.length ≤ 1000000) : F (psys x) 40 [.ptr (some (H.length + j, 0))] ((H ++ L) ++ X) fun v G => v = .agg (rlB (ruP s).1) ∧ G = (H ++ L.set j (rdB (ruP s).2)) ++ X := by
  have := rdrule_spec (x := x) ((H ++ L) ++ X) (H.length + j) s (getB rfl hj) hs
  rw [setB rfl (lt_of_get hj)] at this; exact this
end Go.Proofs.Ytbngdhlmggdaaaa.VT

set_option autoImplicit false
set_option linter.unusedVariables false
set_option linter.unusedSimpArgs false
set_option maxHeartbeats 4000000
set_option maxRecDepth 100000
namespace Go.Proofs.Ytbngdhlmggdaaaa.VT
open Go Go.V Go.RowKit

abbrev uS14n103 {a0 a1 a2 a3 a4 a5 a6 a7 a8 a9 a10 a11 a12 a13 a14 a15 a16 a17 a18 a19 a20 a21 a22 a23 a24 a25 a26 a27 a28 a29 a30 a31 a32 a33 a34 a35 a36 a37 a38 a39 a40 a41 a42 a43 a44 a45 a46 a47 a48 a49 a50 a51 a52 a53 a54 a55 a56 a57 a58 a59 a60 a61 a62 a63 a64 a65 a66 a67 a68 a69 a70 a71 a72 a73 a74 a75 a76 a77 a78 a79 a80 a81 a82 a83 a84 a85 a86 a87 a88 a89 a90 a91 a92 a93 a94 a95 a96 a97 a98 a99 a100 a101 a102 : VVal} : VEnv := a0 :: a1 :: a2 :: a3 :: a4 :: a5 :: a6 :: a7 :: a8 :: a9 :: a10 :: a11 :: a12 :: a13 :: a14 :: a15 :: a16 :: a17 :: a18 :: a19 :: a20 :: a21 :: a22 :: a23 :: a24 :: a25 :: a26 :: a27 :: a28 :: a29 :: a30 :: a31 :: a32 :: a33 :: a34 :: a35 :: a36 :: a37 :: a38 :: a39 :: a40 :: a41 :: a42 :: a43 :: a44 :: a45 :: a46 :: a47 :: a48 :: a49 :: a50 :: a51 :: a52 :: a53 :: a54 :: a55 :: a56 :: a57 :: a58 :: a59 :: a60 :: a61 :: a62 :: a63 :: a64 :: a65 :: a66 :: a67 :: a68 :: a69 :: a70 :: a71 :: a72 :: a73 :: a74 :: a75 :: a76 :: a77 :: a78 :: a79 :: a80 :: a81 :: a82 :: a83 :: a84 :: a85 :: a86 :: a87 :: a88 :: a89 :: a90 :: a91 :: a92 :: a93 :: a94 :: a95 :: a96 :: a97 :: a98 :: a99 :: a100 :: a101 :: a102 :: []

theorem wS14n0 {T : TypeId → Option VTy} {H : VHeap} {op : Op} {ρ : VEnv} {H' : VHeap} {t : TypeId} {a : Operand} {i : Nat} {v : VVal} {y : VTy} {b off : Nat} {cs new : List VVal} (ho : op = .store t a (.tmp i)) (hv : ρ[i]? = some v) (ha : ρ.eval a = .ptr (some (b, off))) (hy : T t = some y) (hx : v.cells = some new) (hn : new.length = y.size) (h1 : new.all VVal.one = true) (hb : H[b]? = some (.cells cs true) := by first | exact get_app rfl rfl | exact get_out (by assumption) | exact getE0 rfl rfl | exact get_out (get_app rfl rfl) | exact get_app rfl (by assumption) | assumption | (simp only [List.append_assoc, List.singleton_append, List.cons_append, List.nil_append]; refine getE (i := 0) rfl ?_ rfl; simp; done) | (simp only [List.append_assoc, List.singleton_append, List.cons_append, List.nil_append]; refine getE (i := 1) rfl ?_ rfl; simp; done) | (simp only [List.append_assoc, List.singleton_append, List.cons_append, List.nil_append]; refine getE (i := 2) rfl ?_ rfl; simp; done) | (simp only [List.append_assoc, List.singleton_append, List.cons_append, List.nil_append]; refine getE (i := 3) rfl ?_ rfl; simp; done) | (simp [*]; done)) (hl : off + new.length ≤ cs.length := by first | exact Nat.le_of_ble_eq_true rfl | (simp only [List.length_map, List.length_cons, List.length_nil]; omega) | omega | (simp; done) | (simp; omega)) (hH : H.set b (.cells (splice cs off new) true) = H' := by first | exact setE0 rfl rfl | (simp only [List.append_assoc, List.singleton_append, List.cons_append, List.nil_append]; refine setE (i := 0) rfl ?_; simp; done) | (simp only [List.append_assoc, List.singleton_append, List.cons_append, List.nil_append]; refine setE (i := 1) rfl ?_; simp; done) | (simp only [List.append_assoc, List.singleton_append, List.cons_append, List.nil_append]; refine setE (i := 2) rfl ?_; simp; done) | (simp only [List.append_assoc, List.singleton_append, List.cons_append, List.nil_append]; refine setE (i := 3) rfl ?_; simp; done) | (refine setB rfl ?_; simp; done) | exact set_app rfl | exact set_out (lt_of_get (by assumption)) | rfl) : vop T ρ.eval H op = some (.skip, H') := v_storeT ho hv ha hy hx hn h1 hb hl hH
theorem wS14n1 {T : TypeId → Option VTy} {H : VHeap} {op : Op} {ρ : Operand → VVal} {t : TypeId} {a : Operand} {y : VTy} {p v : VVal} (ho : op = .load t a) (ha : ρ a = p) (hy : T t = some y) (hd : isAggDesc y.desc = false) (h : LdOk H p v := by first | exact .inl ⟨_, _, rfl, by first | rfl | assumption | exact fget (α := BitVec 64) 0 (by omega) | exact fget (α := Int) 0 (by omega) | exact fget0 (α := BitVec 64) 0 (by omega) | exact fget0 (α := Int) 0 (by omega) | exact fget (α := Bool) false (by omega) | exact fget0 (α := Bool) false (by omega) | (simp [*]; done)⟩ | exact .inr ⟨_, _, _, _, rfl, by first | exact get_app rfl rfl | exact get_out (by assumption) | exact getE0 rfl rfl | exact get_out (get_app rfl rfl) | exact get_app rfl (by assumption) | assumption | (simp only [List.append_assoc, List.singleton_append, List.cons_append, List.nil_append]; refine getE (i := 0) rfl ?_ rfl; simp; done) | (simp only [List.append_assoc, List.singleton_append, List.cons_append, List.nil_append]; refine getE (i := 1) rfl ?_ rfl; simp; done) | (simp only [List.append_assoc, List.singleton_append, List.cons_append, List.nil_append]; refine getE (i := 2) rfl ?_ rfl; simp; done) | (simp only [List.append_assoc, List.singleton_append, List.cons_append, List.nil_append]; refine getE (i := 3) rfl ?_ rfl; simp; done) | (simp [*]; done), by first | rfl | assumption | exact fget (α := BitVec 64) 0 (by omega) | exact fget (α := Int) 0 (by omega) | exact fget0 (α := BitVec 64) 0 (by omega) | exact fget0 (α := Int) 0 (by omega) | exact fget (α := Bool) false (by omega) | exact fget0 (α := Bool) false (by omega) | (simp [*]; done)⟩) : vop T ρ H op = some (v, H) := v_ld ho ha hy hd h
theorem wS14n2 {T : TypeId → Option VTy} {H : VHeap} {op : Op} {ρ : Operand → VVal} {t ty : TypeId} {x y : Operand} {n m : Int} (ho : op = .binOp .sub t x y ty) (hx : ρ x = .int .i64 n) (hy : ρ y = .int .i64 m) (h : -9223372036854775808 ≤ n - m ∧ n - m < 9223372036854775808 := by first | assumption | omega | (simp [*]; done) | (simp at *; omega)) : vop T ρ H op = some (.int .i64 (n - m), H) := v_subI ho hx hy h
theorem wS14n3 {S : V.Sys} {H : VHeap} {fn : Func} {ex : Exit} {env : VEnv} {B L : VHeap} {v : VVal} {R : VVal → VHeap → Prop} (hx : ex = .normal ∨ ex = .ret) (hv : vresults S.C.T env (B ++ L) fn.results = some v) (h : R v B) (hB : BaseOk H B := by first | exact BaseOk.refl _ | exact BaseOk.set (BaseOk.refl _) _ rfl) (hu : v.under H.length = true := by first | rfl | exact (show VVal.under _ (.tuple [.agg (pbB (pA raw)), fzI (uA raw), iI 0]) = true by simp [VVal.under, VVal.underL, fzI_under, fzW_under, fzR, flR_under])) : fnK S fn H R ex env (B ++ L) := E_app hx hv hB hu h
theorem wS14n4 {P : Prop} (h : P := by first | exact ⟨(rd_e (rdE_3 (.inl (bad1 (by assumption)))) (by decide)).symm, rfl⟩ | exact ⟨(rd_e (rdE_3 (.inl (bad2 (by assumption)))) (by decide)).symm, rfl⟩ | exact ⟨(rd_e (rdE_3 (.inl (bad3 (by assumption)))) (by decide)).symm, rfl⟩ | exact ⟨(rd_e (rdE_3 (.inr (by assumption))) (by decide)).symm, rfl⟩ | exact ⟨(rd_e (rdE_52 hb hpk hne) (by decide)).symm, rfl⟩ | exact ⟨(rd_0 (rdE_0 hb hpk hfl)).symm, rfl⟩) : P := h
theorem wS14n5 {T : TypeId → Option VTy} {H : VHeap} {op : Op} {ρ : Operand → VVal} {t : TypeId} {a : Operand} {y : VTy} {p : VVal} {n : Nat} {vs : List VVal} (ho : op = .load t a) (ha : ρ a = p) (hy : T t = some y) (hd : isAggDesc y.desc = true) (hn : y.size = n) (h : LdOkA H p n vs := by first | exact .inl ⟨_, _, rfl, by first | rfl | assumption | exact fget (α := BitVec 64) 0 (by omega) | exact fget (α := Int) 0 (by omega) | exact fget0 (α := BitVec 64) 0 (by omega) | exact fget0 (α := Int) 0 (by omega) | exact fget (α := Bool) false (by omega) | exact fget0 (α := Bool) false (by omega) | (simp [*]; done)⟩ | exact .inr ⟨_, _, _, _, rfl, by first | exact get_app rfl rfl | exact get_out (by assumption) | exact getE0 rfl rfl | exact get_out (get_app rfl rfl) | exact get_app rfl (by assumption) | assumption | (simp only [List.append_assoc, List.singleton_append, List.cons_append, List.nil_append]; refine getE (i := 0) rfl ?_ rfl; simp; done) | (simp only [List.append_assoc, List.singleton_append, List.cons_append, List.nil_append]; refine getE (i := 1) rfl ?_ rfl; simp; done) | (simp only [List.append_assoc, List.singleton_append, List.cons_append, List.nil_append]; refine getE (i := 2) rfl ?_ rfl; simp; done) | (simp only [List.append_assoc, List.singleton_append, List.cons_append, List.nil_append]; refine getE (i := 3) rfl ?_ rfl; simp; done) | (simp [*]; done), by first | rfl | assumption | exact fget (α := BitVec 64) 0 (by omega) | exact fget (α := Int) 0 (by omega) | exact fget0 (α := BitVec 64) 0 (by omega) | exact fget0 (α := Int) 0 (by omega) | exact fget (α := Bool) false (by omega) | exact fget0 (α := Bool) false (by omega) | (simp [*]; done)⟩) : vop T ρ H op = some (.agg vs, H) := v_ldA ho ha hy hd hn h

theorem get_aL {x : SW} (H L : VHeap) (j : Nat) (s : RSt) (n : Nat) (hj : L[j]? = some (rdB s)) (hs : s.1.length ≤ 1000000) (hn : n ≤ 8) : F (psys x) 39 [.ptr (some (H.length + j, 0)), iI (n : Nat)] (H ++ L) fun v G => v = iW (rg n s).1 ∧ G = H ++ L.set j (rdB (rg n s).2) := by
  have := get_at (x := x) H L [] j s n hj hs hn
  rw [List.append_nil, List.append_nil] at this; exact this
theorem rd_e {raw : List UInt8} {e : Int} (h : rdE raw = e) (he : ¬ e = 0) : VVal.tuple [.agg (pbB (rdPb raw)), fzI (rdU raw), iI (rdE raw)] = .tuple [.agg (pbB zPb), fzI [], iI e] := by
  unfold rdPb rdU; rw [h, if_neg he, if_neg he]
theorem rd_0 {raw : List UInt8} (h : rdE raw = 0) : VVal.tuple [.agg (pbB (rdPb raw)), fzI (rdU raw), iI (rdE raw)] = .tuple [.agg (pbB (pA raw)), fzI (uA raw), iI 0] := by
  unfold rdPb rdU; rw [h, if_pos rfl, if_pos rfl]
theorem pA_L (raw : List UInt8) : PbL (pA raw) := by
  have h := pA_lens raw; have h2 := hdP_lt raw
  exact ⟨by rw [pA_eq]; show _ ≤ (hdP raw).users ∧ (hdP raw).users < _; omega, by omega, by omega, by omega, fun r hr => Nat.le_trans (pA_steps raw r hr) (by decide)⟩

theorem Read_spec {x : SW} (H : VHeap) (raw : List UInt8) (hl : raw.length ≤ 1000000) : F (psys x) 17 [fzB raw] H fun v G => v = .tuple [.agg (pbB (rdPb raw)), fzI (rdU raw), iI (rdE raw)] ∧ G = H := by
 have hU := rg1_lt (rg 1 (rg 1 (raw, false)).2).2
 have hNn := (hdP_lt raw).2
 have hN := hd_n raw
 have hS := hd_l hl
 have hM := mA_lt raw
 have hS2 : (mA raw).2.1.length ≤ 1000000 := by rw [← m_n]; exact rg_l (stP_l hS _)
 have hlen := pA_lens raw
 refine F_body Try.func17 rfl uS14n103 rfl ?_
 refine B_seq (B_region ?_)
 refine Lo uS14n103 (v_alloc rfl rfl) ?_
 refine Lo uS14n103 (v_const (VVal.slice none 0 0 true 0) (.inr rfl) rfl) ?_
 refine Lo uS14n103 (v_const (VVal.int .i64 0) (.inr rfl) rfl) ?_
 refine L_nil (K_seq (B_seq (B_region ?_)))
 refine Lo uS14n103 (v_move (.inl rfl) rfl) ?_
 refine Lo uS14n103 (rfl) ?_
 refine Lo uS14n103 (v_boxT rfl rfl rfl) ?_
 refine Lo uS14n103 (v_move (.inr rfl) rfl) ?_
 refine L_nil (K_seq (B_seq (B_region ?_)))
 refine Lo uS14n103 (v_move (.inl rfl) rfl) ?_
 refine L_call rfl rfl rfl (by exact get_aL H _ 1 (raw, false) 1 rfl hl (by decide)) ?_
 rintro _ _ ⟨rfl, rfl⟩
 refine Le uS14n103 ?_
 refine Lo uS14n103 (v_shlN 8 rfl rfl rfl (by decide)) ?_
 refine Lo uS14n103 (v_move (.inl rfl) rfl) ?_
 refine L_call rfl rfl rfl (by exact get_aL H _ 1 _ 1 rfl (rg_l (s := (raw, false)) hl) (by decide)) ?_
 rintro _ _ ⟨rfl, rfl⟩
 refine Le uS14n103 ?_
 refine Lo uS14n103 (v_orW rfl rfl rfl) ?_
 refine Lo uS14n103 (v_move (.inr rfl) rfl) ?_
 refine L_nil (K_seq (B_seq (B_region ?_)))
 refine Lo uS14n103 (v_move (.inl rfl) rfl) ?_
 refine L_call rfl rfl rfl (by exact get_aL H _ 1 _ 1 rfl (rg_l (rg_l (s := (raw, false)) hl)) (by decide)) ?_
 rintro _ _ ⟨rfl, rfl⟩
 refine Le uS14n103 ?_
 refine Lo uS14n103 (v_cvI rfl rfl rfl rfl rfl (by omega)) ?_
 refine Lo uS14n103 (rfl) ?_
 refine Lo uS14n103 (v_alloc rfl rfl) ?_
 refine Lo uS14n103 (wS14n0 rfl rfl rfl rfl rfl rfl rfl) ?_
 refine L_nil (K_seq (B_seq (B_region ?_)))
 refine Lo uS14n103 (v_const (VVal.slice none 0 0 true 0) (.inr rfl) rfl) ?_
 refine L_nil (K_seq (B_seq (B_seq (B_region ?_))))
 refine Lo uS14n103 (v_move (.inl rfl) rfl) ?_
 refine L_call rfl rfl rfl (by exact get_aL H _ 1 _ 1 rfl (rg_l (rg_l (rg_l (s := (raw, false)) hl))) (by decide)) ?_
 rintro _ _ ⟨rfl, rfl⟩
 refine Le uS14n103 ?_
 refine Lo uS14n103 (v_const (VVal.int .u64 0) (.inl rfl) rfl) ?_
 refine L_nil (K_seq (B_block ?_))
 refine B_clear (mk 103 10141204801825835211973524979227) (env' := uS14n103) rfl ?_
 rw [hd_u, hd_st]
 refine B_loopE (fun (⟨k, lv⟩ : Nat × VVal) => (hdP raw).n - k) (fun (⟨k, lv⟩ : Nat × VVal) => [(8, lv), (26, .int .u64 (k : Nat))]) (fun (⟨k, lv⟩ : Nat × VVal) G => (k ≤ (hdP raw).n) ∧ ∃ st v1 v2 X, st = (stP k (hdP raw).st).2 ∧ G = (H ++ [pqB 0 nilS nilS nilS, rdB st, pqB (hdP raw).users v1 v2 nilS]) ++ X ∧ LV (H.length + 3) 1 X v1 (((stP k (hdP raw).st).1.map (fun x : Stp => x.1)).map iW) ((stP k (hdP raw).st).1.map (fun x : Stp => x.1)).length ∧ LV (H.length + 3) 1 X v2 (((stP k (hdP raw).st).1.map (fun x : Stp => x.2.1)).map iI) ((stP k (hdP raw).st).1.map (fun x : Stp => x.2.1)).length ∧ LV (H.length + 3) 1 X lv (((stP k (hdP raw).st).1.map (fun x : Stp => x.2.2)).map iI) ((stP k (hdP raw).st).1.map (fun x : Stp => x.2.2)).length ∧ Dj v1 v2 ∧ Dj v1 lv ∧ Dj v2 lv) ⟨0, _⟩ rfl ?_ ?_
 ·refine ⟨?_, ⟨_, _, _, [], by rw [stP_0], (List.append_nil _).symm, by rw [stP_0]; exact LV.nil _ _ _, by rw [stP_0]; exact LV.nil _ _ _, by rw [stP_0]; exact LV.nil _ _ _, Dj.nil _, Dj.nil _, Dj.nil _⟩⟩
  exact Nat.zero_le _
 rintro ⟨k, lv⟩ _ ⟨hk, ⟨st, v1, v2, X, rfl, rfl, l1, l2, l3, d12, d13, d23⟩⟩
 refine B_env (env' := uS14n103) rfl ?_
 refine B_seq (B_region ?_)
 refine Lo uS14n103 (rfl) ?_
 refine L_nil (K_seq (B_seq ?_))
 refine B_cond _ rfl (fun hc1 => ?_) (fun hc1 => ?_)
 ·try simp only [qB, qN] at hc1
  refine B_skip (K_seq (B_seq (B_block (B_seq ?_))))
  refine B_draw [0, 1, 2, 3, 4, 5, 6, 7] #[0, 1, 0, 4, 12, 31, 63, 127] (by kernel_rfl) (by kernel_rfl) (by kernel_rfl) ?_
  refine Oo uS14n103 .calm rfl (rfl) ?_
  refine O_opI (env' := uS14n103) (x := .look _ _) rfl rfl rfl (wS14n1 rfl rfl rfl rfl) rfl rfl rfl ?_
  refine Oo uS14n103 .calm rfl (v_move (.inl rfl) rfl) ?_
  refine O_call (env' := uS14n103) rfl rfl rfl rfl rfl (by exact get_at H _ _ 1 _ 8 rfl (stP_l hS k) (by decide)) (by first | exact Nat.le_refl _ | simp) rfl rfl ?_
  refine Oo uS14n103 .grow rfl (v_buildSlice rfl rfl (by decide) rfl) ?_
  refine O_opX .turn rfl rfl rfl (v_appXh rfl rfl rfl rfl rfl rfl rfl (by simp) l1 rfl rfl (by decide) (by rw [List.length_map, stP_len]; show (_ + 1) * 8 ≤ _ ∧ _ + 1 ≤ _; omega) (by decide)) rfl rfl ?_
  rintro _ _ ⟨Y1, rfl, rfl, hY1, hY2, hY3⟩
  refine O_env (env' := uS14n103) rfl ?_
  refine Oo uS14n103 .calm rfl (rfl) ?_
  refine Oo uS14n103 .turn rfl (wS14n0 rfl rfl rfl rfl rfl rfl rfl) ?_
  have l2n := LV.keepN hY3 l2 d12.symm hY2
  have l3n := LV.keepN hY3 l3 d13.symm hY2
  have d12 := (LV.djN hY3 l2).symm
  have d13 := (LV.djN hY3 l3).symm
  have l1 := LV.pushW hY3
  refine O_nil [_] (by rfl) (And.intro (And.intro (wS14n1 rfl rfl rfl rfl) (wS14n1 rfl rfl rfl rfl)) trivial) ?_
  refine K_seq (B_seq ?_)
  have hb4 := rg1_lt (rg 8 (stP k (hdP raw).st).2).2
  have hb5 := rg1_lt (rg 1 (rg 8 (stP k (hdP raw).st).2).2).2
  refine B_draw [0, 1, 2, 3, 4, 5, 6, 7, 8, 9] #[0, 1, 0, 4, 12, 28, 60, 127, 255, 511] (by kernel_rfl) (by kernel_rfl) (by kernel_rfl) ?_
  refine Oo uS14n103 .calm rfl (rfl) ?_
  refine O_opI (env' := uS14n103) (x := .look _ _) rfl rfl rfl (wS14n1 rfl rfl rfl rfl) rfl rfl rfl ?_
  refine Oo uS14n103 .calm rfl (v_move (.inl rfl) rfl) ?_
  refine O_call (env' := uS14n103) rfl rfl rfl rfl rfl (by exact get_at H _ _ 1 _ 1 rfl (rg_l (stP_l hS k)) (by decide)) (by first | exact Nat.le_refl _ | simp) rfl rfl ?_
  refine Oo uS14n103 .calm rfl (v_cvI rfl rfl rfl rfl rfl (by omega)) ?_
  refine Oo uS14n103 .calm rfl (wS14n2 rfl rfl rfl) ?_
  refine Oo uS14n103 .grow rfl (v_buildSlice rfl rfl (by decide) rfl) ?_
  refine O_opX .turn rfl rfl rfl (v_appXh rfl rfl rfl rfl rfl rfl rfl (by simp) l2n rfl rfl (by decide) (by rw [List.length_map, stP_len]; show (_ + 1) * 8 ≤ _ ∧ _ + 1 ≤ _; omega) (by decide)) rfl rfl ?_
  rintro _ _ ⟨Y1, rfl, rfl, hY1, hY2, hY3⟩
  refine O_env (env' := uS14n103) rfl ?_
  refine Oo uS14n103 .calm rfl (rfl) ?_
  refine Oo uS14n103 .turn rfl (wS14n0 rfl rfl rfl rfl rfl rfl rfl) ?_
  have l1n := LV.keepN hY3 l1 d12 hY2
  have l3m := LV.keepN hY3 l3n d23.symm hY2
  have d12 := LV.djN hY3 l1
  have d23 := (LV.djN hY3 l3n).symm
  have l2m := LV.pushI hY3
  refine O_nil [_] (by rfl) (And.intro (And.intro (wS14n1 rfl rfl rfl rfl) (wS14n1 rfl rfl rfl rfl)) trivial) ?_
  refine K_seq (B_region ?_)
  refine Lo uS14n103 (v_move (.inl rfl) rfl) ?_
  refine Lo uS14n103 (v_move (.inl rfl) rfl) ?_
  refine L_call rfl rfl rfl (by exact get_at H _ _ 1 _ 1 rfl (rg_l (rg_l (stP_l hS k))) (by decide)) ?_
  rintro _ _ ⟨rfl, rfl⟩
  refine Le uS14n103 ?_
  refine Lo uS14n103 (v_cvI rfl rfl rfl rfl rfl (by omega)) ?_
  refine Lo uS14n103 (v_buildSlice rfl rfl (by decide) rfl) ?_
  refine L_opX rfl rfl (v_appXh rfl rfl rfl rfl rfl rfl rfl (by simp) l3m rfl rfl (by decide) (by rw [List.length_map, stP_len]; show (_ + 1) * 8 ≤ _ ∧ _ + 1 ≤ _; omega) (by decide)) ?_
  rintro _ _ ⟨Y1, rfl, rfl, hY1, hY2, hY3⟩
  refine Le uS14n103 ?_
  refine Lo uS14n103 (v_move (.inr rfl) rfl) ?_
  have l1m := LV.keepN hY3 l1n d13 hY2
  have l2p := LV.keepN hY3 l2m d23 hY2
  have d13 := LV.djN hY3 l1n
  have d23 := LV.djN hY3 l2m
  have l3p := LV.pushI hY3
  refine L_nil (K_blk (K_seq (B_region ?_)))
  refine Lo uS14n103 (v_addU rfl rfl rfl (by omega)) ?_
  refine Lo uS14n103 (v_move (.inl rfl) rfl) ?_
  refine L_nil ?_
  refine K_loop (mk 103 10141204801825835211973524979227) (env' := uS14n103) rfl ⟨⟨k + 1, _⟩, ?_, rfl, ?_⟩
  ·first | omega | (simp only []; omega)
  ·exact ⟨by omega, _, _, _, _, (stP_s _ _).symm, rfl, by rw [stP_1]; exact l1m, by rw [stP_2]; exact l2p, by rw [stP_3]; exact l3p, d12, d13, d23⟩
 ·try simp only [qB, qN] at hc1
  refine B_exit (K_seqX (K_loopX (K_blkX (K_seq (B_seq (B_seq ?_))))))
  obtain rfl : k = (hdP raw).n := by omega
  refine B_ghCell 2 1 l1 rfl rfl (by simp) fun X1 hX1 hF1 => ?_
  have l2 := LV.keep l2 d12.symm hF1
  have l3 := LV.keep l3 d13.symm hF1
  refine B_ghCell 2 2 l2 rfl rfl (by simp) fun X2 hX2 hF2 => ?_
  have l3 := LV.keep l3 d23.symm hF2
  refine B_ghLVh (env' := uS14n103) 8 l3 (by simp) rfl rfl fun X3 hX3 hF3 => ?_
  rw [← pA_who, ← pA_fixed, ← uA_eq]
  refine B_region ?_
  refine Lo uS14n103 (v_move (.inl rfl) rfl) ?_
  refine L_call rfl rfl rfl (by exact get_at H _ _ 1 _ 1 rfl (stP_l hS _) (by decide)) ?_
  rintro _ _ ⟨rfl, rfl⟩
  refine Le uS14n103 ?_
  rw [m_n]
  refine Lo uS14n103 (v_const (VVal.int .u64 0) (.inl rfl) rfl) ?_
  refine L_nil (K_seq (B_block ?_))
  refine B_clear (mk 103 10141204801825821701174743531035) (env' := uS14n103) rfl ?_
  refine B_loopE (fun (q : Nat) => (mA raw).1.toNat - q) (fun (q : Nat) => [(53, .int .u64 (q : Nat))]) (fun (q : Nat) G => (q ≤ (mA raw).1.toNat) ∧ ∃ st v3 X, st = (rusP q (mA raw).2).2 ∧ G = (H ++ [pqB 0 nilS nilS nilS, rdB st, pqB (hdP raw).users (fzW (pA raw).who) (fzI (pA raw).fixed) v3]) ++ X ∧ LV (H.length + 3) 3 X v3 ((rusP q (mA raw).2).1.flatMap rlB) (rusP q (mA raw).2).1.length) 0 rfl ?_ ?_
  ·refine ⟨?_, ⟨_, _, _, by rw [rusP_0], rfl, by rw [rusP_0]; exact LV.nil _ _ _⟩⟩
   exact Nat.zero_le _
  rintro q _ ⟨hq, ⟨st, v3, X, rfl, rfl, l⟩⟩
  refine B_env (env' := uS14n103) rfl ?_
  refine B_seq (B_region ?_)
  refine Lo uS14n103 (rfl) ?_
  refine L_nil (K_seq (B_seq ?_))
  refine B_cond _ rfl (fun hc2 => ?_) (fun hc2 => ?_)
  ·try simp only [qB, qN] at hc2
   refine B_skip (K_seq (B_seq (B_block ?_)))
   refine B_draw [0, 1, 2, 3, 4, 5, 6, 7] #[0, 1, 0, 4, 12, 31, 63, 127] (by kernel_rfl) (by kernel_rfl) (by kernel_rfl) ?_
   refine Oo uS14n103 .calm rfl (rfl) ?_
   refine O_opI (env' := uS14n103) (x := .look _ _) rfl rfl rfl (wS14n1 rfl rfl rfl rfl) rfl rfl rfl ?_
   refine Oo uS14n103 .calm rfl (v_move (.inl rfl) rfl) ?_
   refine O_call (env' := uS14n103) rfl rfl rfl rfl rfl (by exact rdrule_at H _ _ 1 _ rfl (rusP_l hS2 q)) (by first | exact Nat.le_refl _ | simp) rfl rfl ?_
   refine Oo uS14n103 .grow rfl (v_buildSlice rfl rfl (by decide) rfl) ?_
   refine O_opX .turn rfl rfl rfl (v_appXh rfl rfl rfl rfl rfl rfl rfl (by simp) l rfl rfl (by decide) (by rw [rusP_len]; show (_ + 1) * 40 ≤ _ ∧ _ + 1 ≤ _; omega) (by decide)) rfl rfl ?_
   rintro _ _ ⟨Y1, rfl, rfl, hY1, hY2, hY3⟩
   refine O_env (env' := uS14n103) rfl ?_
   refine Oo uS14n103 .calm rfl (rfl) ?_
   refine Oo uS14n103 .turn rfl (wS14n0 rfl rfl rfl rfl rfl rfl rfl) ?_
   refine O_nil [_] (by rfl) (And.intro (And.intro (wS14n1 rfl rfl rfl rfl) (wS14n1 rfl rfl rfl rfl)) trivial) ?_
   refine K_blk (K_seq (B_region ?_))
   refine Lo uS14n103 (v_addU rfl rfl rfl (by omega)) ?_
   refine Lo uS14n103 (v_move (.inl rfl) rfl) ?_
   refine L_nil ?_
   refine K_loop (mk 103 10141204801825821701174743531035) (env' := uS14n103) rfl ⟨q + 1, ?_, rfl, ?_⟩
   ·first | omega | (simp only []; omega)
   ·exact ⟨by omega, _, _, _, (rusP_s _ _).symm, rfl, by rw [rusP_s1]; exact LV.pushF hY3⟩
  ·try simp only [qB, qN] at hc2
   refine B_exit (K_seqX (K_loopX (K_blkX (K_seq (B_seq (B_seq ?_))))))
   obtain rfl : q = (mA raw).1.toNat := by omega
   refine B_ghCell 2 3 l rfl rfl (by simp) fun X4 _ _ => ?_
   refine B_heap (H' := (H ++ [pqB 0 nilS nilS nilS, rdB (rusP (mA raw).1.toNat (mA raw).2).2, VBlk.cells (pbB (pA raw)) true]) ++ X4) (by rw [pA_eq]; rfl) ?_
   refine B_draw [0, 1, 2, 3, 4, 5, 6, 7, 8, 9, 10, 11, 12, 13, 14, 15, 16, 17, 18, 19, 20, 21, 22, 23, 24, 25, 26] #[0, 1, 3, 7, 15, 31, 63, 127, 255, 511, 1023, 2047, 4095, 8191, 8191, 24575, 57343, 8191, 139263, 516095, 1048575, 2097151, 4194303, 8388607, 16777215, 33554431, 67108863] (by kernel_rfl) (by kernel_rfl) (by kernel_rfl) ?_
   refine Oo uS14n103 .calm rfl (v_move (.inl rfl) rfl) ?_
   refine Oo uS14n103 .calm rfl (rfl) ?_
   refine Oo uS14n103 .calm rfl (rfl) ?_
   refine Oo uS14n103 .look rfl (wS14n1 rfl rfl rfl rfl) ?_
   refine Oo uS14n103 .calm rfl (v_move (.inl rfl) rfl) ?_
   refine O_split 67 (env1 := uS14n103) (env2 := uS14n103) rfl rfl rfl (fun hg3 => ?_) (fun hg3 => ?_)
   ·try simp only [qB, qN] at hg3
    refine Of uS14n103 rfl ?_
    refine Of uS14n103 rfl ?_
    refine Of uS14n103 rfl ?_
    refine Of uS14n103 rfl ?_
    refine Of uS14n103 rfl ?_
    refine Of uS14n103 rfl ?_
    refine Oo uS14n103 .calm rfl (v_pickTC (VVal.bool true) rfl rfl rfl) ?_
    refine Oo uS14n103 .calm rfl (v_move (.inl rfl) rfl) ?_
    refine Of uS14n103 rfl ?_
    refine Of uS14n103 rfl ?_
    refine Of uS14n103 rfl ?_
    refine Of uS14n103 rfl ?_
    refine Of uS14n103 rfl ?_
    refine Of uS14n103 rfl ?_
    refine Of uS14n103 rfl ?_
    refine Of uS14n103 rfl ?_
    refine Oo uS14n103 .calm rfl (v_pickTC (VVal.bool true) rfl rfl rfl) ?_
    refine Oo uS14n103 .calm rfl (v_move (.inl rfl) rfl) ?_
    refine Of uS14n103 rfl ?_
    refine Of uS14n103 rfl ?_
    refine Of uS14n103 rfl ?_
    refine Oo uS14n103 .calm rfl (v_pickTC (VVal.bool true) rfl rfl rfl) ?_
    refine O_nil [] (by kernel_rfl) (trivial) ?_
    refine K_seq ?_
    refine B_true rfl rfl ?_
    refine B_seq (B_region ?_)
    refine Lo uS14n103 (rfl) ?_
    refine Lo uS14n103 (wS14n0 rfl rfl rfl rfl rfl rfl rfl) ?_
    refine Lo uS14n103 (v_const (VVal.slice none 0 0 true 0) (.inr rfl) rfl) ?_
    refine Lo uS14n103 (v_const (VVal.int .i64 3) (.inr rfl) rfl) ?_
    refine L_nil (K_seq ?_)
    refine B_heap (List.append_assoc _ _ _) ?_
    refine B_gh (Gh.cellNilL 0 1 (es' := 1) rfl rfl) ?_
    refine B_gh (Gh.cellNilL 0 2 (es' := 1) rfl rfl) ?_
    refine B_gh (Gh.cellNilL 0 3 (es' := 3) rfl rfl) ?_
    refine B_gh (Gh.freezeNil 3 (es' := 1) rfl rfl) ?_
    refine B_ret (K_seqR ?_)
    refine wS14n3 (.inr rfl) (vres_cAtt rfl rfl rfl rfl (by first | exact get_app rfl rfl | exact get_out (by assumption) | exact getE0 rfl rfl | exact get_out (get_app rfl rfl) | exact get_app rfl (by assumption) | assumption | (simp only [List.append_assoc, List.singleton_append, List.cons_append, List.nil_append]; refine getE (i := 0) rfl ?_ rfl; simp; done) | (simp only [List.append_assoc, List.singleton_append, List.cons_append, List.nil_append]; refine getE (i := 1) rfl ?_ rfl; simp; done) | (simp only [List.append_assoc, List.singleton_append, List.cons_append, List.nil_append]; refine getE (i := 2) rfl ?_ rfl; simp; done) | (simp only [List.append_assoc, List.singleton_append, List.cons_append, List.nil_append]; refine getE (i := 3) rfl ?_ rfl; simp; done) | (simp [*]; done)) (by first | rfl | assumption | exact fget (α := BitVec 64) 0 (by omega) | exact fget (α := Int) 0 (by omega) | exact fget0 (α := BitVec 64) 0 (by omega) | exact fget0 (α := Int) 0 (by omega) | exact fget (α := Bool) false (by omega) | exact fget0 (α := Bool) false (by omega) | (simp [*]; done)) rfl rfl) ?_
    exact wS14n4
   ·try simp only [qB, qN] at hg3
    refine Oo uS14n103 .calm rfl (v_move (.inl rfl) rfl) ?_
    refine Oo uS14n103 .calm rfl (rfl) ?_
    refine Oo uS14n103 .calm rfl (rfl) ?_
    refine Oo uS14n103 .look rfl (wS14n1 rfl rfl rfl rfl) ?_
    refine Oo uS14n103 .look rfl (rfl) ?_
    refine Oo uS14n103 .calm rfl (rfl) ?_
    refine Oo uS14n103 .calm rfl (v_pickF rfl rfl rfl) ?_
    refine Oo uS14n103 .calm rfl (v_move (.inl rfl) rfl) ?_
    refine O_split 75 (env1 := uS14n103) (env2 := uS14n103) rfl rfl rfl (fun hg4 => ?_) (fun hg4 => ?_)
    ·try simp only [qB, qN] at hg4
     refine Of uS14n103 rfl ?_
     refine Of uS14n103 rfl ?_
     refine Of uS14n103 rfl ?_
     refine Of uS14n103 rfl ?_
     refine Of uS14n103 rfl ?_
     refine Of uS14n103 rfl ?_
     refine Of uS14n103 rfl ?_
     refine Of uS14n103 rfl ?_
     refine Oo uS14n103 .calm rfl (v_pickTC (VVal.bool true) rfl rfl rfl) ?_
     refine Oo uS14n103 .calm rfl (v_move (.inl rfl) rfl) ?_
     refine Of uS14n103 rfl ?_
     refine Of uS14n103 rfl ?_
     refine Of uS14n103 rfl ?_
     refine Oo uS14n103 .calm rfl (v_pickTC (VVal.bool true) rfl rfl rfl) ?_
     refine O_nil [] (by kernel_rfl) (trivial) ?_
     refine K_seq ?_
     refine B_true rfl rfl ?_
     refine B_seq (B_region ?_)
     refine Lo uS14n103 (rfl) ?_
     refine Lo uS14n103 (wS14n0 rfl rfl rfl rfl rfl rfl rfl) ?_
     refine Lo uS14n103 (v_const (VVal.slice none 0 0 true 0) (.inr rfl) rfl) ?_
     refine Lo uS14n103 (v_const (VVal.int .i64 3) (.inr rfl) rfl) ?_
     refine L_nil (K_seq ?_)
     refine B_heap (List.append_assoc _ _ _) ?_
     refine B_gh (Gh.cellNilL 0 1 (es' := 1) rfl rfl) ?_
     refine B_gh (Gh.cellNilL 0 2 (es' := 1) rfl rfl) ?_
     refine B_gh (Gh.cellNilL 0 3 (es' := 3) rfl rfl) ?_
     refine B_gh (Gh.freezeNil 3 (es' := 1) rfl rfl) ?_
     refine B_ret (K_seqR ?_)
     refine wS14n3 (.inr rfl) (vres_cAtt rfl rfl rfl rfl (by first | exact get_app rfl rfl | exact get_out (by assumption) | exact getE0 rfl rfl | exact get_out (get_app rfl rfl) | exact get_app rfl (by assumption) | assumption | (simp only [List.append_assoc, List.singleton_append, List.cons_append, List.nil_append]; refine getE (i := 0) rfl ?_ rfl; simp; done) | (simp only [List.append_assoc, List.singleton_append, List.cons_append, List.nil_append]; refine getE (i := 1) rfl ?_ rfl; simp; done) | (simp only [List.append_assoc, List.singleton_append, List.cons_append, List.nil_append]; refine getE (i := 2) rfl ?_ rfl; simp; done) | (simp only [List.append_assoc, List.singleton_append, List.cons_append, List.nil_append]; refine getE (i := 3) rfl ?_ rfl; simp; done) | (simp [*]; done)) (by first | rfl | assumption | exact fget (α := BitVec 64) 0 (by omega) | exact fget (α := Int) 0 (by omega) | exact fget0 (α := BitVec 64) 0 (by omega) | exact fget0 (α := Int) 0 (by omega) | exact fget (α := Bool) false (by omega) | exact fget0 (α := Bool) false (by omega) | (simp [*]; done)) rfl rfl) ?_
     exact wS14n4
    ·try simp only [qB, qN] at hg4
     refine Oo uS14n103 .calm rfl (v_move (.inl rfl) rfl) ?_
     refine Oo uS14n103 .calm rfl (rfl) ?_
     refine Oo uS14n103 .calm rfl (rfl) ?_
     refine Oo uS14n103 .calm rfl ((rfl : vop _ _ _ _ = some (iW 20480#64, _))) ?_
     refine Oo uS14n103 .calm rfl (rfl) ?_
     refine Oo uS14n103 .calm rfl (rfl) ?_
     refine Oo uS14n103 .calm rfl (v_val (u := iW 20547#64) (v_orW (a := 20480#64) (b := 67#64) rfl rfl rfl) rfl) ?_
     refine Oo uS14n103 .calm rfl (rfl) ?_
     refine Oo uS14n103 .calm rfl (v_pickF rfl rfl rfl) ?_
     refine Oo uS14n103 .calm rfl (v_move (.inl rfl) rfl) ?_
     refine O_split 85 (env1 := uS14n103) (env2 := uS14n103) rfl rfl rfl (fun hg5 => ?_) (fun hg5 => ?_)
     ·try simp only [qB, qN] at hg5
      refine Of uS14n103 rfl ?_
      refine Of uS14n103 rfl ?_
      refine Of uS14n103 rfl ?_
      refine Oo uS14n103 .calm rfl (v_pickTC (VVal.bool true) rfl rfl rfl) ?_
      refine O_nil [] (by kernel_rfl) (trivial) ?_
      refine K_seq ?_
      refine B_true rfl rfl ?_
      refine B_seq (B_region ?_)
      refine Lo uS14n103 (rfl) ?_
      refine Lo uS14n103 (wS14n0 rfl rfl rfl rfl rfl rfl rfl) ?_
      refine Lo uS14n103 (v_const (VVal.slice none 0 0 true 0) (.inr rfl) rfl) ?_
      refine Lo uS14n103 (v_const (VVal.int .i64 3) (.inr rfl) rfl) ?_
      refine L_nil (K_seq ?_)
      refine B_heap (List.append_assoc _ _ _) ?_
      refine B_gh (Gh.cellNilL 0 1 (es' := 1) rfl rfl) ?_
      refine B_gh (Gh.cellNilL 0 2 (es' := 1) rfl rfl) ?_
      refine B_gh (Gh.cellNilL 0 3 (es' := 3) rfl rfl) ?_
      refine B_gh (Gh.freezeNil 3 (es' := 1) rfl rfl) ?_
      refine B_ret (K_seqR ?_)
      refine wS14n3 (.inr rfl) (vres_cAtt rfl rfl rfl rfl (by first | exact get_app rfl rfl | exact get_out (by assumption) | exact getE0 rfl rfl | exact get_out (get_app rfl rfl) | exact get_app rfl (by assumption) | assumption | (simp only [List.append_assoc, List.singleton_append, List.cons_append, List.nil_append]; refine getE (i := 0) rfl ?_ rfl; simp; done) | (simp only [List.append_assoc, List.singleton_append, List.cons_append, List.nil_append]; refine getE (i := 1) rfl ?_ rfl; simp; done) | (simp only [List.append_assoc, List.singleton_append, List.cons_append, List.nil_append]; refine getE (i := 2) rfl ?_ rfl; simp; done) | (simp only [List.append_assoc, List.singleton_append, List.cons_append, List.nil_append]; refine getE (i := 3) rfl ?_ rfl; simp; done) | (simp [*]; done)) (by first | rfl | assumption | exact fget (α := BitVec 64) 0 (by omega) | exact fget (α := Int) 0 (by omega) | exact fget0 (α := BitVec 64) 0 (by omega) | exact fget0 (α := Int) 0 (by omega) | exact fget (α := Bool) false (by omega) | exact fget0 (α := Bool) false (by omega) | (simp [*]; done)) rfl rfl) ?_
      exact wS14n4
     ·try simp only [qB, qN] at hg5
      refine Oo uS14n103 .look rfl (wS14n5 rfl rfl rfl rfl rfl) ?_
      refine O_call (env' := uS14n103) rfl rfl rfl rfl rfl (by exact sCheck_spec _ (pA raw) (pA_L raw)) (by first | exact Nat.le_refl _ | simp) rfl rfl ?_
      refine Oo uS14n103 .calm rfl (rfl) ?_
      refine Oo uS14n103 .calm rfl (v_pickF rfl rfl rfl) ?_
      refine O_nil [] (by kernel_rfl) (trivial) ?_
      refine K_seq ?_
      refine B_cond _ rfl (fun hc6 => ?_) (fun hc6 => ?_)
      ·try simp only [qB, qN] at hc6
       refine B_seq (B_region ?_)
       refine Lo uS14n103 (rfl) ?_
       refine Lo uS14n103 (wS14n0 rfl rfl rfl rfl rfl rfl rfl) ?_
       refine Lo uS14n103 (v_const (VVal.slice none 0 0 true 0) (.inr rfl) rfl) ?_
       refine Lo uS14n103 (v_const (VVal.int .i64 3) (.inr rfl) rfl) ?_
       refine L_nil (K_seq ?_)
       refine B_heap (List.append_assoc _ _ _) ?_
       refine B_gh (Gh.cellNilL 0 1 (es' := 1) rfl rfl) ?_
       refine B_gh (Gh.cellNilL 0 2 (es' := 1) rfl rfl) ?_
       refine B_gh (Gh.cellNilL 0 3 (es' := 3) rfl rfl) ?_
       refine B_gh (Gh.freezeNil 3 (es' := 1) rfl rfl) ?_
       refine B_ret (K_seqR ?_)
       refine wS14n3 (.inr rfl) (vres_cAtt rfl rfl rfl rfl (by first | exact get_app rfl rfl | exact get_out (by assumption) | exact getE0 rfl rfl | exact get_out (get_app rfl rfl) | exact get_app rfl (by assumption) | assumption | (simp only [List.append_assoc, List.singleton_append, List.cons_append, List.nil_append]; refine getE (i := 0) rfl ?_ rfl; simp; done) | (simp only [List.append_assoc, List.singleton_append, List.cons_append, List.nil_append]; refine getE (i := 1) rfl ?_ rfl; simp; done) | (simp only [List.append_assoc, List.singleton_append, List.cons_append, List.nil_append]; refine getE (i := 2) rfl ?_ rfl; simp; done) | (simp only [List.append_assoc, List.singleton_append, List.cons_append, List.nil_append]; refine getE (i := 3) rfl ?_ rfl; simp; done) | (simp [*]; done)) (by first | rfl | assumption | exact fget (α := BitVec 64) 0 (by omega) | exact fget (α := Int) 0 (by omega) | exact fget0 (α := BitVec 64) 0 (by omega) | exact fget0 (α := Int) 0 (by omega) | exact fget (α := Bool) false (by omega) | exact fget0 (α := Bool) false (by omega) | (simp [*]; done)) rfl rfl) ?_
       exact wS14n4
      ·try simp only [qB, qN] at hc6
       refine B_skip (K_seq (B_seq (B_seq ?_)))
       have hb := bad0 (by assumption) (by omega) (by assumption)
       have hpk : pck (pA raw) = 0 := by assumption
       refine B_region ?_
       refine Lo uS14n103 (wS14n5 rfl rfl rfl rfl rfl) ?_
       refine Lo uS14n103 (v_move (.inl rfl) rfl) ?_
       refine L_call rfl rfl rfl (by exact Flaws_spec _ (pA raw) (uA raw) (pA_L raw) (by omega)) ?_
       rintro _ _ ⟨rfl, rfl⟩
       refine Le uS14n103 ?_
       refine Lo uS14n103 (v_move (.inl rfl) rfl) ?_
       refine Lo uS14n103 (rfl) ?_
       refine Lo uS14n103 (rfl) ?_
       refine Lo uS14n103 (v_move (.inr rfl) rfl) ?_
       refine Lo uS14n103 (v_move (.inr rfl) rfl) ?_
       refine L_nil (K_seq (B_seq (B_region ?_)))
       refine Lo uS14n103 (v_move (.inl rfl) rfl) ?_
       refine Lo uS14n103 (rfl) ?_
       refine Lo uS14n103 (rfl) ?_
       refine L_nil (K_seq ?_)
       refine B_cond _ rfl (fun hc7 => ?_) (fun hc7 => ?_)
       ·try simp only [qB, qN] at hc7
        refine B_seq (B_region ?_)
        refine Lo uS14n103 (rfl) ?_
        refine Lo uS14n103 (wS14n0 rfl rfl rfl rfl rfl rfl rfl) ?_
        refine Lo uS14n103 (v_const (VVal.slice none 0 0 true 0) (.inr rfl) rfl) ?_
        refine Lo uS14n103 (v_const (VVal.int .i64 52) (.inr rfl) rfl) ?_
        refine L_nil (K_seq ?_)
        refine B_heap (List.append_assoc _ _ _) ?_
        refine B_gh (Gh.cellNilL 0 1 (es' := 1) rfl rfl) ?_
        refine B_gh (Gh.cellNilL 0 2 (es' := 1) rfl rfl) ?_
        refine B_gh (Gh.cellNilL 0 3 (es' := 3) rfl rfl) ?_
        refine B_gh (Gh.freezeNil 3 (es' := 1) rfl rfl) ?_
        have hne := flA_pos hpk (by assumption)
        refine B_ret (K_seqR ?_)
        refine wS14n3 (.inr rfl) (vres_cAtt rfl rfl rfl rfl (by first | exact get_app rfl rfl | exact get_out (by assumption) | exact getE0 rfl rfl | exact get_out (get_app rfl rfl) | exact get_app rfl (by assumption) | assumption | (simp only [List.append_assoc, List.singleton_append, List.cons_append, List.nil_append]; refine getE (i := 0) rfl ?_ rfl; simp; done) | (simp only [List.append_assoc, List.singleton_append, List.cons_append, List.nil_append]; refine getE (i := 1) rfl ?_ rfl; simp; done) | (simp only [List.append_assoc, List.singleton_append, List.cons_append, List.nil_append]; refine getE (i := 2) rfl ?_ rfl; simp; done) | (simp only [List.append_assoc, List.singleton_append, List.cons_append, List.nil_append]; refine getE (i := 3) rfl ?_ rfl; simp; done) | (simp [*]; done)) (by first | rfl | assumption | exact fget (α := BitVec 64) 0 (by omega) | exact fget (α := Int) 0 (by omega) | exact fget0 (α := BitVec 64) 0 (by omega) | exact fget0 (α := Int) 0 (by omega) | exact fget (α := Bool) false (by omega) | exact fget0 (α := Bool) false (by omega) | (simp [*]; done)) rfl rfl) ?_
        exact wS14n4
       ·try simp only [qB, qN] at hc7
        refine B_skip (K_seq (B_seq (B_region ?_)))
        refine Lo uS14n103 (wS14n5 rfl rfl rfl rfl rfl) ?_
        refine Lo uS14n103 (v_move (.inl rfl) rfl) ?_
        refine Lo uS14n103 (wS14n0 rfl rfl rfl rfl rfl rfl rfl) ?_
        refine Lo uS14n103 (v_move (.inr rfl) rfl) ?_
        refine Lo uS14n103 (v_const (VVal.int .i64 0) (.inr rfl) rfl) ?_
        refine L_nil (K_seq ?_)
        refine B_heap (List.append_assoc _ _ _) ?_
        have hfl : flw (pA raw) (uA raw) = [] := flA_len0 hpk (by omega)
        refine B_ret ?_
        refine wS14n3 (.inr rfl) (vres_cAtt rfl rfl rfl rfl (by first | exact get_app rfl rfl | exact get_out (by assumption) | exact getE0 rfl rfl | exact get_out (get_app rfl rfl) | exact get_app rfl (by assumption) | assumption | (simp only [List.append_assoc, List.singleton_append, List.cons_append, List.nil_append]; refine getE (i := 0) rfl ?_ rfl; simp; done) | (simp only [List.append_assoc, List.singleton_append, List.cons_append, List.nil_append]; refine getE (i := 1) rfl ?_ rfl; simp; done) | (simp only [List.append_assoc, List.singleton_append, List.cons_append, List.nil_append]; refine getE (i := 2) rfl ?_ rfl; simp; done) | (simp only [List.append_assoc, List.singleton_append, List.cons_append, List.nil_append]; refine getE (i := 3) rfl ?_ rfl; simp; done) | (simp [*]; done)) (by first | rfl | assumption | exact fget (α := BitVec 64) 0 (by omega) | exact fget (α := Int) 0 (by omega) | exact fget0 (α := BitVec 64) 0 (by omega) | exact fget0 (α := Int) 0 (by omega) | exact fget (α := Bool) false (by omega) | exact fget0 (α := Bool) false (by omega) | (simp [*]; done)) rfl rfl) ?_
        exact wS14n4
end Go.Proofs.Ytbngdhlmggdaaaa.VT

set_option autoImplicit false
set_option linter.unusedVariables false
set_option linter.unusedSimpArgs false
set_option maxHeartbeats 4000000
set_option maxRecDepth 100000
namespace Go.Proofs.Ytbngdhlmggdaaaa.VT
open Go Go.V Go.RowKit

abbrev uS17n11 {a0 a1 a2 a3 a4 a5 a6 a7 a8 a9 a10 : VVal} : VEnv := a0 :: a1 :: a2 :: a3 :: a4 :: a5 :: a6 :: a7 :: a8 :: a9 :: a10 :: []
abbrev uS17n24 {a0 a1 a2 a3 a4 a5 a6 a7 a8 a9 a10 a11 a12 a13 a14 a15 a16 a17 a18 a19 a20 a21 a22 a23 : VVal} : VEnv := a0 :: a1 :: a2 :: a3 :: a4 :: a5 :: a6 :: a7 :: a8 :: a9 :: a10 :: a11 :: a12 :: a13 :: a14 :: a15 :: a16 :: a17 :: a18 :: a19 :: a20 :: a21 :: a22 :: a23 :: []
abbrev uS17n26 {a0 a1 a2 a3 a4 a5 a6 a7 a8 a9 a10 a11 a12 a13 a14 a15 a16 a17 a18 a19 a20 a21 a22 a23 a24 a25 : VVal} : VEnv := a0 :: a1 :: a2 :: a3 :: a4 :: a5 :: a6 :: a7 :: a8 :: a9 :: a10 :: a11 :: a12 :: a13 :: a14 :: a15 :: a16 :: a17 :: a18 :: a19 :: a20 :: a21 :: a22 :: a23 :: a24 :: a25 :: []
abbrev uS17n27 {a0 a1 a2 a3 a4 a5 a6 a7 a8 a9 a10 a11 a12 a13 a14 a15 a16 a17 a18 a19 a20 a21 a22 a23 a24 a25 a26 : VVal} : VEnv := a0 :: a1 :: a2 :: a3 :: a4 :: a5 :: a6 :: a7 :: a8 :: a9 :: a10 :: a11 :: a12 :: a13 :: a14 :: a15 :: a16 :: a17 :: a18 :: a19 :: a20 :: a21 :: a22 :: a23 :: a24 :: a25 :: a26 :: []
abbrev uS17n31 {a0 a1 a2 a3 a4 a5 a6 a7 a8 a9 a10 a11 a12 a13 a14 a15 a16 a17 a18 a19 a20 a21 a22 a23 a24 a25 a26 a27 a28 a29 a30 : VVal} : VEnv := a0 :: a1 :: a2 :: a3 :: a4 :: a5 :: a6 :: a7 :: a8 :: a9 :: a10 :: a11 :: a12 :: a13 :: a14 :: a15 :: a16 :: a17 :: a18 :: a19 :: a20 :: a21 :: a22 :: a23 :: a24 :: a25 :: a26 :: a27 :: a28 :: a29 :: a30 :: []

theorem wS17n0 {S : V.Sys} {H : VHeap} {fn : Func} {ex : Exit} {env : VEnv} {B L : VHeap} {v : VVal} {R : VVal → VHeap → Prop} (hx : ex = .normal ∨ ex = .ret) (hv : vresults S.C.T env (B ++ L) fn.results = some v) (h : R v B) (hB : BaseOk H B := by first | exact BaseOk.refl _ | exact BaseOk.set (BaseOk.refl _) _ rfl) (hu : v.under H.length = true := by first | rfl | simp [VVal.under, VVal.underL, *]) : fnK S fn H R ex env (B ++ L) := E_app hx hv hB hu h
theorem wS17n1 {T : TypeId → Option VTy} {H : VHeap} {op : Op} {ρ : Operand → VVal} {t e : TypeId} {x i : Operand} {y z : VTy} {k : IntKind} {n : Int} {p v : VVal} {es : Nat} (ho : op = .indexAddr t x i) (hx : ρ x = p) (hi : ρ i = .int k n) (hy : T t = some y) (hd : y.desc = .slice e) (hz : T e = some z) (hs : z.size = es) (h : IxOk p es n v := by first | exact .inl ⟨_, _, _, rfl, by first | assumption | omega | (simp [*]; done) | (simp at *; omega), rfl⟩ | exact .inr ⟨_, _, _, _, _, rfl, by first | assumption | omega | (simp [*]; done) | (simp at *; omega), rfl⟩) : vop T ρ H op = some (v, H) := v_ix ho hx hi hy hd hz hs h
theorem wS17n2 {T : TypeId → Option VTy} {H : VHeap} {op : Op} {ρ : Operand → VVal} {t : TypeId} {a : Operand} {y : VTy} {p v : VVal} (ho : op = .load t a) (ha : ρ a = p) (hy : T t = some y) (hd : isAggDesc y.desc = false) (h : LdOk H p v := by first | exact .inl ⟨_, _, rfl, by first | rfl | exact fgetN (α := Int) 0 (by omega)⟩ | exact .inr ⟨_, _, _, _, rfl, by first | exact get_app rfl rfl | exact get_out (by assumption) | exact getE0 rfl rfl | exact get_out (get_app rfl rfl) | exact get_app rfl (by assumption) | assumption | (simp only [List.append_assoc, List.singleton_append, List.cons_append, List.nil_append]; refine getE (i := 0) rfl ?_ rfl; simp; done) | (simp only [List.append_assoc, List.singleton_append, List.cons_append, List.nil_append]; refine getE (i := 1) rfl ?_ rfl; simp; done) | (simp only [List.append_assoc, List.singleton_append, List.cons_append, List.nil_append]; refine getE (i := 2) rfl ?_ rfl; simp; done) | (simp only [List.append_assoc, List.singleton_append, List.cons_append, List.nil_append]; refine getE (i := 3) rfl ?_ rfl; simp; done) | (simp [*]; done), by first | rfl | exact fgetN (α := Int) 0 (by omega)⟩) : vop T ρ H op = some (v, H) := v_ld ho ha hy hd h
theorem wS17n3 {T : TypeId → Option VTy} {H : VHeap} {op : Op} {ρ : Operand → VVal} {t ty : TypeId} {x y : Operand} {n m : Int} (ho : op = .binOp .add t x y ty) (hx : ρ x = .int .i64 n) (hy : ρ y = .int .i64 m) (h : -9223372036854775808 ≤ n + m ∧ n + m < 9223372036854775808 := by first | assumption | omega | (simp [*]; done) | (simp at *; omega)) : vop T ρ H op = some (.int .i64 (n + m), H) := v_addI ho hx hy h
theorem wS17n4 {T : TypeId → Option VTy} {H : VHeap} {op : Op} {ρ : Operand → VVal} {t : TypeId} {a : Operand} {y : VTy} {p v : VVal} (ho : op = .load t a) (ha : ρ a = p) (hy : T t = some y) (hd : isAggDesc y.desc = false) (h : LdOk H p v := by first | exact .inl ⟨_, _, rfl, by first | rfl | exact fgetN (α := BitVec 64) 0 (by omega)⟩ | exact .inr ⟨_, _, _, _, rfl, by first | exact get_app rfl rfl | exact get_out (by assumption) | exact getE0 rfl rfl | exact get_out (get_app rfl rfl) | exact get_app rfl (by assumption) | assumption | (simp only [List.append_assoc, List.singleton_append, List.cons_append, List.nil_append]; refine getE (i := 0) rfl ?_ rfl; simp; done) | (simp only [List.append_assoc, List.singleton_append, List.cons_append, List.nil_append]; refine getE (i := 1) rfl ?_ rfl; simp; done) | (simp only [List.append_assoc, List.singleton_append, List.cons_append, List.nil_append]; refine getE (i := 2) rfl ?_ rfl; simp; done) | (simp only [List.append_assoc, List.singleton_append, List.cons_append, List.nil_append]; refine getE (i := 3) rfl ?_ rfl; simp; done) | (simp [*]; done), by first | rfl | exact fgetN (α := BitVec 64) 0 (by omega)⟩) : vop T ρ H op = some (v, H) := v_ld ho ha hy hd h
theorem wS17n5 {T : TypeId → Option VTy} {H : VHeap} {op : Op} {ρ : Operand → VVal} {t : TypeId} {a : Operand} {y : VTy} {p v : VVal} (ho : op = .load t a) (ha : ρ a = p) (hy : T t = some y) (hd : isAggDesc y.desc = false) (h : LdOk H p v := by first | exact .inl ⟨_, _, rfl, by first | rfl | assumption | exact fget (α := BitVec 64) 0 (by omega) | exact fget (α := Int) 0 (by omega) | exact fget0 (α := BitVec 64) 0 (by omega) | exact fget0 (α := Int) 0 (by omega) | exact fget (α := Bool) false (by omega) | exact fget0 (α := Bool) false (by omega) | (simp [*]; done)⟩ | exact .inr ⟨_, _, _, _, rfl, by first | exact get_app rfl rfl | exact get_out (by assumption) | exact getE0 rfl rfl | exact get_out (get_app rfl rfl) | exact get_app rfl (by assumption) | assumption | (simp only [List.append_assoc, List.singleton_append, List.cons_append, List.nil_append]; refine getE (i := 0) rfl ?_ rfl; simp; done) | (simp only [List.append_assoc, List.singleton_append, List.cons_append, List.nil_append]; refine getE (i := 1) rfl ?_ rfl; simp; done) | (simp only [List.append_assoc, List.singleton_append, List.cons_append, List.nil_append]; refine getE (i := 2) rfl ?_ rfl; simp; done) | (simp only [List.append_assoc, List.singleton_append, List.cons_append, List.nil_append]; refine getE (i := 3) rfl ?_ rfl; simp; done) | (simp [*]; done), by first | rfl | assumption | exact fget (α := BitVec 64) 0 (by omega) | exact fget (α := Int) 0 (by omega) | exact fget0 (α := BitVec 64) 0 (by omega) | exact fget0 (α := Int) 0 (by omega) | exact fget (α := Bool) false (by omega) | exact fget0 (α := Bool) false (by omega) | (simp [*]; done)⟩) : vop T ρ H op = some (v, H) := v_ld ho ha hy hd h
theorem wS17n6 {P : Prop} (h : P := by first | exact (decide_eq_false (fun e => by subst e; first | exact absurd rfl (by assumption) | simp at *)).symm | exact decide_eq_decide.2 (by obtain ⟨a1, a2, a3, ⟨⟩⟩ := a; obtain ⟨b1, b2, b3, ⟨⟩⟩ := b; simp_all [Rul.kind, Rul.k, Rul.steps])) : P := h
theorem wS17n7 {T : TypeId → Option VTy} {H : VHeap} {op : Op} {ρ : Operand → VVal} {t : TypeId} {a : Operand} {y : VTy} {p : VVal} {n : Nat} {vs : List VVal} (ho : op = .load t a) (ha : ρ a = p) (hy : T t = some y) (hd : isAggDesc y.desc = true) (hn : y.size = n) (h : LdOkA H p n vs := by first | exact .inl ⟨_, _, rfl, by first | rfl | exact rul_at (by omega)⟩ | exact .inr ⟨_, _, _, _, rfl, by first | exact get_app rfl rfl | exact get_out (by assumption) | exact getE0 rfl rfl | exact get_out (get_app rfl rfl) | exact get_app rfl (by assumption) | assumption | (simp only [List.append_assoc, List.singleton_append, List.cons_append, List.nil_append]; refine getE (i := 0) rfl ?_ rfl; simp; done) | (simp only [List.append_assoc, List.singleton_append, List.cons_append, List.nil_append]; refine getE (i := 1) rfl ?_ rfl; simp; done) | (simp only [List.append_assoc, List.singleton_append, List.cons_append, List.nil_append]; refine getE (i := 2) rfl ?_ rfl; simp; done) | (simp only [List.append_assoc, List.singleton_append, List.cons_append, List.nil_append]; refine getE (i := 3) rfl ?_ rfl; simp; done) | (simp [*]; done), by first | rfl | exact rul_at (by omega)⟩) : vop T ρ H op = some (.agg vs, H) := v_ldA ho ha hy hd hn h
theorem wS17n8 {P : Prop} (h : P := by first | exact (decide_eq_false (fun e => by subst e; first | exact absurd rfl (by assumption) | simp at *)).symm | exact decide_eq_decide.2 (by obtain ⟨a1, a2, a3, a4, ⟨⟩⟩ := p; obtain ⟨b1, b2, b3, b4, ⟨⟩⟩ := q; simp_all [Pb.users, Pb.who, Pb.fixed, Pb.rules])) : P := h

theorem fewP_spec {x : SW} (H : VHeap) (l : List UInt8) : F (psys x) 18 [fzB l] H fun v G => v = .slice (some (H.length, 0)) (l.take 2000).length (l.take 2000).length (decide ((l.take 2000).length = 0)) 1 ∧ G = H ++ [.cells ((l.take 2000).map iB) true] := by
 refine F_body Try.func18 rfl uS17n11 rfl ?_
 refine B_seq (B_region ?_)
 refine Lo uS17n11 (v_const (VVal.slice none 0 0 true 0) (.inr rfl) rfl) ?_
 refine L_nil (K_seq (B_seq (B_seq (B_region ?_))))
 refine Lo uS17n11 (v_move (.inl rfl) rfl) ?_
 refine Lo uS17n11 (rfl) ?_
 refine Lo uS17n11 (rfl) ?_
 refine L_nil (K_seq ?_)
 refine B_cond _ rfl (fun hc1 => ?_) (fun hc1 => ?_)
 ·try simp only [qB] at hc1
  refine B_region ?_
  refine Lo uS17n11 (v_move (.inl rfl) rfl) ?_
  refine Lo uS17n11 (v_bHi (k := 2000) rfl rfl rfl rfl rfl rfl rfl (by omega)) ?_
  refine Lo uS17n11 (v_move (.inr rfl) rfl) ?_
  refine L_nil (K_seq (B_seq (B_region ?_)))
  have h30 : (l.take 2000).length ≤ 2000 := by rw [List.length_take]; omega
  try rw [show fzB l = fzB (l.take 2000) by rw [List.take_of_length_le (by omega)]]
  refine Lo uS17n11 (v_buildSlice rfl rfl (by decide) rfl) ?_
  refine Lo uS17n11 (v_move (.inl rfl) rfl) ?_
  refine L_opX rfl rfl (v_appE (k := (l.take 2000).length) rfl rfl rfl rfl rfl rfl rfl rfl (by rw [List.length_map]; exact (Nat.mul_one _).symm) (mapB_one _) (by decide) (by show (l.take 2000).length * 1 ≤ _ ∧ (l.take 2000).length ≤ _; omega)) ?_
  rintro _ _ ⟨Z, i, rfl, rfl, hi⟩
  refine Le uS17n11 ?_
  refine Lo uS17n11 (v_move (.inr rfl) rfl) ?_
  refine L_nil (K_seq (B_ret ?_))
  refine E_gh (.inr rfl) (vres_tmp rfl rfl) (Gh.pack (BaseOk.refl _) hi (mapB_under _ _)) ?_
  exact ⟨rfl, rfl⟩
 ·try simp only [qB] at hc1
  refine B_skip (K_seq (B_seq (B_region ?_)))
  have h30 : (l.take 2000).length ≤ 2000 := by rw [List.length_take]; omega
  try rw [show fzB l = fzB (l.take 2000) by rw [List.take_of_length_le (by omega)]]
  refine Lo uS17n11 (v_buildSlice rfl rfl (by decide) rfl) ?_
  refine Lo uS17n11 (v_move (.inl rfl) rfl) ?_
  refine L_opX rfl rfl (v_appE (k := (l.take 2000).length) rfl rfl rfl rfl rfl rfl rfl rfl (by rw [List.length_map]; exact (Nat.mul_one _).symm) (mapB_one _) (by decide) (by show (l.take 2000).length * 1 ≤ _ ∧ (l.take 2000).length ≤ _; omega)) ?_
  rintro _ _ ⟨Z, i, rfl, rfl, hi⟩
  refine Le uS17n11 ?_
  refine Lo uS17n11 (v_move (.inr rfl) rfl) ?_
  refine L_nil (K_seq (B_ret ?_))
  refine E_gh (.inr rfl) (vres_tmp rfl rfl) (Gh.pack (BaseOk.refl _) hi (mapB_under _ _)) ?_
  exact ⟨rfl, rfl⟩

theorem few_spec {x : SW} (H : VHeap) (l : List UInt8) : F (psys x) 18 [fzB l] H fun v G => v = fzB (l.take 2000) ∧ G = H :=
  F.gh (fewP_spec H l) fun v G h => by
    obtain ⟨rfl, rfl⟩ := h
    exact ⟨_, _, Gh.fsl (j := 0) (BaseOk.refl H) rfl map_all (Nat.le_refl _) (mapB_under _ _), rfl, rfl⟩

theorem kInts_spec {x : SW} (H : VHeap) (l r : List (Int)) (h1 : l.length ≤ 1000000) : F (psys x) 21 [fzI l, fzI r] H fun v G => v = .bool (decide (l = r)) ∧ G = H := by
 refine F_body Try.func21 rfl uS17n26 rfl ?_
 refine B_seq (B_region ?_)
 refine Lo uS17n26 (v_const (VVal.bool false) (.inr rfl) rfl) ?_
 refine L_nil (K_seq (B_seq (B_seq (B_region ?_))))
 refine Lo uS17n26 (v_move (.inl rfl) rfl) ?_
 refine Lo uS17n26 (rfl) ?_
 refine Lo uS17n26 (v_move (.inl rfl) rfl) ?_
 refine Lo uS17n26 (rfl) ?_
 refine Lo uS17n26 (rfl) ?_
 refine L_nil (K_seq ?_)
 refine B_cond _ rfl (fun hc1 => ?_) (fun hc1 => ?_)
 ·try simp only [qB, qN] at hc1
  refine B_seq (B_region ?_)
  refine Lo uS17n26 (v_const (VVal.bool false) (.inr rfl) rfl) ?_
  refine L_nil (K_seq (B_ret (K_seqR ?_)))
  refine wS17n0 (.inr rfl) (vres_tmp rfl rfl) ?_
  exact ⟨by rw [decide_eq_false (fun e => by rw [e] at hc1; omega)], rfl⟩
 ·try simp only [qB, qN] at hc1
  refine B_skip (K_seq (B_seq (B_seq (B_region ?_))))
  refine Lo uS17n26 (v_const (VVal.int .i64 0) (.inr rfl) rfl) ?_
  refine L_nil (K_seq (B_block ?_))
  refine B_clear (mk 26 67108828) (env' := uS17n26) rfl ?_
  refine B_loopE (fun (k : Nat) => l.length - k) (fun (k : Nat) => [(5, iI (k : Nat))]) (fun (k : Nat) G => (k ≤ l.length ∧ ∀ j, j < k → l.getD j 0 = r.getD j 0) ∧ G = H ++ []) 0 rfl ?_ ?_
  ·refine ⟨?_, rfl⟩
   exact ⟨Nat.zero_le _, fun j h => by omega⟩
  rintro k _ ⟨⟨hk, hall⟩, rfl⟩
  refine B_env (env' := uS17n26) rfl ?_
  refine B_seq (B_seq (B_region ?_))
  refine Lo uS17n26 (v_move (.inl rfl) rfl) ?_
  refine Lo uS17n26 (v_move (.inl rfl) rfl) ?_
  refine Lo uS17n26 (rfl) ?_
  refine Lo uS17n26 (rfl) ?_
  refine L_nil (K_seq ?_)
  refine B_cond _ rfl (fun hc2 => ?_) (fun hc2 => ?_)
  ·try simp only [qB, qN] at hc2
   refine B_skip (K_seq (B_seq (B_block (B_seq ?_))))
   refine B_draw [0, 1, 2, 3, 4, 5, 6, 7, 8] #[0, 0, 3, 7, 0, 0, 48, 112, 255] (by kernel_rfl) (by kernel_rfl) (by kernel_rfl) ?_
   refine Oo uS17n26 .calm rfl (v_move (.inl rfl) rfl) ?_
   refine Oo uS17n26 .calm rfl (v_move (.inl rfl) rfl) ?_
   refine Oo uS17n26 .calm rfl (wS17n1 rfl rfl rfl rfl rfl rfl rfl) ?_
   refine Oo uS17n26 .look rfl (wS17n2 rfl rfl rfl rfl) ?_
   refine Oo uS17n26 .calm rfl (v_move (.inl rfl) rfl) ?_
   refine Oo uS17n26 .calm rfl (v_move (.inl rfl) rfl) ?_
   refine Oo uS17n26 .calm rfl (wS17n1 rfl rfl rfl rfl rfl rfl rfl) ?_
   refine Oo uS17n26 .look rfl (wS17n2 rfl rfl rfl rfl) ?_
   refine Oo uS17n26 .calm rfl (rfl) ?_
   refine O_nil [] (by kernel_rfl) (trivial) ?_
   refine K_seq ?_
   refine B_cond _ rfl (fun hc3 => ?_) (fun hc3 => ?_)
   ·try simp only [qB, qN] at hc3
    refine B_seq (B_region ?_)
    refine Lo uS17n26 (v_const (VVal.bool false) (.inr rfl) rfl) ?_
    refine L_nil (K_seq (B_ret (K_blkR (K_seqR (K_loopR (K_blkR (K_seqR ?_)))))))
    refine wS17n0 (.inr rfl) (vres_tmp rfl rfl) ?_
    exact ⟨by rw [decide_eq_false (fun e => by subst e; exact hc3 rfl)], rfl⟩
   ·try simp only [qB, qN] at hc3
    refine B_skip (K_blk (K_seq (B_region ?_)))
    refine Lo uS17n26 (v_move (.inl rfl) rfl) ?_
    refine Lo uS17n26 (wS17n3 rfl rfl rfl) ?_
    refine Lo uS17n26 (v_move (.inr rfl) rfl) ?_
    refine L_nil ?_
    refine K_loop (mk 26 67108828) (env' := uS17n26) rfl ⟨k + 1, ?_, rfl, ?_⟩
    ·first | omega | (simp only []; omega)
    ·exact ⟨⟨by omega, fun j hj => by by_cases e : j = k; (subst e; assumption); exact hall j (by omega)⟩, rfl⟩
  ·try simp only [qB, qN] at hc2
   refine B_exit (K_seqX (K_loopX (K_blkX (K_seq (B_seq (B_region ?_))))))
   refine Lo uS17n26 (v_const (VVal.bool true) (.inr rfl) rfl) ?_
   refine L_nil (K_seq (B_ret ?_))
   refine wS17n0 (.inr rfl) (vres_tmp rfl rfl) ?_
   have e := eq_getD (d := 0) (by omega) (fun j hj => hall j (by omega))
   exact ⟨by rw [decide_eq_true e], rfl⟩

theorem kRows_spec {x : SW} (H : VHeap) (l r : List (BitVec 64)) (h1 : l.length ≤ 1000000) : F (psys x) 43 [fzW l, fzW r] H fun v G => v = .bool (decide (l = r)) ∧ G = H := by
 refine F_body Try.func43 rfl uS17n26 rfl ?_
 refine B_seq (B_region ?_)
 refine Lo uS17n26 (v_const (VVal.bool false) (.inr rfl) rfl) ?_
 refine L_nil (K_seq (B_seq (B_seq (B_region ?_))))
 refine Lo uS17n26 (v_move (.inl rfl) rfl) ?_
 refine Lo uS17n26 (rfl) ?_
 refine Lo uS17n26 (v_move (.inl rfl) rfl) ?_
 refine Lo uS17n26 (rfl) ?_
 refine Lo uS17n26 (rfl) ?_
 refine L_nil (K_seq ?_)
 refine B_cond _ rfl (fun hc1 => ?_) (fun hc1 => ?_)
 ·try simp only [qB, qN] at hc1
  refine B_seq (B_region ?_)
  refine Lo uS17n26 (v_const (VVal.bool false) (.inr rfl) rfl) ?_
  refine L_nil (K_seq (B_ret (K_seqR ?_)))
  refine wS17n0 (.inr rfl) (vres_tmp rfl rfl) ?_
  exact ⟨by rw [decide_eq_false (fun e => by rw [e] at hc1; omega)], rfl⟩
 ·try simp only [qB, qN] at hc1
  refine B_skip (K_seq (B_seq (B_seq (B_region ?_))))
  refine Lo uS17n26 (v_const (VVal.int .i64 0) (.inr rfl) rfl) ?_
  refine L_nil (K_seq (B_block ?_))
  refine B_clear (mk 26 67108828) (env' := uS17n26) rfl ?_
  refine B_loopE (fun (k : Nat) => l.length - k) (fun (k : Nat) => [(5, iI (k : Nat))]) (fun (k : Nat) G => (k ≤ l.length ∧ ∀ j, j < k → l.getD j 0 = r.getD j 0) ∧ G = H ++ []) 0 rfl ?_ ?_
  ·refine ⟨?_, rfl⟩
   exact ⟨Nat.zero_le _, fun j h => by omega⟩
  rintro k _ ⟨⟨hk, hall⟩, rfl⟩
  refine B_env (env' := uS17n26) rfl ?_
  refine B_seq (B_seq (B_region ?_))
  refine Lo uS17n26 (v_move (.inl rfl) rfl) ?_
  refine Lo uS17n26 (v_move (.inl rfl) rfl) ?_
  refine Lo uS17n26 (rfl) ?_
  refine Lo uS17n26 (rfl) ?_
  refine L_nil (K_seq ?_)
  refine B_cond _ rfl (fun hc2 => ?_) (fun hc2 => ?_)
  ·try simp only [qB, qN] at hc2
   refine B_skip (K_seq (B_seq (B_block (B_seq ?_))))
   refine B_draw [0, 1, 2, 3, 4, 5, 6, 7, 8] #[0, 0, 3, 7, 0, 0, 48, 112, 255] (by kernel_rfl) (by kernel_rfl) (by kernel_rfl) ?_
   refine Oo uS17n26 .calm rfl (v_move (.inl rfl) rfl) ?_
   refine Oo uS17n26 .calm rfl (v_move (.inl rfl) rfl) ?_
   refine Oo uS17n26 .calm rfl (wS17n1 rfl rfl rfl rfl rfl rfl rfl) ?_
   refine Oo uS17n26 .look rfl (wS17n4 rfl rfl rfl rfl) ?_
   refine Oo uS17n26 .calm rfl (v_move (.inl rfl) rfl) ?_
   refine Oo uS17n26 .calm rfl (v_move (.inl rfl) rfl) ?_
   refine Oo uS17n26 .calm rfl (wS17n1 rfl rfl rfl rfl rfl rfl rfl) ?_
   refine Oo uS17n26 .look rfl (wS17n4 rfl rfl rfl rfl) ?_
   refine Oo uS17n26 .calm rfl (rfl) ?_
   refine O_nil [] (by kernel_rfl) (trivial) ?_
   refine K_seq ?_
   refine B_cond _ rfl (fun hc3 => ?_) (fun hc3 => ?_)
   ·try simp only [qB, qN] at hc3
    refine B_seq (B_region ?_)
    refine Lo uS17n26 (v_const (VVal.bool false) (.inr rfl) rfl) ?_
    refine L_nil (K_seq (B_ret (K_blkR (K_seqR (K_loopR (K_blkR (K_seqR ?_)))))))
    refine wS17n0 (.inr rfl) (vres_tmp rfl rfl) ?_
    exact ⟨by rw [decide_eq_false (fun e => by subst e; exact hc3 rfl)], rfl⟩
   ·try simp only [qB, qN] at hc3
    refine B_skip (K_blk (K_seq (B_region ?_)))
    refine Lo uS17n26 (v_move (.inl rfl) rfl) ?_
    refine Lo uS17n26 (wS17n3 rfl rfl rfl) ?_
    refine Lo uS17n26 (v_move (.inr rfl) rfl) ?_
    refine L_nil ?_
    refine K_loop (mk 26 67108828) (env' := uS17n26) rfl ⟨k + 1, ?_, rfl, ?_⟩
    ·first | omega | (simp only []; omega)
    ·exact ⟨⟨by omega, fun j hj => by by_cases e : j = k; (subst e; assumption); exact hall j (by omega)⟩, rfl⟩
  ·try simp only [qB, qN] at hc2
   refine B_exit (K_seqX (K_loopX (K_blkX (K_seq (B_seq (B_region ?_))))))
   refine Lo uS17n26 (v_const (VVal.bool true) (.inr rfl) rfl) ?_
   refine L_nil (K_seq (B_ret ?_))
   refine wS17n0 (.inr rfl) (vres_tmp rfl rfl) ?_
   have e := eq_getD (d := 0) (by omega) (fun j hj => hall j (by omega))
   exact ⟨by rw [decide_eq_true e], rfl⟩

theorem kRule_spec {x : SW} (H : VHeap) (a b : Rul) (h1 : a.steps.length ≤ 1000000) : F (psys x) 45 [.agg (rlB a), .agg (rlB b)] H fun v G => v = .bool (decide (a = b)) ∧ G = H := by
 refine F_body Try.func45 rfl uS17n24 rfl ?_
 refine B_seq (B_region ?_)
 refine Lo uS17n24 (v_boxT rfl rfl rfl) ?_
 refine Lo uS17n24 (v_boxT rfl rfl rfl) ?_
 refine Lo uS17n24 (v_const (VVal.bool false) (.inr rfl) rfl) ?_
 refine L_nil (K_seq (B_seq (B_region ?_)))
 refine Lo uS17n24 (rfl) ?_
 refine Lo uS17n24 (wS17n5 rfl rfl rfl rfl) ?_
 refine Lo uS17n24 (rfl) ?_
 refine Lo uS17n24 (wS17n5 rfl rfl rfl rfl) ?_
 refine Lo uS17n24 (rfl) ?_
 refine Lo uS17n24 (v_move (.inl rfl) rfl) ?_
 refine L_split 10 (env1 := uS17n24) (env2 := uS17n24) rfl rfl rfl (fun hg1 => ?_) (fun hg1 => ?_)
 ·try simp only [qB] at hg1
  refine Lo uS17n24 (rfl) ?_
  refine Lo uS17n24 (wS17n5 rfl rfl rfl rfl) ?_
  refine Lo uS17n24 (rfl) ?_
  refine Lo uS17n24 (wS17n5 rfl rfl rfl rfl) ?_
  refine Lo uS17n24 (rfl) ?_
  refine Lo uS17n24 (v_pickT rfl rfl rfl) ?_
  refine Lo uS17n24 (v_move (.inl rfl) rfl) ?_
  refine L_split 17 (env1 := uS17n24) (env2 := uS17n24) rfl rfl rfl (fun hg2 => ?_) (fun hg2 => ?_)
  ·try simp only [qB] at hg2
   refine Lo uS17n24 (rfl) ?_
   refine Lo uS17n24 (wS17n5 rfl rfl rfl rfl) ?_
   refine Lo uS17n24 (rfl) ?_
   refine Lo uS17n24 (wS17n5 rfl rfl rfl rfl) ?_
   refine L_call rfl rfl rfl (by exact kInts_spec _ _ _ h1) ?_
   rintro _ _ ⟨rfl, rfl⟩
   refine Le uS17n24 ?_
   refine Lo uS17n24 (v_pickT rfl rfl rfl) ?_
   refine Lo uS17n24 (v_move (.inr rfl) rfl) ?_
   refine L_nil (K_seq (B_ret ?_))
   refine wS17n0 (.inr rfl) (vres_tmp rfl rfl) ?_
   refine ⟨congrArg VVal.bool ?_, rfl⟩
   exact wS17n6
  ·try simp only [qB] at hg2
   refine Lf uS17n24 ?_
   refine Lf uS17n24 ?_
   refine Lf uS17n24 ?_
   refine Lf uS17n24 ?_
   refine Lf uS17n24 ?_
   refine Lo uS17n24 (v_pickFC (VVal.bool false) rfl rfl rfl) ?_
   refine Lo uS17n24 (v_move (.inr rfl) rfl) ?_
   refine L_nil (K_seq (B_ret ?_))
   refine wS17n0 (.inr rfl) (vres_tmp rfl rfl) ?_
   refine ⟨congrArg VVal.bool ?_, rfl⟩
   exact wS17n6
 ·try simp only [qB] at hg1
  refine Lf uS17n24 ?_
  refine Lf uS17n24 ?_
  refine Lf uS17n24 ?_
  refine Lf uS17n24 ?_
  refine Lf uS17n24 ?_
  refine Lo uS17n24 (v_pickFC (VVal.bool false) rfl rfl rfl) ?_
  refine Lo uS17n24 (v_move (.inl rfl) rfl) ?_
  refine Lf uS17n24 ?_
  refine Lf uS17n24 ?_
  refine Lf uS17n24 ?_
  refine Lf uS17n24 ?_
  refine Lf uS17n24 ?_
  refine Lo uS17n24 (v_pickFC (VVal.bool false) rfl rfl rfl) ?_
  refine Lo uS17n24 (v_move (.inr rfl) rfl) ?_
  refine L_nil (K_seq (B_ret ?_))
  refine wS17n0 (.inr rfl) (vres_tmp rfl rfl) ?_
  refine ⟨congrArg VVal.bool ?_, rfl⟩
  exact wS17n6

theorem kRules_spec {x : SW} (H : VHeap) (l r : List Rul) (h1 : l.length ≤ 1000000) (h2 : ∀ r, r ∈ l → r.steps.length ≤ 1000000) : F (psys x) 25 [fzR l, fzR r] H fun v G => v = .bool (decide (l = r)) ∧ G = H := by
 refine F_body Try.func25 rfl uS17n27 rfl ?_
 refine B_seq (B_region ?_)
 refine Lo uS17n27 (v_const (VVal.bool false) (.inr rfl) rfl) ?_
 refine L_nil (K_seq (B_seq (B_seq (B_region ?_))))
 refine Lo uS17n27 (v_move (.inl rfl) rfl) ?_
 refine Lo uS17n27 (rfl) ?_
 refine Lo uS17n27 (v_move (.inl rfl) rfl) ?_
 refine Lo uS17n27 (rfl) ?_
 refine Lo uS17n27 (rfl) ?_
 refine L_nil (K_seq ?_)
 refine B_cond _ rfl (fun hc1 => ?_) (fun hc1 => ?_)
 ·try simp only [qB, qN] at hc1
  refine B_seq (B_region ?_)
  refine Lo uS17n27 (v_const (VVal.bool false) (.inr rfl) rfl) ?_
  refine L_nil (K_seq (B_ret (K_seqR ?_)))
  refine wS17n0 (.inr rfl) (vres_tmp rfl rfl) ?_
  exact ⟨by rw [decide_eq_false (fun e => by rw [e] at hc1; omega)], rfl⟩
 ·try simp only [qB, qN] at hc1
  refine B_skip (K_seq (B_seq (B_seq (B_region ?_))))
  refine Lo uS17n27 (v_const (VVal.int .i64 0) (.inr rfl) rfl) ?_
  refine L_nil (K_seq (B_block ?_))
  refine B_clear (mk 27 134217692) (env' := uS17n27) rfl ?_
  refine B_loopE (fun (k : Nat) => l.length - k) (fun (k : Nat) => [(5, iI (k : Nat))]) (fun (k : Nat) G => (k ≤ l.length ∧ ∀ j, j < k → l.getD j r0 = r.getD j r0) ∧ G = H ++ []) 0 rfl ?_ ?_
  ·refine ⟨?_, rfl⟩
   exact ⟨Nat.zero_le _, fun j h => by omega⟩
  rintro k _ ⟨⟨hk, hall⟩, rfl⟩
  refine B_env (env' := uS17n27) rfl ?_
  refine B_seq (B_seq (B_region ?_))
  refine Lo uS17n27 (v_move (.inl rfl) rfl) ?_
  refine Lo uS17n27 (v_move (.inl rfl) rfl) ?_
  refine Lo uS17n27 (rfl) ?_
  refine Lo uS17n27 (rfl) ?_
  refine L_nil (K_seq ?_)
  refine B_cond _ rfl (fun hc2 => ?_) (fun hc2 => ?_)
  ·try simp only [qB, qN] at hc2
   refine B_skip (K_seq (B_seq (B_block (B_seq ?_))))
   refine B_draw [0, 1, 2, 3, 4, 5, 6, 7, 8, 9] #[0, 0, 3, 7, 0, 0, 48, 112, 255, 511] (by kernel_rfl) (by kernel_rfl) (by kernel_rfl) ?_
   refine Oo uS17n27 .calm rfl (v_move (.inl rfl) rfl) ?_
   refine Oo uS17n27 .calm rfl (v_move (.inl rfl) rfl) ?_
   refine Oo uS17n27 .calm rfl (wS17n1 rfl rfl rfl rfl rfl rfl rfl) ?_
   refine Oo uS17n27 .look rfl (wS17n7 rfl rfl rfl rfl rfl) ?_
   refine Oo uS17n27 .calm rfl (v_move (.inl rfl) rfl) ?_
   refine Oo uS17n27 .calm rfl (v_move (.inl rfl) rfl) ?_
   refine Oo uS17n27 .calm rfl (wS17n1 rfl rfl rfl rfl rfl rfl rfl) ?_
   refine Oo uS17n27 .look rfl (wS17n7 rfl rfl rfl rfl rfl) ?_
   refine O_call (env' := uS17n27) rfl rfl rfl rfl rfl (by exact kRule_spec _ _ _ (h2 _ (rul_mem (by omega)))) (by first | exact Nat.le_refl _ | simp) rfl rfl ?_
   refine Oo uS17n27 .calm rfl (rfl) ?_
   refine O_nil [] (by kernel_rfl) (trivial) ?_
   refine K_seq ?_
   refine B_cond _ rfl (fun hc3 => ?_) (fun hc3 => ?_)
   ·try simp only [qB, qN] at hc3
    refine B_seq (B_region ?_)
    refine Lo uS17n27 (v_const (VVal.bool false) (.inr rfl) rfl) ?_
    refine L_nil (K_seq (B_ret (K_blkR (K_seqR (K_loopR (K_blkR (K_seqR ?_)))))))
    refine wS17n0 (.inr rfl) (vres_tmp rfl rfl) ?_
    exact ⟨by rw [decide_eq_false (fun e => by subst e; exact hc3 rfl)], rfl⟩
   ·try simp only [qB, qN] at hc3
    refine B_skip (K_blk (K_seq (B_region ?_)))
    refine Lo uS17n27 (v_move (.inl rfl) rfl) ?_
    refine Lo uS17n27 (wS17n3 rfl rfl rfl) ?_
    refine Lo uS17n27 (v_move (.inr rfl) rfl) ?_
    refine L_nil ?_
    refine K_loop (mk 27 134217692) (env' := uS17n27) rfl ⟨k + 1, ?_, rfl, ?_⟩
    ·first | omega | (simp only []; omega)
    ·exact ⟨⟨by omega, fun j hj => by by_cases e : j = k; (subst e; assumption); exact hall j (by omega)⟩, rfl⟩
  ·try simp only [qB, qN] at hc2
   refine B_exit (K_seqX (K_loopX (K_blkX (K_seq (B_seq (B_region ?_))))))
   refine Lo uS17n27 (v_const (VVal.bool true) (.inr rfl) rfl) ?_
   refine L_nil (K_seq (B_ret ?_))
   refine wS17n0 (.inr rfl) (vres_tmp rfl rfl) ?_
   have e := eq_getD (d := r0) (by omega) (fun j hj => hall j (by omega))
   exact ⟨by rw [decide_eq_true e], rfl⟩

theorem same_spec {x : SW} (H : VHeap) (p q : Pb) (hp : PbL p) : F (psys x) 20 [.agg (pbB p), .agg (pbB q)] H fun v G => v = .bool (decide (p = q)) ∧ G = H := by
 refine F_body Try.func20 rfl uS17n31 rfl ?_
 refine B_seq (B_region ?_)
 refine Lo uS17n31 (v_boxT rfl rfl rfl) ?_
 refine Lo uS17n31 (v_boxT rfl rfl rfl) ?_
 refine Lo uS17n31 (v_const (VVal.bool false) (.inr rfl) rfl) ?_
 refine L_nil (K_seq (B_seq (B_region ?_)))
 refine Lo uS17n31 (rfl) ?_
 refine Lo uS17n31 (wS17n5 rfl rfl rfl rfl) ?_
 refine Lo uS17n31 (rfl) ?_
 refine Lo uS17n31 (wS17n5 rfl rfl rfl rfl) ?_
 refine Lo uS17n31 (rfl) ?_
 refine Lo uS17n31 (v_move (.inl rfl) rfl) ?_
 refine L_split 10 (env1 := uS17n31) (env2 := uS17n31) rfl rfl rfl (fun hg1 => ?_) (fun hg1 => ?_)
 ·try simp only [qB] at hg1
  refine Lo uS17n31 (rfl) ?_
  refine Lo uS17n31 (wS17n5 rfl rfl rfl rfl) ?_
  refine Lo uS17n31 (rfl) ?_
  refine Lo uS17n31 (wS17n5 rfl rfl rfl rfl) ?_
  refine L_call rfl rfl rfl (by exact kRows_spec _ _ _ hp.w) ?_
  rintro _ _ ⟨rfl, rfl⟩
  refine Le uS17n31 ?_
  refine Lo uS17n31 (v_pickT rfl rfl rfl) ?_
  refine Lo uS17n31 (v_move (.inl rfl) rfl) ?_
  refine L_split 17 (env1 := uS17n31) (env2 := uS17n31) rfl rfl rfl (fun hg2 => ?_) (fun hg2 => ?_)
  ·try simp only [qB] at hg2
   refine Lo uS17n31 (rfl) ?_
   refine Lo uS17n31 (wS17n5 rfl rfl rfl rfl) ?_
   refine Lo uS17n31 (rfl) ?_
   refine Lo uS17n31 (wS17n5 rfl rfl rfl rfl) ?_
   refine L_call rfl rfl rfl (by exact kInts_spec _ _ _ hp.f) ?_
   rintro _ _ ⟨rfl, rfl⟩
   refine Le uS17n31 ?_
   refine Lo uS17n31 (v_pickT rfl rfl rfl) ?_
   refine Lo uS17n31 (v_move (.inl rfl) rfl) ?_
   refine L_split 24 (env1 := uS17n31) (env2 := uS17n31) rfl rfl rfl (fun hg3 => ?_) (fun hg3 => ?_)
   ·try simp only [qB] at hg3
    refine Lo uS17n31 (rfl) ?_
    refine Lo uS17n31 (wS17n5 rfl rfl rfl rfl) ?_
    refine Lo uS17n31 (rfl) ?_
    refine Lo uS17n31 (wS17n5 rfl rfl rfl rfl) ?_
    refine L_call rfl rfl rfl (by exact kRules_spec _ _ _ hp.r hp.s) ?_
    rintro _ _ ⟨rfl, rfl⟩
    refine Le uS17n31 ?_
    refine Lo uS17n31 (v_pickT rfl rfl rfl) ?_
    refine Lo uS17n31 (v_move (.inr rfl) rfl) ?_
    refine L_nil (K_seq (B_ret ?_))
    refine wS17n0 (.inr rfl) (vres_tmp rfl rfl) ?_
    refine ⟨congrArg VVal.bool ?_, rfl⟩
    exact wS17n8
   ·try simp only [qB] at hg3
    refine Lf uS17n31 ?_
    refine Lf uS17n31 ?_
    refine Lf uS17n31 ?_
    refine Lf uS17n31 ?_
    refine Lf uS17n31 ?_
    refine Lo uS17n31 (v_pickFC (VVal.bool false) rfl rfl rfl) ?_
    refine Lo uS17n31 (v_move (.inr rfl) rfl) ?_
    refine L_nil (K_seq (B_ret ?_))
    refine wS17n0 (.inr rfl) (vres_tmp rfl rfl) ?_
    refine ⟨congrArg VVal.bool ?_, rfl⟩
    exact wS17n8
  ·try simp only [qB] at hg2
   refine Lf uS17n31 ?_
   refine Lf uS17n31 ?_
   refine Lf uS17n31 ?_
   refine Lf uS17n31 ?_
   refine Lf uS17n31 ?_
   refine Lo uS17n31 (v_pickFC (VVal.bool false) rfl rfl rfl) ?_
   refine Lo uS17n31 (v_move (.inl rfl) rfl) ?_
   refine Lf uS17n31 ?_
   refine Lf uS17n31 ?_
   refine Lf uS17n31 ?_
   refine Lf uS17n31 ?_
   refine Lf uS17n31 ?_
   refine Lo uS17n31 (v_pickFC (VVal.bool false) rfl rfl rfl) ?_
   refine Lo uS17n31 (v_move (.inr rfl) rfl) ?_
   refine L_nil (K_seq (B_ret ?_))
   refine wS17n0 (.inr rfl) (vres_tmp rfl rfl) ?_
   refine ⟨congrArg VVal.bool ?_, rfl⟩
   exact wS17n8
 ·try simp only [qB] at hg1
  refine Lf uS17n31 ?_
  refine Lf uS17n31 ?_
  refine Lf uS17n31 ?_
  refine Lf uS17n31 ?_
  refine Lf uS17n31 ?_
  refine Lo uS17n31 (v_pickFC (VVal.bool false) rfl rfl rfl) ?_
  refine Lo uS17n31 (v_move (.inl rfl) rfl) ?_
  refine Lf uS17n31 ?_
  refine Lf uS17n31 ?_
  refine Lf uS17n31 ?_
  refine Lf uS17n31 ?_
  refine Lf uS17n31 ?_
  refine Lo uS17n31 (v_pickFC (VVal.bool false) rfl rfl rfl) ?_
  refine Lo uS17n31 (v_move (.inl rfl) rfl) ?_
  refine Lf uS17n31 ?_
  refine Lf uS17n31 ?_
  refine Lf uS17n31 ?_
  refine Lf uS17n31 ?_
  refine Lf uS17n31 ?_
  refine Lo uS17n31 (v_pickFC (VVal.bool false) rfl rfl rfl) ?_
  refine Lo uS17n31 (v_move (.inr rfl) rfl) ?_
  refine L_nil (K_seq (B_ret ?_))
  refine wS17n0 (.inr rfl) (vres_tmp rfl rfl) ?_
  refine ⟨congrArg VVal.bool ?_, rfl⟩
  exact wS17n8

theorem rdPb_L (raw : List UInt8) : PbL (rdPb raw) := by
  unfold rdPb
  split
  · exact pA_L raw
  · exact ⟨by decide, by decide, by decide, by decide, fun r hr => by cases hr⟩
theorem rdU_l (raw : List UInt8) : (rdU raw).length ≤ 1000000 := by
  unfold rdU
  split
  · have := pA_lens raw; omega
  · simp
end Go.Proofs.Ytbngdhlmggdaaaa.VT

set_option autoImplicit false
set_option linter.unusedVariables false
set_option linter.unusedSimpArgs false
namespace Go.V
open Go Go.RowKit
theorem be_snoc (w : BitVec 64) (n : Nat) : be w (n + 1) = be (w >>> 8) n ++ [bW w] := by
  unfold be
  rw [List.range_succ, List.map_append]
  congr 1
  · apply List.map_congr_left
    intro i hi
    rw [List.mem_range] at hi
    rw [← BitVec.shiftRight_add]
    congr 2; omega
  · simp
theorem bW_nat (w : BitVec 64) : (bW w).toNat = w.toNat % 256 := by unfold bW; rw [UInt8.toNat_ofNat']
theorem vB_be : ∀ (n : Nat) (w : BitVec 64), n ≤ 8 → (vB (be w n)).toNat = w.toNat % 256 ^ n
  | 0, w, _ => by simp [be, vB, Nat.mod_one]
  | n + 1, w, h => by
    have ih := vB_be n (w >>> 8) (by omega)
    rw [be_snoc, vB_app2, BitVec.toNat_add, BitVec.toNat_mul, byteW, bW_nat, ih, BitVec.toNat_ushiftRight, Nat.shiftRight_eq_div_pow]
    have e : w.toNat % 256 ^ (n + 1) = w.toNat % 256 + 256 * (w.toNat / 256 % 256 ^ n) := by
      rw [Nat.pow_succ, Nat.mul_comm, Nat.mod_mul]
    have hp : 256 ^ n ≤ 256 ^ 7 := Nat.pow_le_pow_right (by omega) (by omega)
    have hlt : w.toNat / 2 ^ 8 % 256 ^ n < 256 ^ n := Nat.mod_lt _ (Nat.pow_pos (by decide))
    have h8 : w.toNat / 2 ^ 8 = w.toNat / 256 := rfl
    rw [e, ← h8]
    have hm : w.toNat % 256 < 256 := Nat.mod_lt _ (by decide)
    have h7 : (256 : Nat) ^ 7 = 72057594037927936 := by decide
    rw [show (256#64).toNat = 256 from rfl, Nat.mod_eq_of_lt (show 256 * (w.toNat / 2 ^ 8 % 256 ^ n) < 2 ^ 64 by omega), Nat.mod_eq_of_lt (by omega)]
    omega
theorem vB_be8 (w : BitVec 64) : vB (be w 8) = w := by
  apply BitVec.eq_of_toNat_eq
  rw [vB_be 8 w (by decide)]
  exact Nat.mod_eq_of_lt w.isLt
theorem vB_be4 {k : Int} (h : 0 ≤ k ∧ k < 4294967296) : ((vB (be (BitVec.ofInt 64 k) 4)).toNat : Int) = k := by
  rw [vB_be 4 _ (by decide), BitVec.toNat_ofInt]
  have h1 : (k % ((2 : Nat) ^ 64 : Nat)) = k := Int.emod_eq_of_lt h.1 (Int.lt_of_lt_of_le h.2 (by decide))
  rw [h1]
  rw [Nat.mod_eq_of_lt (by show k.toNat < 4294967296; omega)]; omega
theorem be_vB (l : List UInt8) : l.length ≤ 8 → be (vB l) l.length = l := by
  refine rev_ind (P := fun l => l.length ≤ 8 → be (vB l) l.length = l) (fun _ => by simp [be]) (fun l c ih h => ?_) l
  rw [List.length_append, List.length_singleton] at h ⊢
  have h1 := ih (by omega)
  have hlt := vB_lt l (by omega)
  have hp : 256 ^ l.length ≤ 256 ^ 7 := Nat.pow_le_pow_right (by omega) (by omega)
  have h7 : (256 : Nat) ^ 7 = 72057594037927936 := by decide
  have hc := byte_lt c
  have hn : (vB (l ++ [c])).toNat = 256 * (vB l).toNat + c.toNat := by
    rw [vB_app2, BitVec.toNat_add, BitVec.toNat_mul, byteW, show (256#64).toNat = 256 from rfl, Nat.mod_eq_of_lt (show 256 * (vB l).toNat < 2 ^ 64 by omega), Nat.mod_eq_of_lt (by omega)]
  rw [be_snoc]
  congr 1
  · rw [show vB (l ++ [c]) >>> 8 = vB l from ?_]
    · exact h1
    · apply BitVec.eq_of_toNat_eq
      rw [BitVec.toNat_ushiftRight, Nat.shiftRight_eq_div_pow, hn]
      show (256 * (vB l).toNat + c.toNat) / 256 = _
      omega
  · congr 1
    apply UInt8.toNat_inj.1
    rw [bW_nat, hn]; omega
theorem nB_bI {n : Int} (h : 0 ≤ n ∧ n < 256) : nB (bI n) = n := by
  unfold nB bI
  rw [UInt8.toNat_ofNat', Int.emod_eq_of_lt h.1 h.2, Nat.mod_eq_of_lt (by omega)]; omega
theorem bI_nB (x : UInt8) : bI (nB x) = x := by
  have := byte_lt x
  apply UInt8.toNat_inj.1
  unfold bI nB
  rw [UInt8.toNat_ofNat', Int.emod_eq_of_lt (by omega) (by omega)]
  simp only [Int.toNat_natCast]; omega
/-! ### back -/
def stEnc (x : Stp) : List UInt8 := be x.1 8 ++ [bI (x.2.1 + 1), bI x.2.2]
theorem list_10 {c : List UInt8} (h : 10 ≤ c.length) : c = stEnc (vB (c.take 8), nB (c.getD 8 0) - 1, nB (c.getD 9 0)) ++ c.drop 10 := by
  unfold stEnc
  have h8 : be (vB (c.take 8)) 8 = c.take 8 := by
    have := be_vB (c.take 8) (by rw [List.length_take]; omega)
    rwa [List.length_take, Nat.min_eq_left (by omega)] at this
  simp only
  rw [h8, show nB (c.getD 8 0) - 1 + 1 = nB (c.getD 8 0) by omega, bI_nB, bI_nB]
  have e : c.take 10 = c.take 8 ++ [c.getD 8 0, c.getD 9 0] := by
    rw [show (10 : Nat) = 9 + 1 from rfl, take_at (d := 0) (by omega), show (9 : Nat) = 8 + 1 from rfl, take_at (d := 0) (by omega)]; simp
  rw [← e, List.take_append_drop]
theorem stP_inv {b : List UInt8} : ∀ k : Nat, (stP k (b, false)).2.2 = false → b = (stP k (b, false)).1.flatMap stEnc ++ (stP k (b, false)).2.1
  | 0, _ => by rw [stP_0]; rfl
  | k + 1, h => by
    have hk : (stP k (b, false)).2.2 = false := by
      cases hs : (stP k (b, false)).2.2 with
      | false => rfl
      | true =>
        have : Shr (stP (k + 1) (b, false)).2 := stP_mono (Nat.le_succ k) hs
        have h2 : (stP (k + 1) (b, false)).2.2 = true := this
        rw [h] at h2; cases h2
    have ih := stP_inv k hk
    have he : stP k (b, false) = ((stP k (b, false)).1, ((stP k (b, false)).2.1, false)) := Prod.ext rfl (Prod.ext rfl hk)
    have h10 : 10 ≤ (stP k (b, false)).2.1.length := by
      apply Decidable.byContradiction
      intro hn
      have : Shr (stP (k + 1) (b, false)).2 := stP_no he (by omega)
      have h2 : (stP (k + 1) (b, false)).2.2 = true := this
      rw [h] at h2; cases h2
    rw [stP_yes he h10]
    simp only [List.flatMap_append, List.flatMap_cons, List.flatMap_nil, List.append_nil, List.append_assoc]
    rw [← list_10 h10]; exact ih
theorem list_6 {c : List UInt8} (h : 6 ≤ c.length) (h2 : 6 + (c.getD 5 0).toNat ≤ c.length) :
    c = ruB (nB (c.getD 0 0), ((vB ((c.drop 1).take 4)).toNat : Int), ((c.drop 6).take (c.getD 5 0).toNat).map nB, ()) ++ c.drop (6 + (c.getD 5 0).toNat) := by
  unfold ruB
  simp only [Rul.kind, Rul.k, Rul.steps]
  have h4 : be (BitVec.ofInt 64 ((vB ((c.drop 1).take 4)).toNat : Int)) 4 = (c.drop 1).take 4 := by
    have e : BitVec.ofInt 64 ((vB ((c.drop 1).take 4)).toNat : Int) = vB ((c.drop 1).take 4) := ofInt_wd _
    rw [e]
    have := be_vB ((c.drop 1).take 4) (by rw [List.length_take]; omega)
    rwa [List.length_take, List.length_drop, Nat.min_eq_left (by omega)] at this
  have hl : (((c.drop 6).take (c.getD 5 0).toNat).map nB).length = (c.getD 5 0).toNat := by rw [List.length_map, List.length_take, List.length_drop]; omega
  have hm : (((c.drop 6).take (c.getD 5 0).toNat).map nB).map bI = (c.drop 6).take (c.getD 5 0).toNat := by
    rw [List.map_map]
    have : (bI ∘ nB) = id := funext fun x => bI_nB x
    rw [this, List.map_id]
  rw [bI_nB, h4, hl, hm, show bI ((c.getD 5 0).toNat : Int) = c.getD 5 0 from bI_nB _]
  have e1 : c.take 6 = [c.getD 0 0] ++ (c.drop 1).take 4 ++ [c.getD 5 0] := by
    rw [show (6 : Nat) = 5 + 1 from rfl, take_at (d := 0) (by omega)]
    congr 1
    have := take_1 (b := c) (by omega)
    rw [← this, ← List.take_add]
  rw [← e1, List.append_assoc, ← List.drop_drop, List.take_append_drop, List.take_append_drop]
theorem rusP_inv {b : List UInt8} : ∀ k : Nat, (rusP k (b, false)).2.2 = false → b = (rusP k (b, false)).1.flatMap ruB ++ (rusP k (b, false)).2.1
  | 0, _ => by rw [rusP_0]; rfl
  | k + 1, h => by
    have hk : (rusP k (b, false)).2.2 = false := by
      cases hs : (rusP k (b, false)).2.2 with
      | false => rfl
      | true =>
        have : Shr (rusP (k + 1) (b, false)).2 := rusP_mono (Nat.le_succ k) hs
        have h2 : (rusP (k + 1) (b, false)).2.2 = true := this
        rw [h] at h2; cases h2
    have ih := rusP_inv k hk
    have he : rusP k (b, false) = ((rusP k (b, false)).1, ((rusP k (b, false)).2.1, false)) := Prod.ext rfl (Prod.ext rfl hk)
    have h6 : 6 ≤ (rusP k (b, false)).2.1.length ∧ 6 + ((rusP k (b, false)).2.1.getD 5 0).toNat ≤ (rusP k (b, false)).2.1.length := by
      apply Decidable.byContradiction
      intro hn
      have : Shr (rusP (k + 1) (b, false)).2 := rusP_no he (by omega)
      have h2 : (rusP (k + 1) (b, false)).2.2 = true := this
      rw [h] at h2; cases h2
    rw [rusP_yes he h6.1 h6.2]
    simp only [List.flatMap_append, List.flatMap_cons, List.flatMap_nil, List.append_nil, List.append_assoc]
    rw [← list_6 h6.1 h6.2]; exact ih
theorem stsB_enc {p : Pb} {us : List Int} {L : List Stp} (h1 : p.who = L.map (fun x : Stp => x.1)) (h2 : p.fixed = L.map (fun x : Stp => x.2.1)) (h3 : us = L.map (fun x : Stp => x.2.2)) : stsB p us p.who.length = L.flatMap stEnc := by
  have hl : p.who.length = L.length := by rw [h1, List.length_map]
  have key : ∀ k, k ≤ L.length → stsB p us k = (L.take k).flatMap stEnc := by
    intro k
    induction k with
    | zero => intro _; rfl
    | succ k ih =>
      intro hk
      rw [stsB_succ, ih (by omega), take_at (d := (0#64, 0, 0)) (by omega), List.flatMap_append]
      simp only [List.flatMap_cons, List.flatMap_nil, List.append_nil]
      congr 1
      unfold stB stEnc
      rw [h1, h2, h3]
      have g : ∀ {β : Type} (f : Stp → β) (d : β), (L.map f).getD k d = f (L.getD k (0#64, 0, 0)) := by
        intro β f d
        rw [List.getD_eq_getElem?_getD, List.getElem?_map, List.getD_eq_getElem?_getD, List.getElem?_eq_getElem (by omega)]; rfl
      rw [g (fun x : Stp => x.1) 0, g (fun x : Stp => x.2.1) 0, g (fun x : Stp => x.2.2) 0]
  rw [hl, key _ (Nat.le_refl _), List.take_length]
/-- what Read takes Write writes again -/
theorem cB_back {raw : List UInt8} (h : rdE raw = 0) : cB (pA raw) (uA raw) = raw := by
  have hb : badA raw = false := by
    cases hb : badA raw with
    | false => rfl
    | true => rw [rdE_3 (.inl hb)] at h; cases h
  have h5 : 5 ≤ raw.length := by
    apply Decidable.byContradiction; intro hn
    rw [bad_5 (by omega)] at hb; cases hb
  have h80 : raw.getD 0 0 = 80 ∧ raw.getD 1 0 = 67 := by
    apply Decidable.byContradiction; intro hn
    rw [bad_head (by omega) hn] at hb; cases hb
  have hh := hdP_4 (raw := raw) (by omega)
  have hs : (stP (hdP raw).n (hdP raw).st).2.2 = false := by
    cases hs : (stP (hdP raw).n (hdP raw).st).2.2 with
    | false => rfl
    | true => rw [bad_st (Nat.le_refl _) hs] at hb; cases hb
  have hst : stA raw = ((stA raw).1, ((stA raw).2.1, false)) := by rw [stA_eq]; exact Prod.ext rfl (Prod.ext rfl hs)
  have hm : 1 ≤ (stA raw).2.1.length := by
    apply Decidable.byContradiction; intro hn
    rw [bad_m (by omega)] at hb; cases hb
  have hi := bad_iff (by omega) h80 hst hm
  rw [hb] at hi
  have hok : rok ((stA raw).2.1.getD 0 0).toNat ((stA raw).2.1.drop 1) = true := by
    cases hk : rok ((stA raw).2.1.getD 0 0).toNat ((stA raw).2.1.drop 1) with
    | true => rfl
    | false => rw [hk] at hi; cases hi.1
  obtain ⟨r1, r2⟩ := rfL_ok hok
  have ru := rusP_inv (b := (stA raw).2.1.drop 1) ((stA raw).2.1.getD 0 0).toNat (by rw [r2])
  rw [r2] at ru
  simp only [List.append_nil] at ru
  have hsi := stP_inv (b := raw.drop 4) (raw.getD 3 0).toNat (by rw [hh] at hs; exact hs)
  have est : stP (raw.getD 3 0).toNat (raw.drop 4, false) = stA raw := by rw [stA_eq, hh]
  rw [est] at hsi
  have eru : (pA raw).rules = (rusP ((stA raw).2.1.getD 0 0).toNat ((stA raw).2.1.drop 1, false)).1 := by
    rw [pA_eq, ← ruA_eq, hi.2]
  have ewho : (pA raw).who = (stA raw).1.map (fun x : Stp => x.1) := by rw [pA_who, ← stA_eq]
  have efix : (pA raw).fixed = (stA raw).1.map (fun x : Stp => x.2.1) := by rw [pA_fixed, ← stA_eq]
  have eus : uA raw = (stA raw).1.map (fun x : Stp => x.2.2) := by rw [uA_eq, ← stA_eq]
  have elen : (pA raw).who.length = (raw.getD 3 0).toNat := by rw [ewho, List.length_map, stA_eq, stP_len, hh]
  have elr : (pA raw).rules.length = ((stA raw).2.1.getD 0 0).toNat := by rw [eru, rusP_len]
  have eusr : (pA raw).users = nB (raw.getD 2 0) := by rw [pA_eq, hh]
  unfold cB
  rw [stsB_enc ewho efix eus]
  have hhd : hdB (pA raw) = raw.take 4 := by
    unfold hdB
    rw [elen, eusr, bI_nB, show bI ((raw.getD 3 0).toNat : Int) = raw.getD 3 0 from bI_nB _]
    rw [show (4 : Nat) = 3 + 1 from rfl, take_at (d := 0) (by omega), show (3 : Nat) = 2 + 1 from rfl, take_at (d := 0) (by omega), show (2 : Nat) = 1 + 1 from rfl, take_at (d := 0) (by omega), take_1 (by omega), h80.1, h80.2]
    rfl
  rw [hhd, elr, eru, ← ru, show bI (((stA raw).2.1.getD 0 0).toNat : Int) = (stA raw).2.1.getD 0 0 from bI_nB _]
  rw [List.append_assoc, List.append_assoc, ← take_1 hm, List.take_append_drop, ← hsi, List.take_append_drop]
end Go.V

set_option autoImplicit false
set_option linter.unusedVariables false
set_option linter.unusedSimpArgs false
namespace Go.V
open Go Go.RowKit
theorem range_getD {α : Type} (l : List α) (d : α) : (List.range l.length).map (fun i => l.getD i d) = l := by
  apply List.ext_getElem (by simp)
  intro i h1 h2
  simp [List.getD_eq_getElem?_getD, List.getElem?_eq_getElem h2]
theorem split_10 {w : BitVec 64} {x y : UInt8} {t b : List UInt8} (hb : b = be w 8 ++ [x, y] ++ t) : b.take 8 = be w 8 ∧ b.getD 8 0 = x ∧ b.getD 9 0 = y ∧ b.drop 10 = t ∧ 10 ≤ b.length := by
  have hl := be_len w 8
  subst hb
  rw [List.append_assoc]
  refine ⟨List.take_left' hl, ?_, ?_, ?_, ?_⟩
  · rw [List.getD_eq_getElem?_getD, List.getElem?_append_right (by omega), hl]; rfl
  · rw [List.getD_eq_getElem?_getD, List.getElem?_append_right (by omega), hl]; rfl
  · rw [show (10 : Nat) = 8 + 2 from rfl, ← List.drop_drop, List.drop_left' hl]; rfl
  · simp only [List.length_append, hl, List.length_cons]; omega
theorem split_6 {r : Rul} {t b : List UInt8} (hs : r.steps.length < 256) (hb : b = ruB r ++ t) :
    b.getD 0 0 = bI r.kind ∧ (b.drop 1).take 4 = be (BitVec.ofInt 64 r.k) 4 ∧ b.getD 5 0 = bI r.steps.length ∧ (b.drop 6).take r.steps.length = r.steps.map bI ∧ b.drop (6 + r.steps.length) = t ∧ 6 + r.steps.length ≤ b.length := by
  have hl := be_len (BitVec.ofInt 64 r.k) 4
  have e : b = bI r.kind :: (be (BitVec.ofInt 64 r.k) 4 ++ (bI r.steps.length :: (r.steps.map bI ++ t))) := by
    rw [hb]; unfold ruB; simp
  rw [e]
  have hm : (r.steps.map bI).length = r.steps.length := List.length_map _
  refine ⟨rfl, ?_, ?_, ?_, ?_, ?_⟩
  · rw [List.drop_succ_cons, List.drop_zero, List.take_left' hl]
  · rw [List.getD_eq_getElem?_getD, show (5 : Nat) = 4 + 1 from rfl, List.getElem?_cons_succ, List.getElem?_append_right (by omega), hl]; rfl
  · rw [show (6 : Nat) = 5 + 1 from rfl, List.drop_succ_cons, show (5 : Nat) = 4 + 1 from rfl, ← List.drop_drop, List.drop_left' hl, List.drop_succ_cons, List.drop_zero, List.take_left' hm]
  · rw [show 6 + r.steps.length = 4 + (r.steps.length + 1) + 1 by omega, List.drop_succ_cons, ← List.drop_drop, List.drop_left' hl, List.drop_succ_cons, List.drop_left' hm]
  · simp only [List.length_cons, List.length_append, hl, hm]; omega
theorem map_nB {l : List Int} (h : ∀ x, x ∈ l → 0 ≤ x ∧ x < 256) : (l.map bI).map nB = l := by
  rw [List.map_map]
  have : l.map (nB ∘ bI) = l.map id := List.map_congr_left fun x hx => nB_bI (h x hx)
  rw [this, List.map_id]
theorem rul_small {n : Int} {r : Rul} (h : rck n r = true) : (0 ≤ r.kind ∧ r.kind < 256) ∧ (0 ≤ r.k ∧ r.k < 4294967296) ∧ r.steps.length < 256 ∧ ∀ x, x ∈ r.steps → 0 ≤ x ∧ x < 256 := by
  unfold rck at h
  rw [Bool.and_eq_true, Bool.and_eq_true, decide_eq_true_eq] at h
  obtain ⟨h1, h2, h3⟩ := h
  have hl : r.steps.length ≤ 12 := by
    rcases riseA_len _ _ h2 with e | e
    · rw [e]; exact Nat.zero_le _
    · omega
  refine ⟨?_, ?_, by omega, fun x hx => by have := riseA_mem _ _ h2 x hx; omega⟩
  · unfold knd at h3
    split at h3
    · omega
    · split at h3
      · omega
      · split at h3
        · omega
        · cases h3
  · unfold knd at h3
    split at h3
    · rw [decide_eq_true_eq] at h3; omega
    · split at h3
      · rw [decide_eq_true_eq] at h3; omega
      · split at h3
        · rw [decide_eq_true_eq] at h3; omega
        · cases h3
theorem rusP_back {n : Int} {rs : List Rul} (h : ∀ r, r ∈ rs → rck n r = true) : ∀ k, k ≤ rs.length → rusP k (rs.flatMap ruB, false) = (rs.take k, ((rs.drop k).flatMap ruB, false))
  | 0, _ => by rw [rusP_0]; simp
  | k + 1, hk => by
    have ih := rusP_back h k (by omega)
    have hr : rs.getD k (0, 0, [], ()) ∈ rs := mem_getX (by omega)
    obtain ⟨a1, a2, a3, a4⟩ := rul_small (h _ hr)
    have hd : (rs.drop k).flatMap ruB = ruB (rs.getD k (0, 0, [], ())) ++ (rs.drop (k + 1)).flatMap ruB := by
      rw [List.drop_eq_getElem_cons (by omega), List.flatMap_cons, List.getD_eq_getElem?_getD, List.getElem?_eq_getElem (by omega)]; rfl
    obtain ⟨b1, b2, b3, b4, b5, b6⟩ := split_6 (t := (rs.drop (k + 1)).flatMap ruB) a3 hd
    have hn : (bI (rs.getD k (0, 0, [], ())).steps.length).toNat = (rs.getD k (0, 0, [], ())).steps.length := by
      have := nB_bI (n := ((rs.getD k (0, 0, [], ())).steps.length : Int)) (by omega)
      unfold nB at this; omega
    rw [rusP_yes ih (by omega) (by rw [b3, hn]; exact b6), b1, b2, b3, hn, b4, b5, nB_bI a1, vB_be4 a2, map_nB a4, take_at (d := (0, 0, [], ())) (by omega)]
theorem flk_small {p : Pb} {us : List Int} (g : Good p) (h : flw p us = []) {i : Nat} (hi : i < p.who.length) : 0 ≤ us.getD i 0 ∧ us.getD i 0 < p.users := by
  have hl := flw_0len h
  unfold flw at h
  rw [if_neg (by simpa using hl)] at h
  have h2 := (List.append_eq_nil_iff.1 h).1
  have key : ∀ n, flU p us n = [] → ∀ j, j < n → flk p.users (p.fixed.getD j 0) (p.who.getD j 0) (us.getD j 0) = 0 := by
    intro n
    induction n with
    | zero => intro _ j hj; omega
    | succ n ih =>
      intro hn j hj
      rw [flU_succ] at hn
      obtain ⟨h3, h4⟩ := List.append_eq_nil_iff.1 hn
      by_cases e : j = n
      · subst e
        split at h4
        · assumption
        · cases h4
      · exact ih h3 j (by omega)
  have hk := key _ h2 i (by omega)
  unfold flk at hk
  split at hk
  · omega
  · omega
theorem stP_back {p : Pb} {us : List Int} (g : Good p) (h : flw p us = []) (T : List UInt8) : ∀ k, k ≤ p.who.length →
    stP k (stsB p us p.who.length ++ T, false) = ((List.range k).map (fun i => (p.who.getD i 0, p.fixed.getD i 0, us.getD i 0)), (((List.range p.who.length).drop k).flatMap (stB p us) ++ T, false))
  | 0, _ => by rw [stP_0]; rfl
  | k + 1, hk => by
    have ih := stP_back g h T k (by omega)
    have hd : ((List.range p.who.length).drop k).flatMap (stB p us) ++ T = be (p.who.getD k 0) 8 ++ [bI (p.fixed.getD k 0 + 1), bI (us.getD k 0)] ++ (((List.range p.who.length).drop (k + 1)).flatMap (stB p us) ++ T) := by
      rw [List.drop_eq_getElem_cons (by rw [List.length_range]; omega), List.flatMap_cons, List.getElem_range, stB]; simp only [List.append_assoc]
    obtain ⟨b1, b2, b3, b4, b5⟩ := split_10 hd
    have hok := g.ok k (by omega)
    unfold okW at hok
    rw [Bool.and_eq_true, decide_eq_true_eq] at hok
    have hu := g.u64
    have hx := flk_small g h (i := k) (by omega)
    rw [stP_yes ih b5, b1, b2, b3, b4, vB_be8, nB_bI (by omega), nB_bI (by omega), List.range_succ, List.map_append]
    simp only [List.map_cons, List.map_nil]
    rw [show p.fixed.getD k 0 + 1 - 1 = p.fixed.getD k 0 by omega]
/-- what Write writes Read reads -/
theorem rd_back {p : Pb} {us : List Int} (g : Good p) (h : flw p us = []) : rdE (cB p us) = 0 ∧ pA (cB p us) = p ∧ uA (cB p us) = us := by
  have g1 := g.n12; have g2 := g.u64; have g3 := g.r32; have g4 := g.u0; have g5 := g.fx
  have hl := flw_0len h
  have e : cB p us = 80 :: 67 :: bI p.users :: bI p.who.length :: (stsB p us p.who.length ++ (bI p.rules.length :: p.rules.flatMap ruB)) := by unfold cB hdB; simp
  have h4 : 4 ≤ (cB p us).length := by rw [e]; simp
  have hh := hdP_4 h4
  have hu : nB ((cB p us).getD 2 0) = p.users := by rw [e]; exact nB_bI (n := p.users) (by omega)
  have hn : ((cB p us).getD 3 0).toNat = p.who.length := by
    rw [e]
    have := nB_bI (n := (p.who.length : Int)) (by omega)
    show (bI (p.who.length : Int)).toNat = _
    unfold nB at this; omega
  have hd : (cB p us).drop 4 = stsB p us p.who.length ++ (bI p.rules.length :: p.rules.flatMap ruB) := by rw [e]; rfl
  have h80 : (cB p us).getD 0 0 = 80 ∧ (cB p us).getD 1 0 = 67 := by rw [e]; exact ⟨rfl, rfl⟩
  have hst : stA (cB p us) = ((List.range p.who.length).map (fun i => (p.who.getD i 0, p.fixed.getD i 0, us.getD i 0)), (bI p.rules.length :: p.rules.flatMap ruB, false)) := by
    rw [stA_eq, hh, hd]
    simp only [hn]
    rw [stP_back g h _ _ (Nat.le_refl _), List.drop_of_length_le (by simp)]; rfl
  have hm : ((bI p.rules.length :: p.rules.flatMap ruB).getD 0 0).toNat = p.rules.length := by
    have := nB_bI (n := (p.rules.length : Int)) (by omega)
    show (bI (p.rules.length : Int)).toNat = _
    unfold nB at this; omega
  have hi := bad_iff h4 h80 hst (by simp)
  rw [hm] at hi
  have hru := rusP_back (n := p.who.length) g.ru p.rules.length (Nat.le_refl _)
  rw [List.take_length, List.drop_length] at hru
  have hru' : rusP p.rules.length ((bI p.rules.length :: p.rules.flatMap ruB).drop 1, false) = (p.rules, ([], false)) := hru
  have hb : badA (cB p us) = false := by rw [hi.1, (rok_end hru').1]; rfl
  have ep : pA (cB p us) = p := by
    rw [pA_eq, ← ruA_eq, hi.2, hru', pA_who, pA_fixed, ← stA_eq, hst, hh]
    simp only [List.map_map]
    have w1 : (List.range p.who.length).map ((fun x : Stp => x.1) ∘ fun i => (p.who.getD i 0, p.fixed.getD i 0, us.getD i 0)) = p.who := range_getD p.who 0
    have w2 : (List.range p.who.length).map ((fun x : Stp => x.2.1) ∘ fun i => (p.who.getD i 0, p.fixed.getD i 0, us.getD i 0)) = p.fixed := by
      have := range_getD p.fixed 0
      rw [g5] at this; exact this
    rw [w1, w2, hu]
  have eu : uA (cB p us) = us := by
    rw [uA_eq, ← stA_eq, hst]
    simp only [List.map_map]
    have := range_getD us 0
    rw [hl] at this; exact this
  refine ⟨rdE_0 hb ?_ ?_, ep, eu⟩
  · rw [ep]; exact pck_good.2 g
  · rw [ep, eu]; exact h
end Go.V

set_option autoImplicit false
set_option linter.unusedVariables false
set_option linter.unusedSimpArgs false
set_option maxHeartbeats 4000000
set_option maxRecDepth 100000
namespace Go.Proofs.Ytbngdhlmggdaaaa.VT
open Go Go.V Go.RowKit

abbrev uS18n6 {a0 a1 a2 a3 a4 a5 : VVal} : VEnv := a0 :: a1 :: a2 :: a3 :: a4 :: a5 :: []
abbrev uS18n20 {a0 a1 a2 a3 a4 a5 a6 a7 a8 a9 a10 a11 a12 a13 a14 a15 a16 a17 a18 a19 : VVal} : VEnv := a0 :: a1 :: a2 :: a3 :: a4 :: a5 :: a6 :: a7 :: a8 :: a9 :: a10 :: a11 :: a12 :: a13 :: a14 :: a15 :: a16 :: a17 :: a18 :: a19 :: []
abbrev uS18n39 {a0 a1 a2 a3 a4 a5 a6 a7 a8 a9 a10 a11 a12 a13 a14 a15 a16 a17 a18 a19 a20 a21 a22 a23 a24 a25 a26 a27 a28 a29 a30 a31 a32 a33 a34 a35 a36 a37 a38 : VVal} : VEnv := a0 :: a1 :: a2 :: a3 :: a4 :: a5 :: a6 :: a7 :: a8 :: a9 :: a10 :: a11 :: a12 :: a13 :: a14 :: a15 :: a16 :: a17 :: a18 :: a19 :: a20 :: a21 :: a22 :: a23 :: a24 :: a25 :: a26 :: a27 :: a28 :: a29 :: a30 :: a31 :: a32 :: a33 :: a34 :: a35 :: a36 :: a37 :: a38 :: []

theorem wS18n0 {T : TypeId → Option VTy} {H : VHeap} {op : Op} {ρ : Operand → VVal} {t : TypeId} {a : Operand} {y : VTy} {p v : VVal} (ho : op = .load t a) (ha : ρ a = p) (hy : T t = some y) (hd : isAggDesc y.desc = false) (h : LdOk H p v := by first | exact .inl ⟨_, _, rfl, by first | rfl | assumption | exact fgetN (α := BitVec 64) 0 (by omega) | exact fgetN (α := Int) 0 (by omega)⟩ | exact .inr ⟨_, _, _, _, rfl, by first | exact get_app rfl rfl | exact get_out (by assumption) | exact getE0 rfl rfl | exact get_out (get_app rfl rfl) | exact get_app rfl (by assumption) | assumption | (simp only [List.append_assoc, List.singleton_append, List.cons_append, List.nil_append]; refine getE (i := 0) rfl ?_ rfl; simp; done) | (simp only [List.append_assoc, List.singleton_append, List.cons_append, List.nil_append]; refine getE (i := 1) rfl ?_ rfl; simp; done) | (simp only [List.append_assoc, List.singleton_append, List.cons_append, List.nil_append]; refine getE (i := 2) rfl ?_ rfl; simp; done) | (simp only [List.append_assoc, List.singleton_append, List.cons_append, List.nil_append]; refine getE (i := 3) rfl ?_ rfl; simp; done) | (simp [*]; done), by first | rfl | assumption | exact fgetN (α := BitVec 64) 0 (by omega) | exact fgetN (α := Int) 0 (by omega)⟩) : vop T ρ H op = some (v, H) := v_ld ho ha hy hd h
theorem wS18n1 {T : TypeId → Option VTy} {H : VHeap} {op : Op} {ρ : Operand → VVal} {t e : TypeId} {x i : Operand} {y z : VTy} {k : IntKind} {n : Int} {p v : VVal} {es : Nat} (ho : op = .indexAddr t x i) (hx : ρ x = p) (hi : ρ i = .int k n) (hy : T t = some y) (hd : y.desc = .slice e) (hz : T e = some z) (hs : z.size = es) (h : IxOk p es n v := by first | exact .inl ⟨_, _, _, rfl, by first | assumption | omega | (simp [*]; done) | (simp at *; omega), rfl⟩ | exact .inr ⟨_, _, _, _, _, rfl, by first | assumption | omega | (simp [*]; done) | (simp at *; omega), rfl⟩) : vop T ρ H op = some (v, H) := v_ix ho hx hi hy hd hz hs h
theorem wS18n2 {S : V.Sys} {H : VHeap} {fn : Func} {ex : Exit} {env : VEnv} {B L : VHeap} {v : VVal} {R : VVal → VHeap → Prop} (hx : ex = .normal ∨ ex = .ret) (hv : vresults S.C.T env (B ++ L) fn.results = some v) (h : R v B) (hB : BaseOk H B := by first | exact BaseOk.refl _ | exact BaseOk.set (BaseOk.refl _) _ rfl) (hu : v.under H.length = true := by first | rfl | simp [VVal.under, VVal.underL, *]) : fnK S fn H R ex env (B ++ L) := E_app hx hv hB hu h
theorem wS18n3 {P : Prop} (h : P := by first | exact ⟨by rw [wrd_f (by assumption)], rfl⟩ | exact ⟨by rw [wrd_w (by omega)], rfl⟩) : P := h
theorem wS18n4 {T : TypeId → Option VTy} {H : VHeap} {op : Op} {ρ : Operand → VVal} {t : TypeId} {a : Operand} {y : VTy} {p : VVal} {n : Nat} {vs : List VVal} (ho : op = .load t a) (ha : ρ a = p) (hy : T t = some y) (hd : isAggDesc y.desc = true) (hn : y.size = n) (h : LdOkA H p n vs := by first | exact .inl ⟨_, _, rfl, by first | rfl | assumption | exact fgetN (α := BitVec 64) 0 (by omega) | exact fgetN (α := Int) 0 (by omega)⟩ | exact .inr ⟨_, _, _, _, rfl, by first | exact get_app rfl rfl | exact get_out (by assumption) | exact getE0 rfl rfl | exact get_out (get_app rfl rfl) | exact get_app rfl (by assumption) | assumption | (simp only [List.append_assoc, List.singleton_append, List.cons_append, List.nil_append]; refine getE (i := 0) rfl ?_ rfl; simp; done) | (simp only [List.append_assoc, List.singleton_append, List.cons_append, List.nil_append]; refine getE (i := 1) rfl ?_ rfl; simp; done) | (simp only [List.append_assoc, List.singleton_append, List.cons_append, List.nil_append]; refine getE (i := 2) rfl ?_ rfl; simp; done) | (simp only [List.append_assoc, List.singleton_append, List.cons_append, List.nil_append]; refine getE (i := 3) rfl ?_ rfl; simp; done) | (simp [*]; done), by first | rfl | assumption | exact fgetN (α := BitVec 64) 0 (by omega) | exact fgetN (α := Int) 0 (by omega)⟩) : vop T ρ H op = some (.agg vs, H) := v_ldA ho ha hy hd hn h
theorem wS18n5 {P : Prop} (h : P := by first | exact ⟨by rw [hds_p (by assumption)], rfl⟩ | exact ⟨by rw [hds_len (by omega)], rfl⟩ | exact ⟨by rw [hds_bad (k := k) hul (by omega) (by assumption)], rfl⟩ | (obtain rfl : k = us.length := by omega); exact ⟨by rw [hds_end hpk hul hfu, beq_d]; exact dec_d (by omega), rfl⟩) : P := h
theorem wS18n6 {T : TypeId → Option VTy} {H : VHeap} {op : Op} {ρ : Operand → VVal} {t ty : TypeId} {x y : Operand} {n m : Int} (ho : op = .binOp .add t x y ty) (hx : ρ x = .int .i64 n) (hy : ρ y = .int .i64 m) (h : -9223372036854775808 ≤ n + m ∧ n + m < 9223372036854775808 := by first | assumption | omega | (simp [*]; done) | (simp at *; omega)) : vop T ρ H op = some (.int .i64 (n + m), H) := v_addI ho hx hy h

/-- who may do a step, as a word -/
def wrd (p : Pb) (i : Nat) : BitVec 64 := if 0 ≤ p.fixed.getD i 0 then 1#64 <<< (p.fixed.getD i 0).toNat else p.who.getD i 0
theorem wrd_f {p : Pb} {i : Nat} (h : 0 ≤ p.fixed.getD i 0) : wrd p i = 1#64 <<< (p.fixed.getD i 0).toNat := if_pos h
theorem wrd_w {p : Pb} {i : Nat} (h : p.fixed.getD i 0 < 0) : wrd p i = p.who.getD i 0 := if_neg (by omega)
theorem one_shl {n k : Nat} : (1#64 <<< n).getLsbD k = (decide (k = n) && decide (k < 64)) := by
  rw [BitVec.getLsbD_shiftLeft, BitVec.getLsbD_one]
  by_cases h : k = n
  · subst h; simp
  · by_cases h2 : k < n
    · simp [h, h2]
    · have : ¬ k - n = 0 := by omega
      simp [h, this]
theorem high_bit {w : BitVec 64} {u k : Nat} (h : w >>> u = 0#64) (hk : u ≤ k) : w.getLsbD k = false := by
  have : (w >>> u).getLsbD (k - u) = false := by rw [h]; simp
  rw [BitVec.getLsbD_ushiftRight] at this
  rwa [show u + (k - u) = k by omega] at this
theorem has_flk {p : Pb} {i : Nat} {u : Int} (g : Go.V.Good p) (hi : i < p.who.length) : (decide (0 ≤ u ∧ u < 64) && (wrd p i).getLsbD u.toNat) = decide (flk p.users (p.fixed.getD i 0) (p.who.getD i 0) u = 0) := by
  have hok := g.ok i hi
  unfold okW at hok
  rw [Bool.and_eq_true, decide_eq_true_eq, decide_eq_true_eq] at hok
  have g2 := g.u64; have g4 := g.u0
  by_cases hu : u < 0 ∨ p.users ≤ u
  · rw [flk_2 hu, show decide ((2 : Int) = 0) = false from rfl]
    by_cases h0 : 0 ≤ u ∧ u < 64
    · rw [decide_eq_true h0, Bool.true_and]
      by_cases hf : 0 ≤ p.fixed.getD i 0
      · rw [wrd_f hf, one_shl, decide_eq_false (by omega), Bool.false_and]
      · rw [wrd_w (by omega)]
        exact high_bit hok.2 (by omega)
    · rw [decide_eq_false h0, Bool.false_and]
  · rw [decide_eq_true (by omega : 0 ≤ u ∧ u < 64), Bool.true_and]
    by_cases hf : 0 ≤ p.fixed.getD i 0
    · rw [wrd_f hf, one_shl, show decide (u.toNat < 64) = true from decide_eq_true (by omega), Bool.and_true]
      by_cases e : p.fixed.getD i 0 = u
      · rw [flk_0a hu hf e, decide_eq_true (by omega)]; rfl
      · rw [flk_3 hu hf e, decide_eq_false (by omega)]; rfl
    · rw [wrd_w (by omega)]
      cases hb : (p.who.getD i 0).getLsbD u.toNat with
      | true => rw [flk_0b hu (by omega) hb]; rfl
      | false => rw [flk_4 hu (by omega) hb]; rfl
/-- is it a plan? -/
def hds (p : Pb) (us : List Int) : Bool := decide (pck p = 0) && decide (flw p us = [])
theorem flU_mono {p : Pb} {us : List Int} {k n : Nat} (h : k ≤ n) (hn : flU p us n = []) : flU p us k = [] := by
  induction n with
  | zero => obtain rfl : k = 0 := by omega
            exact hn
  | succ n ih =>
    by_cases e : k = n + 1
    · subst e; exact hn
    · rw [flU_succ] at hn
      exact ih (by omega) (List.append_eq_nil_iff.1 hn).1
theorem hds_len {p : Pb} {us : List Int} (h : ¬ us.length = p.who.length) : hds p us = false := by unfold hds; rw [flw_len h]; simp
theorem hds_p {p : Pb} {us : List Int} (h : ¬ pck p = 0) : hds p us = false := by unfold hds; rw [decide_eq_false h, Bool.false_and]
theorem hds_bad {p : Pb} {us : List Int} {k : Nat} (hl : us.length = p.who.length) (hk : k < us.length) (h : ¬ flk p.users (p.fixed.getD k 0) (p.who.getD k 0) (us.getD k 0) = 0) : hds p us = false := by
  unfold hds
  have h2 : ¬ (flU p us us.length ++ flR (brk p.rules us)) = [] := fun e => by
    have h1 := flU_mono (k := k + 1) (by omega) (List.append_eq_nil_iff.1 e).1
    rw [flU_succ, if_neg h] at h1
    exact absurd (List.append_eq_nil_iff.1 h1).2 (by simp)
  rw [flw_in hl, decide_eq_false h2, Bool.and_false]
theorem hds_end {p : Pb} {us : List Int} (hp : pck p = 0) (hl : us.length = p.who.length) (h : flU p us us.length = []) : hds p us = decide ((brk p.rules us).length = 0) := by
  unfold hds
  rw [decide_eq_true hp, Bool.true_and, flw_in hl, h, List.nil_append]
  refine decide_eq_decide.2 ⟨fun e => ?_, fun e => ?_⟩
  · have := congrArg List.length e; rw [flR_len] at this; exact this
  · exact List.eq_nil_of_length_eq_zero (by rw [flR_len]; exact e)

theorem Word_spec {x : SW} (H : VHeap) (p : Pb) (i : Nat) (h1 : i < p.fixed.length) (h2 : i < p.who.length) : F (psys x) 51 [.agg (pbB p), iI (i : Nat)] H fun v G => v = iW (wrd p i) ∧ G = H := by
 refine F_body Try.func51 rfl uS18n20 rfl ?_
 refine B_seq (B_region ?_)
 refine Lo uS18n20 (v_boxT rfl rfl rfl) ?_
 refine Lo uS18n20 (v_const (VVal.int .u64 0) (.inr rfl) rfl) ?_
 refine L_nil (K_seq (B_seq (B_seq (B_region ?_))))
 refine Lo uS18n20 (rfl) ?_
 refine Lo uS18n20 (wS18n0 rfl rfl rfl rfl) ?_
 refine Lo uS18n20 (v_move (.inl rfl) rfl) ?_
 refine Lo uS18n20 (wS18n1 rfl rfl rfl rfl rfl rfl rfl) ?_
 refine Lo uS18n20 (wS18n0 rfl rfl rfl rfl) ?_
 refine Lo uS18n20 (v_move (.inr rfl) rfl) ?_
 refine L_nil (K_seq (B_seq (B_region ?_)))
 refine Lo uS18n20 (v_move (.inl rfl) rfl) ?_
 refine Lo uS18n20 (rfl) ?_
 refine L_nil (K_seq ?_)
 refine B_cond _ rfl (fun hc1 => ?_) (fun hc1 => ?_)
 ·try simp only [qB, qN] at hc1
  refine B_seq (B_region ?_)
  refine Lo uS18n20 (v_move (.inl rfl) rfl) ?_
  refine Lo uS18n20 (v_shl1 rfl rfl rfl (by first | assumption | omega | (simp [*]; done) | (simp at *; omega))) ?_
  refine Lo uS18n20 (v_move (.inr rfl) rfl) ?_
  refine L_nil (K_seq (B_ret (K_seqR ?_)))
  refine wS18n2 (.inr rfl) (vres_tmp rfl rfl) ?_
  exact wS18n3
 ·try simp only [qB, qN] at hc1
  refine B_skip (K_seq (B_seq (B_region ?_)))
  refine Lo uS18n20 (rfl) ?_
  refine Lo uS18n20 (wS18n0 rfl rfl rfl rfl) ?_
  refine Lo uS18n20 (v_move (.inl rfl) rfl) ?_
  refine Lo uS18n20 (wS18n1 rfl rfl rfl rfl rfl rfl rfl) ?_
  refine Lo uS18n20 (wS18n0 rfl rfl rfl rfl) ?_
  refine Lo uS18n20 (v_move (.inr rfl) rfl) ?_
  refine L_nil (K_seq (B_ret ?_))
  refine wS18n2 (.inr rfl) (vres_tmp rfl rfl) ?_
  exact wS18n3

theorem Holds_spec {x : SW} (H : VHeap) (p : Pb) (us : List Int) (hp : PbL p) (hu : us.length ≤ 1000000) : F (psys x) 30 [.agg (pbB p), fzI us] H fun v G => v = .bool (hds p us) ∧ G = H := by
 have hp1 := hp.u; have hp2 := hp.w; have hp3 := hp.f; have hp4 := hp.r
 refine F_body Try.func30 rfl uS18n39 rfl ?_
 refine B_seq (B_region ?_)
 refine Lo uS18n39 (v_boxT rfl rfl rfl) ?_
 refine Lo uS18n39 (v_const (VVal.bool false) (.inr rfl) rfl) ?_
 refine L_nil (K_seq (B_seq (B_seq (B_region ?_))))
 refine Lo uS18n39 (wS18n4 rfl rfl rfl rfl rfl) ?_
 refine L_call rfl rfl rfl (by exact sCheck_spec _ _ hp) ?_
 rintro _ _ ⟨rfl, rfl⟩
 refine Le uS18n39 ?_
 refine Lo uS18n39 (rfl) ?_
 refine Lo uS18n39 (v_move (.inl rfl) rfl) ?_
 refine L_split 10 (env1 := uS18n39) (env2 := uS18n39) rfl rfl rfl (fun hg1 => ?_) (fun hg1 => ?_)
 ·try simp only [qB, qN] at hg1
  refine Lf uS18n39 ?_
  refine Lf uS18n39 ?_
  refine Lf uS18n39 ?_
  refine Lf uS18n39 ?_
  refine Lf uS18n39 ?_
  refine Lf uS18n39 ?_
  refine Lo uS18n39 (v_pickTC (VVal.bool true) rfl rfl rfl) ?_
  refine L_nil (K_seq ?_)
  refine B_true rfl rfl ?_
  refine B_seq (B_region ?_)
  refine Lo uS18n39 (v_const (VVal.bool false) (.inr rfl) rfl) ?_
  refine L_nil (K_seq (B_ret (K_seqR ?_)))
  refine wS18n2 (.inr rfl) (vres_tmp rfl rfl) ?_
  exact wS18n5
 ·try simp only [qB, qN] at hg1
  refine Lo uS18n39 (v_move (.inl rfl) rfl) ?_
  refine Lo uS18n39 (rfl) ?_
  refine Lo uS18n39 (rfl) ?_
  refine Lo uS18n39 (wS18n0 rfl rfl rfl rfl) ?_
  refine Lo uS18n39 (rfl) ?_
  refine Lo uS18n39 (rfl) ?_
  refine Lo uS18n39 (v_pickF rfl rfl rfl) ?_
  refine L_nil (K_seq ?_)
  refine B_cond _ rfl (fun hc2 => ?_) (fun hc2 => ?_)
  ·try simp only [qB, qN] at hc2
   refine B_seq (B_region ?_)
   refine Lo uS18n39 (v_const (VVal.bool false) (.inr rfl) rfl) ?_
   refine L_nil (K_seq (B_ret (K_seqR ?_)))
   refine wS18n2 (.inr rfl) (vres_tmp rfl rfl) ?_
   exact wS18n5
  ·try simp only [qB, qN] at hc2
   refine B_skip (K_seq (B_seq (B_seq ?_)))
   have hpk : pck p = 0 := by assumption
   have g : Go.V.Good p := pck_good.1 hpk
   have hul : us.length = p.who.length := by omega
   have g5 := g.fx
   refine B_region ?_
   refine Lo uS18n39 (v_move (.inl rfl) rfl) ?_
   refine Lo uS18n39 (rfl) ?_
   refine Lo uS18n39 (v_const (VVal.int .i64 0) (.inl rfl) rfl) ?_
   refine L_nil (K_seq (B_block ?_))
   refine B_clear (mk 39 549753978873) (env' := uS18n39) rfl ?_
   refine B_loopE (fun (k : Nat) => us.length - k) (fun (k : Nat) => [(20, iI (k : Nat))]) (fun (k : Nat) G => (k ≤ us.length ∧ flU p us k = []) ∧ G = H ++ [VBlk.cells (pbB p) true]) 0 rfl ?_ ?_
   ·refine ⟨?_, rfl⟩
    exact ⟨Nat.zero_le _, rfl⟩
   rintro k _ ⟨⟨hk, hfu⟩, rfl⟩
   refine B_env (env' := uS18n39) rfl ?_
   refine B_seq (B_region ?_)
   refine Lo uS18n39 (rfl) ?_
   refine L_nil (K_seq (B_seq ?_))
   refine B_cond _ rfl (fun hc3 => ?_) (fun hc3 => ?_)
   ·try simp only [qB, qN] at hc3
    refine B_skip (K_seq (B_seq (B_block (B_seq (B_region ?_)))))
    refine Lo uS18n39 (v_move (.inl rfl) rfl) ?_
    refine Lo uS18n39 (wS18n1 rfl rfl rfl rfl rfl rfl rfl) ?_
    refine Lo uS18n39 (wS18n0 rfl rfl rfl rfl) ?_
    refine Lo uS18n39 (v_move (.inr rfl) rfl) ?_
    refine Lo uS18n39 (v_move (.inr rfl) rfl) ?_
    refine L_nil (K_seq (B_seq (B_region ?_)))
    refine Lo uS18n39 (wS18n4 rfl rfl rfl rfl rfl) ?_
    refine Lo uS18n39 (v_move (.inl rfl) rfl) ?_
    refine L_call rfl rfl rfl (by exact Word_spec _ _ _ (by omega) (by omega)) ?_
    rintro _ _ ⟨rfl, rfl⟩
    refine Le uS18n39 ?_
    refine L_call rfl rfl rfl (by exact sset_spec _ _) ?_
    rintro _ _ ⟨rfl, rfl⟩
    refine Le uS18n39 ?_
    refine Lo uS18n39 (v_move (.inl rfl) rfl) ?_
    refine L_call rfl rfl rfl (by exact Has_spec _ _ _) ?_
    rintro v _ ⟨hv, rfl⟩; obtain rfl : v = .bool (decide (flk p.users (p.fixed.getD k 0) (p.who.getD k 0) (us.getD k 0) = 0)) := hv.trans (by rw [has_flk g (by omega)])
    refine Le uS18n39 ?_
    refine Lo uS18n39 (rfl) ?_
    refine L_nil (K_seq ?_)
    refine B_cond _ rfl (fun hc4 => ?_) (fun hc4 => ?_)
    ·try simp only [qB, qN] at hc4
     refine B_seq (B_region ?_)
     refine Lo uS18n39 (v_const (VVal.bool false) (.inr rfl) rfl) ?_
     refine L_nil (K_seq (B_ret (K_blkR (K_seqR (K_loopR (K_blkR (K_seqR ?_)))))))
     refine wS18n2 (.inr rfl) (vres_tmp rfl rfl) ?_
     exact wS18n5
    ·try simp only [qB, qN] at hc4
     refine B_skip (K_blk (K_seq (B_region ?_)))
     refine Lo uS18n39 (wS18n6 rfl rfl rfl) ?_
     refine Lo uS18n39 (v_move (.inl rfl) rfl) ?_
     refine L_nil ?_
     refine K_loop (mk 39 549753978873) (env' := uS18n39) rfl ⟨k + 1, ?_, rfl, ?_⟩
     ·first | omega | (simp only []; omega)
     ·exact ⟨⟨by omega, by rw [flU_no (by assumption)]; exact hfu⟩, rfl⟩
   ·try simp only [qB, qN] at hc3
    refine B_exit (K_seqX (K_loopX (K_blkX (K_seq (B_seq (B_region ?_))))))
    refine Lo uS18n39 (rfl) ?_
    refine Lo uS18n39 (wS18n0 rfl rfl rfl rfl) ?_
    refine Lo uS18n39 (v_move (.inl rfl) rfl) ?_
    refine L_call rfl rfl rfl (by exact Broken_spec _ _ _ hp.s (by omega)) ?_
    rintro _ _ ⟨rfl, rfl⟩
    refine Le uS18n39 ?_
    refine Lo uS18n39 (rfl) ?_
    refine Lo uS18n39 (rfl) ?_
    refine Lo uS18n39 (v_move (.inr rfl) rfl) ?_
    refine L_nil (K_seq (B_ret ?_))
    refine wS18n2 (.inr rfl) (vres_tmp rfl rfl) ?_
    exact wS18n5

theorem few2P_spec {x : SW} (H : VHeap) (l : List UInt8) (hl : l.length ≤ 1000000) : F (psys x) 29 [fzB l] H fun v G => v = .slice (some (H.length, 0)) l.length l.length (decide (l.length = 0)) 1 ∧ G = H ++ [.cells (l.map iB) true] := by
 refine F_body Try.func29 rfl uS18n6 rfl ?_
 refine B_seq (B_region ?_)
 refine Lo uS18n6 (v_const (VVal.slice none 0 0 true 0) (.inr rfl) rfl) ?_
 refine L_nil (K_seq (B_seq (B_region ?_)))
 refine Lo uS18n6 (v_buildSlice rfl rfl (by decide) rfl) ?_
 refine Lo uS18n6 (v_move (.inl rfl) rfl) ?_
 refine L_opX rfl rfl (v_appE (k := l.length) rfl rfl rfl rfl rfl rfl rfl rfl (by rw [List.length_map]; exact (Nat.mul_one _).symm) (mapB_one _) (by decide) (by show l.length * 1 ≤ _ ∧ l.length ≤ _; omega)) ?_
 rintro _ _ ⟨Z, i, rfl, rfl, hi⟩
 refine Le uS18n6 ?_
 refine Lo uS18n6 (v_move (.inr rfl) rfl) ?_
 refine L_nil (K_seq (B_ret ?_))
 refine E_gh (.inr rfl) (vres_tmp rfl rfl) (Gh.pack (BaseOk.refl _) hi (mapB_under _ _)) ?_
 exact ⟨rfl, rfl⟩

theorem few2_spec {x : SW} (H : VHeap) (l : List UInt8) (hl : l.length ≤ 1000000) : F (psys x) 29 [fzB l] H fun v G => v = fzB l ∧ G = H :=
  F.gh (few2P_spec H l hl) fun v G h => by
    obtain ⟨rfl, rfl⟩ := h
    exact ⟨_, _, Gh.fsl (j := 0) (BaseOk.refl H) rfl map_all (Nat.le_refl _) (mapB_under _ _), rfl, rfl⟩
theorem Cut_id {x : SW} (H : VHeap) (p : Pb) (h : cutP p = p) : F (psys x) 8 [.agg (pbB p)] H fun v G => v = .agg (pbB p) ∧ G = H := by
  have := Cut_spec (x := x) H p
  rw [h] at this; exact this
theorem row_id {x : SW} (H : VHeap) (l : List Int) (h : l.length ≤ 30) : F (psys x) 10 [fzI l] H fun v G => v = fzI l ∧ G = H := by
  have := row_spec (x := x) H l
  rw [List.take_of_length_le h] at this; exact this
theorem cutP_good {p : Pb} (g : Go.V.Good p) : cutP p = p := by
  have g1 := g.n12; have g3 := g.r32; have g5 := g.fx
  have hr : (p.rules.take 40).map cutR = p.rules := by
    rw [List.take_of_length_le (by omega)]
    have : p.rules.map cutR = p.rules.map id := List.map_congr_left fun r hr => by
      have := rck_len (g.ru r hr)
      obtain ⟨a, b, c, ⟨⟩⟩ := r
      unfold cutR
      show (a, b, c.take 20, ()) = (a, b, c, ())
      rw [List.take_of_length_le (by have h9 : c.length ≤ 12 := this; omega)]
    rw [this, List.map_id]
  unfold cutP
  rw [hr, List.take_of_length_le (by omega), List.take_of_length_le (by omega)]
theorem eW_inv {p : Pb} {us : List Int} (h : eW p us = 0) : Go.V.Good p ∧ flw p us = [] := by
  unfold eW at h
  split at h
  · rename_i hp
    split at h
    · exact ⟨pck_good.1 hp, by assumption⟩
    · omega
  · rename_i hp; exact absurd h hp
theorem rdE_inv {raw : List UInt8} (h : rdE raw = 0) : Go.V.Good (pA raw) ∧ flw (pA raw) (uA raw) = [] := by
  unfold rdE at h
  split at h
  · omega
  · rename_i hp
    split at h
    · exact ⟨pck_good.1 (Decidable.byContradiction fun e => hp (.inr e)), by assumption⟩
    · omega
theorem cB_len {p : Pb} {us : List Int} (g : Go.V.Good p) : (cB p us).length ≤ 1000000 := by
  have g1 := g.n12; have g3 := g.r32
  have h := rusB_len (n := 0) p.rules (fun r hr => rck_len (g.ru r hr))
  unfold cB hdB
  simp only [List.length_append, stsB_len, List.length_cons, List.length_nil]; omega
theorem cW_is {p : Pb} {us : List Int} (h : eW p us = 0) : cW p us = cB p us := if_pos h
theorem back_eq {p : Pb} {us : List Int} (h : eW p us = 0) : VVal.tuple [.agg (pbB (rdPb (cW p us))), fzI (rdU (cW p us)), iI (rdE (cW p us))] = .tuple [.agg (pbB p), fzI us, iI 0] := by
  obtain ⟨g, hf⟩ := eW_inv h
  obtain ⟨h1, h2, h3⟩ := rd_back g hf
  rw [cW_is h, rd_0 h1, h2, h3]
theorem Gh.weaker {S : V.Sys} {H0 H : VHeap} {vs vs' : List VVal} (i : Nat) {v v' : VVal} (hv : vs[i]? = some v) (h : ∀ (ι : V.Inj) (x : Value), V.Rel ι v x → V.Rel ι v' x) (he : vs.set i v' = vs') : V.Gh S H0 vs H vs' H := by
  subst he
  intro hl
  refine ⟨hl, fun w ι xs hb s r => ?_⟩
  obtain ⟨x, hx, rx⟩ := r.get i _ hv
  refine ⟨ι, Inj.ex_refl _ _, s, ?_⟩
  have := RelL.set i r (h ι x rx)
  rwa [V.set_same hx] at this
theorem zPb_rel (ι : V.Inj) (x : Value) (h : V.Rel ι (.agg [iI 0, nilS, nilS, nilS]) x) : V.Rel ι (.agg (pbB zPb)) x := by
  simp only [V.Rel] at h ⊢
  obtain ⟨cs, rfl, r⟩ := h
  refine ⟨cs, rfl, ?_⟩
  simp only [V.RelL] at r ⊢
  obtain ⟨y0, t0, e0, r0', y1, t1, rfl, r1, y2, t2, rfl, r2, y3, t3, rfl, r3, rfl⟩ := r
  exact ⟨y0, _, e0, r0', y1, _, rfl, Rel.nilFsl r1, y2, _, rfl, Rel.nilFsl r2, y3, _, rfl, Rel.nilFsl r3, rfl⟩

theorem Holds_t {x : SW} (H : VHeap) (p : Pb) (us : List Int) (hp : PbL p) (hu : us.length ≤ 1000000) (h : Go.V.Good p ∧ flw p us = []) : F (psys x) 30 [.agg (pbB p), fzI us] H fun v G => v = .bool true ∧ G = H := by
  have h2 := Holds_spec (x := x) H p us hp hu
  have e : hds p us = true := by unfold hds; rw [decide_eq_true (pck_good.2 h.1), decide_eq_true h.2]; rfl
  rw [e] at h2; exact h2
end Go.Proofs.Ytbngdhlmggdaaaa.VT
