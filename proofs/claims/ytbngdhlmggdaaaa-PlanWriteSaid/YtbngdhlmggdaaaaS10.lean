/- certificates written: walks -/
import Derived.Test.YtbngdhlmggdaaaaS9
import Derived.Test.YtbngdhlmggdaaaaP21
set_option autoImplicit false
set_option linter.unusedVariables false
set_option linter.unusedSimpArgs false
set_option maxHeartbeats 4000000
set_option maxRecDepth 100000
namespace Go.Proofs.Ytbngdhlmggdaaaa.VT
open Go Go.V Go.RowKit

abbrev uS10n25 {a0 a1 a2 a3 a4 a5 a6 a7 a8 a9 a10 a11 a12 a13 a14 a15 a16 a17 a18 a19 a20 a21 a22 a23 a24 : VVal} : VEnv := a0 :: a1 :: a2 :: a3 :: a4 :: a5 :: a6 :: a7 :: a8 :: a9 :: a10 :: a11 :: a12 :: a13 :: a14 :: a15 :: a16 :: a17 :: a18 :: a19 :: a20 :: a21 :: a22 :: a23 :: a24 :: []
abbrev uS10n102 {a0 a1 a2 a3 a4 a5 a6 a7 a8 a9 a10 a11 a12 a13 a14 a15 a16 a17 a18 a19 a20 a21 a22 a23 a24 a25 a26 a27 a28 a29 a30 a31 a32 a33 a34 a35 a36 a37 a38 a39 a40 a41 a42 a43 a44 a45 a46 a47 a48 a49 a50 a51 a52 a53 a54 a55 a56 a57 a58 a59 a60 a61 a62 a63 a64 a65 a66 a67 a68 a69 a70 a71 a72 a73 a74 a75 a76 a77 a78 a79 a80 a81 a82 a83 a84 a85 a86 a87 a88 a89 a90 a91 a92 a93 a94 a95 a96 a97 a98 a99 a100 a101 : VVal} : VEnv := a0 :: a1 :: a2 :: a3 :: a4 :: a5 :: a6 :: a7 :: a8 :: a9 :: a10 :: a11 :: a12 :: a13 :: a14 :: a15 :: a16 :: a17 :: a18 :: a19 :: a20 :: a21 :: a22 :: a23 :: a24 :: a25 :: a26 :: a27 :: a28 :: a29 :: a30 :: a31 :: a32 :: a33 :: a34 :: a35 :: a36 :: a37 :: a38 :: a39 :: a40 :: a41 :: a42 :: a43 :: a44 :: a45 :: a46 :: a47 :: a48 :: a49 :: a50 :: a51 :: a52 :: a53 :: a54 :: a55 :: a56 :: a57 :: a58 :: a59 :: a60 :: a61 :: a62 :: a63 :: a64 :: a65 :: a66 :: a67 :: a68 :: a69 :: a70 :: a71 :: a72 :: a73 :: a74 :: a75 :: a76 :: a77 :: a78 :: a79 :: a80 :: a81 :: a82 :: a83 :: a84 :: a85 :: a86 :: a87 :: a88 :: a89 :: a90 :: a91 :: a92 :: a93 :: a94 :: a95 :: a96 :: a97 :: a98 :: a99 :: a100 :: a101 :: []

theorem wS10n0 {T : TypeId → Option VTy} {H : VHeap} {op : Op} {ρ : Operand → VVal} {t ty : TypeId} {x y : Operand} {n m : Int} (ho : op = .binOp .sub t x y ty) (hx : ρ x = .int .i64 n) (hy : ρ y = .int .i64 m) (h : -9223372036854775808 ≤ n - m ∧ n - m < 9223372036854775808 := by first | assumption | omega | (simp [*]; done) | (simp at *; omega)) : vop T ρ H op = some (.int .i64 (n - m), H) := v_subI ho hx hy h
theorem wS10n1 {T : TypeId → Option VTy} {H : VHeap} {op : Op} {ρ : Operand → VVal} {t : TypeId} {a : Operand} {y : VTy} {p v : VVal} (ho : op = .load t a) (ha : ρ a = p) (hy : T t = some y) (hd : isAggDesc y.desc = false) (h : LdOk H p v := by first | exact .inl ⟨_, _, rfl, by first | rfl | assumption | exact fget (α := BitVec 64) 0 (by omega) | exact fget (α := Int) 0 (by omega) | exact fget0 (α := BitVec 64) 0 (by omega) | exact fget0 (α := Int) 0 (by omega) | exact fget (α := Bool) false (by omega) | exact fget0 (α := Bool) false (by omega) | (simp [*]; done)⟩ | exact .inr ⟨_, _, _, _, rfl, by exact get_app hB r1.c, by first | rfl | assumption | exact fget (α := BitVec 64) 0 (by omega) | exact fget (α := Int) 0 (by omega) | exact fget0 (α := BitVec 64) 0 (by omega) | exact fget0 (α := Int) 0 (by omega) | exact fget (α := Bool) false (by omega) | exact fget0 (α := Bool) false (by omega) | (simp [*]; done)⟩) : vop T ρ H op = some (v, H) := v_ld ho ha hy hd h
theorem wS10n2 {T : TypeId → Option VTy} {H : VHeap} {op : Op} {ρ : VEnv} {H' : VHeap} {t : TypeId} {a : Operand} {i : Nat} {v : VVal} {y : VTy} {b off : Nat} {cs new : List VVal} (ho : op = .store t a (.tmp i)) (hv : ρ[i]? = some v) (ha : ρ.eval a = .ptr (some (b, off))) (hy : T t = some y) (hx : v.cells = some new) (hn : new.length = y.size) (h1 : new.all VVal.one = true) (hb : H[b]? = some (.cells cs true) := by exact get_app hB (get_append ((hY2 j r1.n).trans r1.c))) (hl : off + new.length ≤ cs.length := by first | exact Nat.le_of_ble_eq_true rfl | (simp only [List.length_map, List.length_cons, List.length_nil]; omega) | omega | (simp; done) | (simp; omega)) (hH : H.set b (.cells (splice cs off new) true) = H' := by exact set_app hB) : vop T ρ.eval H op = some (.skip, H') := v_storeT ho hv ha hy hx hn h1 hb hl hH
theorem wS10n3 {T : TypeId → Option VTy} {H : VHeap} {op : Op} {ρ : Operand → VVal} {t : TypeId} {a : Operand} {y : VTy} {p : VVal} {n : Nat} {vs : List VVal} (ho : op = .load t a) (ha : ρ a = p) (hy : T t = some y) (hd : isAggDesc y.desc = true) (hn : y.size = n) (h : LdOkA H p n vs := by first | exact .inl ⟨_, _, rfl, by first | rfl | assumption | exact fgetN (α := BitVec 64) 0 (by omega) | exact fgetN (α := Int) 0 (by omega) | exact rul_at (by omega)⟩ | exact .inr ⟨_, _, _, _, rfl, by first | exact get_app rfl rfl | exact get_out (by assumption) | exact getE0 rfl rfl | exact get_out (get_app rfl rfl) | exact get_app rfl (by assumption) | assumption | (simp only [List.append_assoc, List.singleton_append, List.cons_append, List.nil_append]; refine getE (i := 0) rfl ?_ rfl; simp; done) | (simp only [List.append_assoc, List.singleton_append, List.cons_append, List.nil_append]; refine getE (i := 1) rfl ?_ rfl; simp; done) | (simp only [List.append_assoc, List.singleton_append, List.cons_append, List.nil_append]; refine getE (i := 2) rfl ?_ rfl; simp; done) | (simp only [List.append_assoc, List.singleton_append, List.cons_append, List.nil_append]; refine getE (i := 3) rfl ?_ rfl; simp; done) | (simp [*]; done), by first | rfl | assumption | exact fgetN (α := BitVec 64) 0 (by omega) | exact fgetN (α := Int) 0 (by omega) | exact rul_at (by omega)⟩) : vop T ρ H op = some (.agg vs, H) := v_ldA ho ha hy hd hn h
theorem wS10n4 {T : TypeId → Option VTy} {H : VHeap} {op : Op} {ρ : VEnv} {H' : VHeap} {t : TypeId} {a : Operand} {i : Nat} {v : VVal} {y : VTy} {b off : Nat} {cs new : List VVal} (ho : op = .store t a (.tmp i)) (hv : ρ[i]? = some v) (ha : ρ.eval a = .ptr (some (b, off))) (hy : T t = some y) (hx : v.cells = some new) (hn : new.length = y.size) (h1 : new.all VVal.one = true) (hb : H[b]? = some (.cells cs true) := by first | exact get_app rfl rfl | exact get_out (by assumption) | exact getE0 rfl rfl | exact get_out (get_app rfl rfl) | exact get_app rfl (by assumption) | assumption | (simp only [List.append_assoc, List.singleton_append, List.cons_append, List.nil_append]; refine getE (i := 0) rfl ?_ rfl; simp; done) | (simp only [List.append_assoc, List.singleton_append, List.cons_append, List.nil_append]; refine getE (i := 1) rfl ?_ rfl; simp; done) | (simp only [List.append_assoc, List.singleton_append, List.cons_append, List.nil_append]; refine getE (i := 2) rfl ?_ rfl; simp; done) | (simp only [List.append_assoc, List.singleton_append, List.cons_append, List.nil_append]; refine getE (i := 3) rfl ?_ rfl; simp; done) | (simp [*]; done)) (hl : off + new.length ≤ cs.length := by first | exact Nat.le_of_ble_eq_true rfl | (simp only [List.length_map, List.length_cons, List.length_nil]; omega) | omega | (simp; done) | (simp; omega)) (hH : H.set b (.cells (splice cs off new) true) = H' := by first | exact setE0 rfl rfl | (simp only [List.append_assoc, List.singleton_append, List.cons_append, List.nil_append]; refine setE (i := 0) rfl ?_; simp; done) | (simp only [List.append_assoc, List.singleton_append, List.cons_append, List.nil_append]; refine setE (i := 1) rfl ?_; simp; done) | (simp only [List.append_assoc, List.singleton_append, List.cons_append, List.nil_append]; refine setE (i := 2) rfl ?_; simp; done) | (simp only [List.append_assoc, List.singleton_append, List.cons_append, List.nil_append]; refine setE (i := 3) rfl ?_; simp; done) | (refine setB rfl ?_; simp; done) | exact set_app rfl | exact set_out (lt_of_get (by assumption)) | rfl) : vop T ρ.eval H op = some (.skip, H') := v_storeT ho hv ha hy hx hn h1 hb hl hH
theorem wS10n5 {T : TypeId → Option VTy} {H : VHeap} {op : Op} {ρ : Operand → VVal} {t : TypeId} {a : Operand} {y : VTy} {p v : VVal} (ho : op = .load t a) (ha : ρ a = p) (hy : T t = some y) (hd : isAggDesc y.desc = false) (h : LdOk H p v := by first | exact .inl ⟨_, _, rfl, by first | rfl | assumption | exact fgetN (α := BitVec 64) 0 (by omega) | exact fgetN (α := Int) 0 (by omega) | exact rul_at (by omega)⟩ | exact .inr ⟨_, _, _, _, rfl, by first | exact get_app rfl rfl | exact get_out (by assumption) | exact getE0 rfl rfl | exact get_out (get_app rfl rfl) | exact get_app rfl (by assumption) | assumption | (simp only [List.append_assoc, List.singleton_append, List.cons_append, List.nil_append]; refine getE (i := 0) rfl ?_ rfl; simp; done) | (simp only [List.append_assoc, List.singleton_append, List.cons_append, List.nil_append]; refine getE (i := 1) rfl ?_ rfl; simp; done) | (simp only [List.append_assoc, List.singleton_append, List.cons_append, List.nil_append]; refine getE (i := 2) rfl ?_ rfl; simp; done) | (simp only [List.append_assoc, List.singleton_append, List.cons_append, List.nil_append]; refine getE (i := 3) rfl ?_ rfl; simp; done) | (simp [*]; done), by first | rfl | assumption | exact fgetN (α := BitVec 64) 0 (by omega) | exact fgetN (α := Int) 0 (by omega) | exact rul_at (by omega)⟩) : vop T ρ H op = some (v, H) := v_ld ho ha hy hd h
theorem wS10n6 {T : TypeId → Option VTy} {H : VHeap} {op : Op} {ρ : Operand → VVal} {t e : TypeId} {x i : Operand} {y z : VTy} {k : IntKind} {n : Int} {p v : VVal} {es : Nat} (ho : op = .indexAddr t x i) (hx : ρ x = p) (hi : ρ i = .int k n) (hy : T t = some y) (hd : y.desc = .slice e) (hz : T e = some z) (hs : z.size = es) (h : IxOk p es n v := by first | exact .inl ⟨_, _, _, rfl, by first | assumption | omega | (simp [*]; done) | (simp at *; omega), rfl⟩ | exact .inr ⟨_, _, _, _, _, rfl, by first | assumption | omega | (simp [*]; done) | (simp at *; omega), rfl⟩) : vop T ρ H op = some (v, H) := v_ix ho hx hi hy hd hz hs h
theorem wS10n7 {T : TypeId → Option VTy} {H : VHeap} {op : Op} {ρ : Operand → VVal} {t ty : TypeId} {x y : Operand} {n m : Int} (ho : op = .binOp .add t x y ty) (hx : ρ x = .int .i64 n) (hy : ρ y = .int .i64 m) (h : -9223372036854775808 ≤ n + m ∧ n + m < 9223372036854775808 := by have h9 := g.ok k (by omega); unfold okW at h9; rw [Bool.and_eq_true, decide_eq_true_eq] at h9; omega) : vop T ρ H op = some (.int .i64 (n + m), H) := v_addI ho hx hy h
theorem wS10n8 {T : TypeId → Option VTy} {H : VHeap} {op : Op} {ρ : Operand → VVal} {t ty : TypeId} {x y : Operand} {n m : Int} (ho : op = .binOp .add t x y ty) (hx : ρ x = .int .i64 n) (hy : ρ y = .int .i64 m) (h : -9223372036854775808 ≤ n + m ∧ n + m < 9223372036854775808 := by first | assumption | omega | (simp [*]; done) | (simp at *; omega)) : vop T ρ H op = some (.int .i64 (n + m), H) := v_addI ho hx hy h
theorem wS10n9 {T : TypeId → Option VTy} {H : VHeap} {op : Op} {ρ : Operand → VVal} {t : TypeId} {a : Operand} {y : VTy} {p v : VVal} (ho : op = .load t a) (ha : ρ a = p) (hy : T t = some y) (hd : isAggDesc y.desc = false) (h : LdOk H p v := by first | exact .inl ⟨_, _, rfl, by first | rfl | assumption | exact fgetN (α := BitVec 64) 0 (by omega) | exact fgetN (α := Int) 0 (by omega) | exact rul_at (by omega)⟩ | exact .inr ⟨_, _, _, _, rfl, by exact get_app (n := H.length + 1) (j := 1) (by simp) r.c, by first | rfl | assumption | exact fgetN (α := BitVec 64) 0 (by omega) | exact fgetN (α := Int) 0 (by omega) | exact rul_at (by omega)⟩) : vop T ρ H op = some (v, H) := v_ld ho ha hy hd h

theorem cellsB {cs : List VVal} {new : List VVal} (h : new.length = cs.length) : splice cs 0 new = new := by unfold splice; rw [h, Nat.zero_add, List.take_zero, List.drop_length]; simp
theorem flA_len0 {p : Pb} {us : List Int} (h : pck p = 0) (h2 : ¬ 0 < ((flA p us).length : Int)) : flw p us = [] := List.eq_nil_of_length_eq_zero (by rw [flA_0 h] at h2; omega)
theorem flA_pos {p : Pb} {us : List Int} (h : pck p = 0) (h2 : 0 < ((flA p us).length : Int)) : ¬ flw p us = [] := fun e => by rw [flA_0 h, e] at h2; simp at h2

theorem put_spec {x : SW} (B X : VHeap) (h j : Nat) (v : VVal) (L : List UInt8) (w : BitVec 64) (wide : Nat) (hB : B.length = h) (r : RB h X j v L) (hL : L.length ≤ 1000000) (hw : wide ≤ 8) : F (psys x) 37 [.ptr (some (h + j, 0)), iW w, iI (wide : Nat)] (B ++ X) fun u G => u = .tuple [] ∧ ∃ X1 v1, G = B ++ X1 ∧ RB h X1 j v1 (L ++ be w wide) := by
 refine F_body Try.func37 rfl uS10n25 rfl ?_
 refine B_seq (B_region ?_)
 refine L_op (env' := uS10n25) rfl rfl (v_move (.inl rfl) rfl) rfl ?_
 refine L_op (env' := uS10n25) rfl rfl (wS10n0 rfl rfl rfl) rfl ?_
 refine L_op (env' := uS10n25) rfl rfl (v_move (.inr rfl) rfl) rfl ?_
 refine L_nil (K_seq (B_block ?_))
 refine B_clear (mk 25 33554364) (env' := uS10n25) rfl ?_
 refine B_loopE (fun (m : Nat) => m) (fun (m : Nat) => [(6, iI ((m : Int) - 1))]) (fun (m : Nat) G => (m ≤ wide) ∧ ∃ X1 v1, G = B ++ X1 ∧ RB h X1 j v1 (L ++ ((be w wide).take (wide - m)))) wide rfl ?_ ?_
 ·refine ⟨?_, ⟨X, v, List.append_nil _, r.cast (by rw [Nat.sub_self, List.take_zero, List.append_nil])⟩⟩
  exact Nat.le_refl _
 rintro m _ ⟨hm, ⟨X1, v1, rfl, r1⟩⟩
 refine B_env (env' := uS10n25) rfl ?_
 refine B_seq (B_seq (B_region ?_))
 refine L_op (env' := uS10n25) rfl rfl (v_move (.inl rfl) rfl) rfl ?_
 refine L_op (env' := uS10n25) rfl rfl (rfl) rfl ?_
 refine L_nil (K_seq ?_)
 refine B_cond _ rfl (fun hc1 => ?_) (fun hc1 => ?_)
 ·try simp only [qB, qN] at hc1
  refine B_skip (K_seq (B_seq (B_block ?_)))
  refine B_draw [0, 1, 2, 3, 4, 5, 6, 7, 8, 9, 10, 11, 12] #[0, 0, 2, 6, 0, 0, 32, 112, 240, 496, 1022, 2047, 4095] (by kernel_rfl) (by kernel_rfl) (by kernel_rfl) ?_
  refine O_op (env' := uS10n25) (c := .calm) rfl rfl rfl (v_move (.inl rfl) rfl) rfl rfl rfl ?_
  refine O_op (env' := uS10n25) (c := .calm) rfl rfl rfl (v_move (.inl rfl) rfl) rfl rfl rfl ?_
  refine O_op (env' := uS10n25) (c := .calm) rfl rfl rfl (rfl) rfl rfl rfl ?_
  refine O_op (env' := uS10n25) (c := .look) rfl rfl rfl (wS10n1 rfl rfl rfl rfl) rfl rfl rfl ?_
  refine O_op (env' := uS10n25) (c := .calm) rfl rfl rfl (v_move (.inl rfl) rfl) rfl rfl rfl ?_
  refine O_op (env' := uS10n25) (c := .calm) rfl rfl rfl (v_move (.inl rfl) rfl) rfl rfl rfl ?_
  refine O_op (env' := uS10n25) (c := .calm) rfl rfl rfl (v_mulI rfl rfl rfl (by omega)) rfl rfl rfl ?_
  refine O_op (env' := uS10n25) (c := .calm) rfl rfl rfl (v_val (u := iW (w >>> (8 * (m - 1)))) (v_shrW rfl rfl rfl (by omega)) (by rw [show (8 * ((m : Int) - 1)).toNat = 8 * (m - 1) by omega])) rfl rfl rfl ?_
  refine O_op (env' := uS10n25) (c := .calm) rfl rfl rfl (v_cvWB rfl rfl rfl rfl rfl) rfl rfl rfl ?_
  refine O_op (env' := uS10n25) (c := .grow) rfl rfl rfl (v_buildSlice rfl rfl (by decide) rfl) rfl rfl rfl ?_
  refine O_opX .turn rfl rfl rfl (v_appXh rfl rfl rfl rfl rfl rfl rfl hB r1.l rfl rfl (by decide) (by have h9 := List.length_take_le (wide - m) (be w wide); rw [List.length_append]; show (_ + 1) * 1 ≤ _ ∧ _ + 1 ≤ _; omega) (by decide)) rfl rfl ?_
  rintro _ _ ⟨Y1, rfl, rfl, hY1, hY2, hY3⟩
  refine O_env (env' := uS10n25) rfl ?_
  refine O_op (env' := uS10n25) (c := .calm) rfl rfl rfl (rfl) rfl rfl rfl ?_
  refine O_op (env' := uS10n25) (c := .turn) rfl rfl rfl (wS10n2 rfl rfl rfl rfl rfl rfl rfl) rfl rfl rfl ?_
  refine O_nil [] (by kernel_rfl) (trivial) ?_
  refine K_blk (K_seq (B_region ?_))
  refine L_op (env' := uS10n25) rfl rfl (v_move (.inl rfl) rfl) rfl ?_
  refine L_op (env' := uS10n25) rfl rfl (wS10n0 rfl rfl rfl) rfl ?_
  refine L_op (env' := uS10n25) rfl rfl (v_move (.inr rfl) rfl) rfl ?_
  refine L_nil ?_
  refine K_loop (mk 25 33554364) (env' := uS10n25) rfl ⟨m - 1, ?_, (by rw [show (((m - 1 : Nat) : Int)) = (m : Int) - 1 by omega]; rfl), ?_⟩
  ·first | omega | (simp only []; omega)
  ·exact ⟨by omega, _, _, rfl, RB.cast (RB.push (RG.push r1 hY1 hY2 hY3).1) (by rw [be_step (by omega) (by omega), List.append_assoc])⟩
 ·try simp only [qB, qN] at hc1
  refine B_exit (K_seqX (K_loopX (K_blkX ?_)))
  refine E_keep (.inl rfl) (vres_none rfl) ?_
  obtain rfl : m = 0 := by omega
  exact ⟨rfl, _, _, rfl, r1.cast (by rw [Nat.sub_zero, List.take_of_length_le (by rw [be_len]; exact Nat.le_refl _)])⟩

theorem put1_spec {x : SW} (B X : VHeap) (h j : Nat) (v : VVal) (L : List UInt8) (n : Int) (hB : B.length = h) (r : RB h X j v L) (hL : L.length ≤ 1000000) : F (psys x) 37 [.ptr (some (h + j, 0)), iW (BitVec.ofInt 64 n), iI 1] (B ++ X) fun u G => u = .tuple [] ∧ ∃ X1 v1, G = B ++ X1 ∧ RB h X1 j v1 (L ++ [bI n]) := by
  have := put_spec (x := x) B X h j v L (BitVec.ofInt 64 n) 1 hB r hL (by decide)
  rw [be_1] at this; exact this

theorem Write_spec {x : SW} (H : VHeap) (p : Pb) (us : List Int) (hp : PbL p) (hu : us.length ≤ 1000000) : F (psys x) 15 [.agg (pbB p), fzI us] H fun v G => v = .tuple [fzB (cW p us), iI (eW p us)] ∧ G = H := by
 refine F_body Try.func15 rfl uS10n102 rfl ?_
 refine B_seq (B_region ?_)
 refine L_op (env' := uS10n102) rfl rfl (v_boxT rfl rfl rfl) rfl ?_
 refine L_op (env' := uS10n102) rfl rfl (v_const (VVal.slice none 0 0 true 0) (.inr rfl) rfl) rfl ?_
 refine L_op (env' := uS10n102) rfl rfl (v_const (VVal.int .i64 0) (.inr rfl) rfl) rfl ?_
 refine L_nil (K_seq (B_seq (B_region ?_)))
 refine L_op (env' := uS10n102) rfl rfl (wS10n3 rfl rfl rfl rfl rfl) rfl ?_
 refine L_op (env' := uS10n102) rfl rfl (v_move (.inl rfl) rfl) rfl ?_
 refine L_call rfl rfl rfl (by exact Flaws_spec _ _ _ hp hu) ?_
 rintro _ _ ⟨rfl, rfl⟩
 refine L_env (env' := uS10n102) rfl ?_
 refine L_op (env' := uS10n102) rfl rfl (v_move (.inl rfl) rfl) rfl ?_
 refine L_op (env' := uS10n102) rfl rfl (rfl) rfl ?_
 refine L_op (env' := uS10n102) rfl rfl (rfl) rfl ?_
 refine L_op (env' := uS10n102) rfl rfl (v_move (.inr rfl) rfl) rfl ?_
 refine L_op (env' := uS10n102) rfl rfl (v_move (.inr rfl) rfl) rfl ?_
 refine L_nil (K_seq (B_seq (B_block (B_seq (B_region ?_)))))
 refine L_op (env' := uS10n102) rfl rfl (v_move (.inl rfl) rfl) rfl ?_
 refine L_op (env' := uS10n102) rfl rfl (rfl) rfl ?_
 refine L_op (env' := uS10n102) rfl rfl (v_move (.inr rfl) rfl) rfl ?_
 refine L_nil (K_seq ?_)
 refine B_cond _ rfl (fun hc1 => ?_) (fun hc1 => ?_)
 ·try simp only [qB, qN] at hc1
  refine B_seq (B_region ?_)
  refine L_op (env' := uS10n102) rfl rfl (v_move (.inl rfl) rfl) rfl ?_
  refine L_op (env' := uS10n102) rfl rfl (v_const (VVal.slice none 0 0 true 0) (.inr rfl) rfl) rfl ?_
  refine L_op (env' := uS10n102) rfl rfl (v_move (.inr rfl) rfl) rfl ?_
  refine L_nil (K_seq ?_)
  refine B_gh (Gh.freezeNil 4 (es' := 1) rfl rfl) ?_
  refine B_ret (K_blkR (K_seqR ?_))
  refine E_app (.inr rfl) (vres_tmp2 rfl rfl rfl) (by first | exact BaseOk.refl _ | exact BaseOk.set (BaseOk.refl _) _ rfl) (by first | rfl | (simp only [VVal.under, VVal.underL, Bool.and_true]; exact mapB_under _ _)) ?_
  first
    | exact ⟨by unfold cW; rw [eW_1 (by assumption), if_neg (by assumption)]; rfl, rfl⟩
    | exact ⟨by unfold cW; rw [eW_2 hpk hne, if_neg (by decide)]; rfl, rfl⟩
    | exact ⟨by unfold cW; rw [eW_0 hpk hfl, if_pos rfl, cB, List.take_of_length_le (by omega)]; rfl, rfl⟩
 ·try simp only [qB, qN] at hc1
  refine B_seq (B_region ?_)
  refine L_op (env' := uS10n102) rfl rfl (v_move (.inl rfl) rfl) rfl ?_
  refine L_op (env' := uS10n102) rfl rfl (rfl) rfl ?_
  refine L_op (env' := uS10n102) rfl rfl (rfl) rfl ?_
  refine L_op (env' := uS10n102) rfl rfl (v_move (.inr rfl) rfl) rfl ?_
  refine L_nil (K_seq ?_)
  refine B_cond _ rfl (fun hc2 => ?_) (fun hc2 => ?_)
  ·try simp only [qB, qN] at hc2
   refine B_seq (B_region ?_)
   refine L_op (env' := uS10n102) rfl rfl (v_const (VVal.slice none 0 0 true 0) (.inr rfl) rfl) rfl ?_
   refine L_op (env' := uS10n102) rfl rfl (v_const (VVal.int .i64 1) (.inr rfl) rfl) rfl ?_
   refine L_nil (K_seq ?_)
   refine B_gh (Gh.freezeNil 4 (es' := 1) rfl rfl) ?_
   have hpk : pck p = 0 := by assumption
   have hne := flA_pos hpk (by assumption)
   refine B_ret (K_blkR (K_seqR ?_))
   refine E_app (.inr rfl) (vres_tmp2 rfl rfl rfl) (by first | exact BaseOk.refl _ | exact BaseOk.set (BaseOk.refl _) _ rfl) (by first | rfl | (simp only [VVal.under, VVal.underL, Bool.and_true]; exact mapB_under _ _)) ?_
   first
     | exact ⟨by unfold cW; rw [eW_1 (by assumption), if_neg (by assumption)]; rfl, rfl⟩
     | exact ⟨by unfold cW; rw [eW_2 hpk hne, if_neg (by decide)]; rfl, rfl⟩
     | exact ⟨by unfold cW; rw [eW_0 hpk hfl, if_pos rfl, cB, List.take_of_length_le (by omega)]; rfl, rfl⟩
  ·try simp only [qB, qN] at hc2
   refine B_skip (K_blk (K_seq (B_seq ?_)))
   have hpk : pck p = 0 := by assumption
   have g : Go.V.Good p := pck_good.1 hpk
   have g1 := g.n12; have g2 := g.u64; have g3 := g.r32; have g4 := g.u0; have g5 := g.fx
   have hfl : flw p us = [] := flA_len0 hpk (by omega)
   have hus := flw_0len hfl
   have hT : ∀ m, ∀ r, r ∈ p.rules.take m → r.steps.length ≤ 12 := fun m r hr => rck_len (g.ru r (List.mem_of_mem_take hr))
   refine B_region ?_
   refine L_op (env' := uS10n102) rfl rfl (v_buildSlice rfl rfl (by decide) rfl) rfl ?_
   refine L_gh (Gh.loosen 29 rfl rfl) ?_
   refine L_op (env' := uS10n102) rfl rfl (v_cvSl rfl rfl rfl rfl rfl rfl (get_app rfl rfl)) rfl ?_
   refine L_op (env' := uS10n102) rfl rfl (v_alloc rfl rfl) rfl ?_
   refine L_op (env' := uS10n102) rfl rfl (wS10n4 rfl rfl rfl rfl rfl rfl rfl) rfl ?_
   refine L_nil (K_seq (B_seq ?_))
   refine B_heap (H' := (H ++ [VBlk.cells (pbB p) true]) ++ [VBlk.cells ([80, 67].map iB) true, VBlk.cells [VVal.slice (some (H.length + 1, 0)) 2 2 false 1] true]) (List.append_assoc H [_] [_, _]).symm ?_
   have r : RB (H.length + 1) [VBlk.cells ([80, 67].map iB) true, VBlk.cells [VVal.slice (some (H.length + 1, 0)) 2 2 false 1] true] 1 (VVal.slice (some (H.length + 1, 0)) 2 2 false 1) [80, 67] := ⟨rfl, ⟨rfl, .inr ⟨by decide, 0, rfl, rfl⟩⟩, by simp [vidx]⟩
   refine B_region ?_
   refine L_op (env' := uS10n102) rfl rfl (rfl) rfl ?_
   refine L_op (env' := uS10n102) rfl rfl (wS10n5 rfl rfl rfl rfl) rfl ?_
   refine L_op (env' := uS10n102) rfl rfl (v_cvW rfl rfl rfl rfl rfl) rfl ?_
   refine L_call rfl rfl rfl (by exact put1_spec _ _ (H.length + 1) 1 _ _ _ (by simp) r (by simp only [List.length_append, List.length_cons, List.length_nil, be_len, stsB_len, hdB] <;> omega)) ?_
   rintro _ _ ⟨rfl, X, v, rfl, r⟩
   refine L_env (env' := uS10n102) rfl ?_
   refine L_nil (K_seq (B_seq (B_region ?_)))
   refine L_op (env' := uS10n102) rfl rfl (v_move (.inl rfl) rfl) rfl ?_
   refine L_op (env' := uS10n102) rfl rfl (rfl) rfl ?_
   refine L_op (env' := uS10n102) rfl rfl (v_cvW rfl rfl rfl rfl rfl) rfl ?_
   refine L_call rfl rfl rfl (by exact put1_spec _ _ (H.length + 1) 1 _ _ _ (by simp) r (by simp only [List.length_append, List.length_cons, List.length_nil, be_len, stsB_len, hdB] <;> omega)) ?_
   rintro _ _ ⟨rfl, X, v, rfl, r⟩
   refine L_env (env' := uS10n102) rfl ?_
   refine L_nil (K_seq (B_seq (B_seq (B_region ?_))))
   refine L_op (env' := uS10n102) rfl rfl (v_move (.inl rfl) rfl) rfl ?_
   refine L_op (env' := uS10n102) rfl rfl (rfl) rfl ?_
   refine L_op (env' := uS10n102) rfl rfl (v_const (VVal.int .i64 0) (.inl rfl) rfl) rfl ?_
   refine L_nil (K_seq (B_block ?_))
   refine B_clear (mk 102 5070602400912917602138522124027) (env' := uS10n102) rfl ?_
   refine B_loopE (fun (k : Nat) => us.length - k) (fun (k : Nat) => [(41, iI (k : Nat))]) (fun (k : Nat) G => (k ≤ us.length) ∧ ∃ X v, G = (H ++ [VBlk.cells (pbB p) true]) ++ X ∧ RB (H.length + 1) X 1 v (hdB p ++ stsB p us k)) 0 rfl ?_ ?_
   ·refine ⟨?_, ⟨_, _, rfl, r.cast (by rw [hus]; rfl)⟩⟩
    exact Nat.zero_le _
   rintro k _ ⟨hk, ⟨X, v, rfl, r⟩⟩
   refine B_env (env' := uS10n102) rfl ?_
   refine B_seq (B_region ?_)
   refine L_op (env' := uS10n102) rfl rfl (rfl) rfl ?_
   refine L_nil (K_seq (B_seq ?_))
   refine B_cond _ rfl (fun hc3 => ?_) (fun hc3 => ?_)
   ·try simp only [qB, qN] at hc3
    refine B_skip (K_seq (B_seq (B_block (B_seq (B_region ?_)))))
    refine L_op (env' := uS10n102) rfl rfl (v_move (.inl rfl) rfl) rfl ?_
    refine L_op (env' := uS10n102) rfl rfl (wS10n6 rfl rfl rfl rfl rfl rfl rfl) rfl ?_
    refine L_op (env' := uS10n102) rfl rfl (wS10n5 rfl rfl rfl rfl) rfl ?_
    refine L_op (env' := uS10n102) rfl rfl (v_move (.inr rfl) rfl) rfl ?_
    refine L_op (env' := uS10n102) rfl rfl (v_move (.inr rfl) rfl) rfl ?_
    refine L_nil (K_seq (B_seq (B_region ?_)))
    refine L_op (env' := uS10n102) rfl rfl (rfl) rfl ?_
    refine L_op (env' := uS10n102) rfl rfl (wS10n5 rfl rfl rfl rfl) rfl ?_
    refine L_op (env' := uS10n102) rfl rfl (v_move (.inl rfl) rfl) rfl ?_
    refine L_op (env' := uS10n102) rfl rfl (wS10n6 rfl rfl rfl rfl rfl rfl rfl) rfl ?_
    refine L_op (env' := uS10n102) rfl rfl (wS10n5 rfl rfl rfl rfl) rfl ?_
    refine L_call rfl rfl rfl (by exact put_spec _ _ (H.length + 1) 1 _ _ _ _ (by simp) r (by simp only [List.length_append, List.length_cons, List.length_nil, be_len, stsB_len, hdB] <;> omega) (by decide)) ?_
    rintro _ _ ⟨rfl, X, v, rfl, r⟩
    refine L_env (env' := uS10n102) rfl ?_
    refine L_nil (K_seq (B_seq (B_region ?_)))
    refine L_op (env' := uS10n102) rfl rfl (rfl) rfl ?_
    refine L_op (env' := uS10n102) rfl rfl (wS10n5 rfl rfl rfl rfl) rfl ?_
    refine L_op (env' := uS10n102) rfl rfl (v_move (.inl rfl) rfl) rfl ?_
    refine L_op (env' := uS10n102) rfl rfl (wS10n6 rfl rfl rfl rfl rfl rfl rfl) rfl ?_
    refine L_op (env' := uS10n102) rfl rfl (wS10n5 rfl rfl rfl rfl) rfl ?_
    refine L_op (env' := uS10n102) rfl rfl (wS10n7 rfl rfl rfl) rfl ?_
    refine L_op (env' := uS10n102) rfl rfl (v_cvW rfl rfl rfl rfl rfl) rfl ?_
    refine L_call rfl rfl rfl (by exact put1_spec _ _ (H.length + 1) 1 _ _ _ (by simp) r (by simp only [List.length_append, List.length_cons, List.length_nil, be_len, stsB_len, hdB] <;> omega)) ?_
    rintro _ _ ⟨rfl, X, v, rfl, r⟩
    refine L_env (env' := uS10n102) rfl ?_
    refine L_nil (K_seq (B_region ?_))
    refine L_op (env' := uS10n102) rfl rfl (v_move (.inl rfl) rfl) rfl ?_
    refine L_op (env' := uS10n102) rfl rfl (v_cvW rfl rfl rfl rfl rfl) rfl ?_
    refine L_call rfl rfl rfl (by exact put1_spec _ _ (H.length + 1) 1 _ _ _ (by simp) r (by simp only [List.length_append, List.length_cons, List.length_nil, be_len, stsB_len, hdB] <;> omega)) ?_
    rintro _ _ ⟨rfl, X, v, rfl, r⟩
    refine L_env (env' := uS10n102) rfl ?_
    refine L_nil (K_blk (K_seq (B_region ?_)))
    refine L_op (env' := uS10n102) rfl rfl (wS10n8 rfl rfl rfl) rfl ?_
    refine L_op (env' := uS10n102) rfl rfl (v_move (.inl rfl) rfl) rfl ?_
    refine L_nil ?_
    refine K_loop (mk 102 5070602400912917602138522124027) (env' := uS10n102) rfl ⟨k + 1, ?_, rfl, ?_⟩
    ·first | omega | (simp only []; omega)
    ·exact ⟨by omega, _, _, rfl, r.cast (by rw [stsB_succ, stB]; simp only [List.append_assoc, List.cons_append, List.nil_append])⟩
   ·try simp only [qB, qN] at hc3
    refine B_exit (K_seqX (K_loopX (K_blkX (K_seq (B_seq ?_)))))
    obtain rfl : k = us.length := by omega
    rw [hus] at r
    refine B_region ?_
    refine L_op (env' := uS10n102) rfl rfl (rfl) rfl ?_
    refine L_op (env' := uS10n102) rfl rfl (wS10n5 rfl rfl rfl rfl) rfl ?_
    refine L_op (env' := uS10n102) rfl rfl (rfl) rfl ?_
    refine L_op (env' := uS10n102) rfl rfl (v_cvW rfl rfl rfl rfl rfl) rfl ?_
    refine L_call rfl rfl rfl (by exact put1_spec _ _ (H.length + 1) 1 _ _ _ (by simp) r (by simp only [List.length_append, List.length_cons, List.length_nil, be_len, stsB_len, hdB] <;> omega)) ?_
    rintro _ _ ⟨rfl, X, v, rfl, r⟩
    refine L_env (env' := uS10n102) rfl ?_
    refine L_nil (K_seq (B_seq (B_seq (B_region ?_))))
    refine L_op (env' := uS10n102) rfl rfl (rfl) rfl ?_
    refine L_op (env' := uS10n102) rfl rfl (wS10n5 rfl rfl rfl rfl) rfl ?_
    refine L_op (env' := uS10n102) rfl rfl (rfl) rfl ?_
    refine L_op (env' := uS10n102) rfl rfl (v_const (VVal.int .i64 0) (.inl rfl) rfl) rfl ?_
    refine L_nil (K_seq (B_block ?_))
    refine B_clear (mk 102 5070602392648776260964933697279) (env' := uS10n102) rfl ?_
    refine B_loopE (fun (q : Nat) => p.rules.length - q) (fun (q : Nat) => [(72, iI (q : Nat))]) (fun (q : Nat) G => (q ≤ p.rules.length) ∧ ∃ X v, G = (H ++ [VBlk.cells (pbB p) true]) ++ X ∧ RB (H.length + 1) X 1 v (hdB p ++ stsB p us p.who.length ++ [bI p.rules.length] ++ (p.rules.take q).flatMap ruB)) 0 rfl ?_ ?_
    ·refine ⟨?_, ⟨_, _, rfl, r.cast (by simp)⟩⟩
     exact Nat.zero_le _
    rintro q _ ⟨hq, ⟨X, v, rfl, r⟩⟩
    refine B_env (env' := uS10n102) rfl ?_
    refine B_seq (B_region ?_)
    refine L_op (env' := uS10n102) rfl rfl (rfl) rfl ?_
    refine L_nil (K_seq (B_seq ?_))
    refine B_cond _ rfl (fun hc4 => ?_) (fun hc4 => ?_)
    ·try simp only [qB, qN] at hc4
     refine B_skip (K_seq (B_seq (B_block (B_seq (B_region ?_)))))
     refine L_op (env' := uS10n102) rfl rfl (wS10n6 rfl rfl rfl rfl rfl rfl rfl) rfl ?_
     refine L_op (env' := uS10n102) rfl rfl (wS10n3 rfl rfl rfl rfl rfl) rfl ?_
     refine L_op (env' := uS10n102) rfl rfl (v_alloc rfl rfl) rfl ?_
     refine L_op (env' := uS10n102) rfl rfl (wS10n4 rfl rfl rfl rfl rfl rfl rfl) rfl ?_
     refine L_nil (K_seq (B_seq ?_))
     refine B_gh (Gh.freezeEnd (cs := rlB (p.rules.getD q r0)) 12 rfl rfl) ?_
     have r := RG.app r [VBlk.dead]
     have hT := hT q
     have hs12 := rck_len (g.ru _ (rul_mem (l := p.rules) (k := q) (by omega)))
     refine B_region ?_
     refine L_op (env' := uS10n102) rfl rfl (rfl) rfl ?_
     refine L_op (env' := uS10n102) rfl rfl (wS10n5 rfl rfl rfl rfl) rfl ?_
     refine L_op (env' := uS10n102) rfl rfl (v_cvW rfl rfl rfl rfl rfl) rfl ?_
     refine L_call rfl rfl rfl (by exact put1_spec _ _ (H.length + 1) 1 _ _ _ (by simp) r (by have h9 := rusB_len (n := 0) (p.rules.take q) hT; rw [List.length_take] at h9; simp only [List.length_append, List.length_cons, List.length_nil, be_len, stsB_len, hdB, List.length_map, List.length_take]; omega)) ?_
     rintro _ _ ⟨rfl, X, v, rfl, r⟩
     refine L_env (env' := uS10n102) rfl ?_
     refine L_nil (K_seq (B_seq (B_region ?_)))
     refine L_op (env' := uS10n102) rfl rfl (rfl) rfl ?_
     refine L_op (env' := uS10n102) rfl rfl (wS10n5 rfl rfl rfl rfl) rfl ?_
     refine L_op (env' := uS10n102) rfl rfl (v_cvW rfl rfl rfl rfl rfl) rfl ?_
     refine L_call rfl rfl rfl (by exact put_spec _ _ (H.length + 1) 1 _ _ _ _ (by simp) r (by have h9 := rusB_len (n := 0) (p.rules.take q) hT; rw [List.length_take] at h9; simp only [List.length_append, List.length_cons, List.length_nil, be_len, stsB_len, hdB, List.length_map, List.length_take]; omega) (by decide)) ?_
     rintro _ _ ⟨rfl, X, v, rfl, r⟩
     refine L_env (env' := uS10n102) rfl ?_
     refine L_nil (K_seq (B_seq (B_region ?_)))
     refine L_op (env' := uS10n102) rfl rfl (rfl) rfl ?_
     refine L_op (env' := uS10n102) rfl rfl (wS10n5 rfl rfl rfl rfl) rfl ?_
     refine L_op (env' := uS10n102) rfl rfl (rfl) rfl ?_
     refine L_op (env' := uS10n102) rfl rfl (v_cvW rfl rfl rfl rfl rfl) rfl ?_
     refine L_call rfl rfl rfl (by exact put1_spec _ _ (H.length + 1) 1 _ _ _ (by simp) r (by have h9 := rusB_len (n := 0) (p.rules.take q) hT; rw [List.length_take] at h9; simp only [List.length_append, List.length_cons, List.length_nil, be_len, stsB_len, hdB, List.length_map, List.length_take]; omega)) ?_
     rintro _ _ ⟨rfl, X, v, rfl, r⟩
     refine L_env (env' := uS10n102) rfl ?_
     refine L_nil (K_seq (B_seq (B_region ?_)))
     refine L_op (env' := uS10n102) rfl rfl (rfl) rfl ?_
     refine L_op (env' := uS10n102) rfl rfl (wS10n5 rfl rfl rfl rfl) rfl ?_
     refine L_op (env' := uS10n102) rfl rfl (rfl) rfl ?_
     refine L_op (env' := uS10n102) rfl rfl (v_const (VVal.int .i64 0) (.inl rfl) rfl) rfl ?_
     refine L_nil (K_seq (B_block ?_))
     refine B_clear (mk 102 5061936812373778599040639827711) (env' := uS10n102) rfl ?_
     refine B_loopE (fun (s : Nat) => (p.rules.getD q r0).steps.length - s) (fun (s : Nat) => [(92, iI (s : Nat))]) (fun (s : Nat) G => (s ≤ (p.rules.getD q r0).steps.length) ∧ ∃ X v, G = (H ++ [VBlk.cells (pbB p) true]) ++ X ∧ RB (H.length + 1) X 1 v (hdB p ++ stsB p us p.who.length ++ [bI p.rules.length] ++ (p.rules.take q).flatMap ruB ++ ([bI (p.rules.getD q r0).kind] ++ be (BitVec.ofInt 64 (p.rules.getD q r0).k) 4 ++ [bI (p.rules.getD q r0).steps.length] ++ ((p.rules.getD q r0).steps.take s).map bI))) 0 rfl ?_ ?_
     ·refine ⟨?_, ⟨_, _, rfl, r.cast (by simp)⟩⟩
      exact Nat.zero_le _
     rintro s _ ⟨hs, ⟨X, v, rfl, r⟩⟩
     refine B_env (env' := uS10n102) rfl ?_
     refine B_seq (B_region ?_)
     refine L_op (env' := uS10n102) rfl rfl (rfl) rfl ?_
     refine L_nil (K_seq (B_seq ?_))
     refine B_cond _ rfl (fun hc5 => ?_) (fun hc5 => ?_)
     ·try simp only [qB, qN] at hc5
      refine B_skip (K_seq (B_seq (B_block (B_seq (B_region ?_)))))
      refine L_op (env' := uS10n102) rfl rfl (wS10n6 rfl rfl rfl rfl rfl rfl rfl) rfl ?_
      refine L_op (env' := uS10n102) rfl rfl (wS10n5 rfl rfl rfl rfl) rfl ?_
      refine L_op (env' := uS10n102) rfl rfl (v_move (.inr rfl) rfl) rfl ?_
      refine L_nil (K_seq (B_region ?_))
      refine L_op (env' := uS10n102) rfl rfl (v_move (.inl rfl) rfl) rfl ?_
      refine L_op (env' := uS10n102) rfl rfl (v_cvW rfl rfl rfl rfl rfl) rfl ?_
      refine L_call rfl rfl rfl (by exact put1_spec _ _ (H.length + 1) 1 _ _ _ (by simp) r (by have h9 := rusB_len (n := 0) (p.rules.take q) hT; rw [List.length_take] at h9; simp only [List.length_append, List.length_cons, List.length_nil, be_len, stsB_len, hdB, List.length_map, List.length_take]; omega)) ?_
      rintro _ _ ⟨rfl, X, v, rfl, r⟩
      refine L_env (env' := uS10n102) rfl ?_
      refine L_nil (K_blk (K_seq (B_region ?_)))
      refine L_op (env' := uS10n102) rfl rfl (wS10n8 rfl rfl rfl) rfl ?_
      refine L_op (env' := uS10n102) rfl rfl (v_move (.inl rfl) rfl) rfl ?_
      refine L_nil ?_
      refine K_loop (mk 102 5061936812373778599040639827711) (env' := uS10n102) rfl ⟨s + 1, ?_, rfl, ?_⟩
      ·first | omega | (simp only []; omega)
      ·exact ⟨by omega, _, _, rfl, r.cast (by rw [take_at (d := 0) (l := (p.rules.getD q r0).steps) (by omega), List.map_append]; simp)⟩
     ·try simp only [qB, qN] at hc5
      refine B_exit (K_seqX (K_loopX (K_blkX (K_blk (K_seq (B_region ?_))))))
      refine L_op (env' := uS10n102) rfl rfl (wS10n8 rfl rfl rfl) rfl ?_
      refine L_op (env' := uS10n102) rfl rfl (v_move (.inl rfl) rfl) rfl ?_
      refine L_nil ?_
      obtain rfl : s = (p.rules.getD q r0).steps.length := by omega
      refine K_loop (mk 102 5070602392648776260964933697279) (env' := uS10n102) rfl ⟨q + 1, ?_, rfl, ?_⟩
      ·first | omega | (simp only []; omega)
      ·exact ⟨by omega, _, _, rfl, r.cast (by rw [rusB_succ (d := r0) (by omega), ruB, List.take_of_length_le (Nat.le_refl _)]; simp only [List.append_assoc, List.cons_append, List.nil_append])⟩
    ·try simp only [qB, qN] at hc4
     refine B_exit (K_seqX (K_loopX (K_blkX (K_seq (B_seq (B_region ?_))))))
     refine L_op (env' := uS10n102) rfl rfl (wS10n9 rfl rfl rfl rfl) rfl ?_
     refine L_op (env' := uS10n102) rfl rfl (v_move (.inr rfl) rfl) rfl ?_
     refine L_op (env' := uS10n102) rfl rfl (v_const (VVal.int .i64 0) (.inr rfl) rfl) rfl ?_
     refine L_nil (K_seq ?_)
     refine B_ghLVh (env' := uS10n102) 4 r.l (by simp) rfl rfl fun X9 _ _ => ?_
     refine B_heap (List.append_assoc _ _ _) ?_
     refine B_ret ?_
     refine E_app (.inr rfl) (vres_tmp2 rfl rfl rfl) (by first | exact BaseOk.refl _ | exact BaseOk.set (BaseOk.refl _) _ rfl) (by first | rfl | (simp only [VVal.under, VVal.underL, Bool.and_true]; exact mapB_under _ _)) ?_
     first
       | exact ⟨by unfold cW; rw [eW_1 (by assumption), if_neg (by assumption)]; rfl, rfl⟩
       | exact ⟨by unfold cW; rw [eW_2 hpk hne, if_neg (by decide)]; rfl, rfl⟩
       | exact ⟨by unfold cW; rw [eW_0 hpk hfl, if_pos rfl, cB, List.take_of_length_le (by omega)]; rfl, rfl⟩
end Go.Proofs.Ytbngdhlmggdaaaa.VT
