/- the document's certificates written: walks -/
import Derived.Test.YtbngdhlmggdaaaaS9
import Derived.Test.YtbngdhlmggdaaaaP21
set_option autoImplicit false
set_option linter.unusedVariables false
set_option linter.unusedSimpArgs false
set_option maxHeartbeats 4000000
set_option maxRecDepth 100000
namespace Go.Proofs.Ytbngdhlmggdaaaa.VT
open Go Go.V Go.RowKit

abbrev uS11n20 {a0 a1 a2 a3 a4 a5 a6 a7 a8 a9 a10 a11 a12 a13 a14 a15 a16 a17 a18 a19 : VVal} : VEnv := a0 :: a1 :: a2 :: a3 :: a4 :: a5 :: a6 :: a7 :: a8 :: a9 :: a10 :: a11 :: a12 :: a13 :: a14 :: a15 :: a16 :: a17 :: a18 :: a19 :: []
abbrev uS11n23 {a0 a1 a2 a3 a4 a5 a6 a7 a8 a9 a10 a11 a12 a13 a14 a15 a16 a17 a18 a19 a20 a21 a22 : VVal} : VEnv := a0 :: a1 :: a2 :: a3 :: a4 :: a5 :: a6 :: a7 :: a8 :: a9 :: a10 :: a11 :: a12 :: a13 :: a14 :: a15 :: a16 :: a17 :: a18 :: a19 :: a20 :: a21 :: a22 :: []
abbrev uS11n103 {a0 a1 a2 a3 a4 a5 a6 a7 a8 a9 a10 a11 a12 a13 a14 a15 a16 a17 a18 a19 a20 a21 a22 a23 a24 a25 a26 a27 a28 a29 a30 a31 a32 a33 a34 a35 a36 a37 a38 a39 a40 a41 a42 a43 a44 a45 a46 a47 a48 a49 a50 a51 a52 a53 a54 a55 a56 a57 a58 a59 a60 a61 a62 a63 a64 a65 a66 a67 a68 a69 a70 a71 a72 a73 a74 a75 a76 a77 a78 a79 a80 a81 a82 a83 a84 a85 a86 a87 a88 a89 a90 a91 a92 a93 a94 a95 a96 a97 a98 a99 a100 a101 a102 : VVal} : VEnv := a0 :: a1 :: a2 :: a3 :: a4 :: a5 :: a6 :: a7 :: a8 :: a9 :: a10 :: a11 :: a12 :: a13 :: a14 :: a15 :: a16 :: a17 :: a18 :: a19 :: a20 :: a21 :: a22 :: a23 :: a24 :: a25 :: a26 :: a27 :: a28 :: a29 :: a30 :: a31 :: a32 :: a33 :: a34 :: a35 :: a36 :: a37 :: a38 :: a39 :: a40 :: a41 :: a42 :: a43 :: a44 :: a45 :: a46 :: a47 :: a48 :: a49 :: a50 :: a51 :: a52 :: a53 :: a54 :: a55 :: a56 :: a57 :: a58 :: a59 :: a60 :: a61 :: a62 :: a63 :: a64 :: a65 :: a66 :: a67 :: a68 :: a69 :: a70 :: a71 :: a72 :: a73 :: a74 :: a75 :: a76 :: a77 :: a78 :: a79 :: a80 :: a81 :: a82 :: a83 :: a84 :: a85 :: a86 :: a87 :: a88 :: a89 :: a90 :: a91 :: a92 :: a93 :: a94 :: a95 :: a96 :: a97 :: a98 :: a99 :: a100 :: a101 :: a102 :: []

theorem wS11n0 {T : TypeId → Option VTy} {H : VHeap} {op : Op} {ρ : Operand → VVal} {t ty : TypeId} {x y : Operand} {n m : Int} (ho : op = .binOp .sub t x y ty) (hx : ρ x = .int .i64 n) (hy : ρ y = .int .i64 m) (h : -9223372036854775808 ≤ n - m ∧ n - m < 9223372036854775808 := by first | assumption | omega | (simp [*]; done) | (simp at *; omega)) : vop T ρ H op = some (.int .i64 (n - m), H) := v_subI ho hx hy h
theorem wS11n1 {T : TypeId → Option VTy} {H : VHeap} {op : Op} {ρ : Operand → VVal} {t e : TypeId} {x i : Operand} {y z : VTy} {k : IntKind} {n : Int} {p v : VVal} {es : Nat} (ho : op = .indexAddr t x i) (hx : ρ x = p) (hi : ρ i = .int k n) (hy : T t = some y) (hd : y.desc = .slice e) (hz : T e = some z) (hs : z.size = es) (h : IxOk p es n v := by first | exact .inl ⟨_, _, _, rfl, by omega, rfl⟩ | exact .inr ⟨_, _, _, _, _, rfl, by omega, rfl⟩) : vop T ρ H op = some (v, H) := v_ix ho hx hi hy hd hz hs h
theorem wS11n2 {T : TypeId → Option VTy} {H : VHeap} {op : Op} {ρ : VEnv} {H' : VHeap} {t : TypeId} {a : Operand} {i : Nat} {v : VVal} {y : VTy} {b off : Nat} {cs new : List VVal} (ho : op = .store t a (.tmp i)) (hv : ρ[i]? = some v) (ha : ρ.eval a = .ptr (some (b, off))) (hy : T t = some y) (hx : v.cells = some new) (hn : new.length = y.size) (h1 : new.all VVal.one = true) (hb : H[b]? = some (.cells cs true) := by first | exact get_app rfl rfl | exact get_out (by assumption) | exact getE0 rfl rfl | exact get_out (get_app rfl rfl) | exact get_app rfl (by assumption) | assumption | (simp only [List.append_assoc, List.singleton_append, List.cons_append, List.nil_append]; refine getE (i := 0) rfl ?_ rfl; simp; done) | (simp only [List.append_assoc, List.singleton_append, List.cons_append, List.nil_append]; refine getE (i := 1) rfl ?_ rfl; simp; done) | (simp only [List.append_assoc, List.singleton_append, List.cons_append, List.nil_append]; refine getE (i := 2) rfl ?_ rfl; simp; done) | (simp only [List.append_assoc, List.singleton_append, List.cons_append, List.nil_append]; refine getE (i := 3) rfl ?_ rfl; simp; done) | (simp [*]; done)) (hl : off + new.length ≤ cs.length := by rw [nu_len hm]; show 0 + _ * 1 + 1 ≤ _; omega) (hH : H.set b (.cells (splice cs off new) true) = H' := by exact (congrArg (fun c => List.set _ _ (VBlk.cells c true)) (nu_step (by omega) hm)).trans (set_app rfl)) : vop T ρ.eval H op = some (.skip, H') := v_storeT ho hv ha hy hx hn h1 hb hl hH
theorem wS11n3 {T : TypeId → Option VTy} {H : VHeap} {op : Op} {ρ : Operand → VVal} {t : TypeId} {a : Operand} {y : VTy} {p v : VVal} (ho : op = .load t a) (ha : ρ a = p) (hy : T t = some y) (hd : isAggDesc y.desc = false) (h : LdOk H p v := by first | exact .inl ⟨_, _, rfl, by first | rfl | assumption | exact fgetN (α := BitVec 64) 0 (by omega) | exact fgetN (α := Int) 0 (by omega) | exact rul_at (by omega)⟩ | exact .inr ⟨_, _, _, _, rfl, by first | exact get_app rfl rfl | exact get_out (by assumption) | exact getE0 rfl rfl | exact get_out (get_app rfl rfl) | exact get_app rfl (by assumption) | assumption | (simp only [List.append_assoc, List.singleton_append, List.cons_append, List.nil_append]; refine getE (i := 0) rfl ?_ rfl; simp; done) | (simp only [List.append_assoc, List.singleton_append, List.cons_append, List.nil_append]; refine getE (i := 1) rfl ?_ rfl; simp; done) | (simp only [List.append_assoc, List.singleton_append, List.cons_append, List.nil_append]; refine getE (i := 2) rfl ?_ rfl; simp; done) | (simp only [List.append_assoc, List.singleton_append, List.cons_append, List.nil_append]; refine getE (i := 3) rfl ?_ rfl; simp; done) | (simp [*]; done), by first | rfl | assumption | exact fgetN (α := BitVec 64) 0 (by omega) | exact fgetN (α := Int) 0 (by omega) | exact rul_at (by omega)⟩) : vop T ρ H op = some (v, H) := v_ld ho ha hy hd h
theorem wS11n4 {T : TypeId → Option VTy} {H : VHeap} {op : Op} {ρ : Operand → VVal} {t e : TypeId} {x i : Operand} {y z : VTy} {k : IntKind} {n : Int} {p v : VVal} {es : Nat} (ho : op = .indexAddr t x i) (hx : ρ x = p) (hi : ρ i = .int k n) (hy : T t = some y) (hd : y.desc = .slice e) (hz : T e = some z) (hs : z.size = es) (h : IxOk p es n v := by first | exact .inl ⟨_, _, _, rfl, by first | assumption | omega | (simp [*]; done) | (simp at *; omega), rfl⟩ | exact .inr ⟨_, _, _, _, _, rfl, by first | assumption | omega | (simp [*]; done) | (simp at *; omega), rfl⟩) : vop T ρ H op = some (v, H) := v_ix ho hx hi hy hd hz hs h
theorem wS11n5 {T : TypeId → Option VTy} {H : VHeap} {op : Op} {ρ : Operand → VVal} {t ty : TypeId} {x y : Operand} {n m : Int} (ho : op = .binOp .add t x y ty) (hx : ρ x = .int .i64 n) (hy : ρ y = .int .i64 m) (h : -9223372036854775808 ≤ n + m ∧ n + m < 9223372036854775808 := by have h9 := g.ok i (by omega); unfold okW at h9; rw [Bool.and_eq_true, decide_eq_true_eq] at h9; omega) : vop T ρ H op = some (.int .i64 (n + m), H) := v_addI ho hx hy h
theorem wS11n6 {T : TypeId → Option VTy} {H : VHeap} {op : Op} {ρ : Operand → VVal} {t ty : TypeId} {x y : Operand} {n m : Int} (ho : op = .binOp .add t x y ty) (hx : ρ x = .int .i64 n) (hy : ρ y = .int .i64 m) (h : -9223372036854775808 ≤ n + m ∧ n + m < 9223372036854775808 := by first | assumption | omega | (simp [*]; done) | (simp at *; omega)) : vop T ρ H op = some (.int .i64 (n + m), H) := v_addI ho hx hy h
theorem wS11n7 {T : TypeId → Option VTy} {H : VHeap} {op : Op} {ρ : Operand → VVal} {t : TypeId} {a : Operand} {y : VTy} {p : VVal} {n : Nat} {vs : List VVal} (ho : op = .load t a) (ha : ρ a = p) (hy : T t = some y) (hd : isAggDesc y.desc = true) (hn : y.size = n) (h : LdOkA H p n vs := by first | exact .inl ⟨_, _, rfl, by first | rfl | assumption | exact fgetN (α := BitVec 64) 0 (by omega) | exact fgetN (α := Int) 0 (by omega) | exact rul_at (by omega)⟩ | exact .inr ⟨_, _, _, _, rfl, by first | exact get_app rfl rfl | exact get_out (by assumption) | exact getE0 rfl rfl | exact get_out (get_app rfl rfl) | exact get_app rfl (by assumption) | assumption | (simp only [List.append_assoc, List.singleton_append, List.cons_append, List.nil_append]; refine getE (i := 0) rfl ?_ rfl; simp; done) | (simp only [List.append_assoc, List.singleton_append, List.cons_append, List.nil_append]; refine getE (i := 1) rfl ?_ rfl; simp; done) | (simp only [List.append_assoc, List.singleton_append, List.cons_append, List.nil_append]; refine getE (i := 2) rfl ?_ rfl; simp; done) | (simp only [List.append_assoc, List.singleton_append, List.cons_append, List.nil_append]; refine getE (i := 3) rfl ?_ rfl; simp; done) | (simp [*]; done), by first | rfl | assumption | exact fgetN (α := BitVec 64) 0 (by omega) | exact fgetN (α := Int) 0 (by omega) | exact rul_at (by omega)⟩) : vop T ρ H op = some (.agg vs, H) := v_ldA ho ha hy hd hn h
theorem wS11n8 {T : TypeId → Option VTy} {H : VHeap} {op : Op} {ρ : VEnv} {H' : VHeap} {t : TypeId} {a : Operand} {i : Nat} {v : VVal} {y : VTy} {b off : Nat} {cs new : List VVal} (ho : op = .store t a (.tmp i)) (hv : ρ[i]? = some v) (ha : ρ.eval a = .ptr (some (b, off))) (hy : T t = some y) (hx : v.cells = some new) (hn : new.length = y.size) (h1 : new.all VVal.one = true) (hb : H[b]? = some (.cells cs true) := by first | exact get_app rfl rfl | exact get_out (by assumption) | exact getE0 rfl rfl | exact get_out (get_app rfl rfl) | exact get_app rfl (by assumption) | assumption | (simp only [List.append_assoc, List.singleton_append, List.cons_append, List.nil_append]; refine getE (i := 0) rfl ?_ rfl; simp; done) | (simp only [List.append_assoc, List.singleton_append, List.cons_append, List.nil_append]; refine getE (i := 1) rfl ?_ rfl; simp; done) | (simp only [List.append_assoc, List.singleton_append, List.cons_append, List.nil_append]; refine getE (i := 2) rfl ?_ rfl; simp; done) | (simp only [List.append_assoc, List.singleton_append, List.cons_append, List.nil_append]; refine getE (i := 3) rfl ?_ rfl; simp; done) | (simp [*]; done)) (hl : off + new.length ≤ cs.length := by first | exact Nat.le_of_ble_eq_true rfl | (simp only [List.length_map, List.length_cons, List.length_nil]; omega) | omega | (simp; done) | (simp; omega)) (hH : H.set b (.cells (splice cs off new) true) = H' := by first | exact setE0 rfl rfl | (simp only [List.append_assoc, List.singleton_append, List.cons_append, List.nil_append]; refine setE (i := 0) rfl ?_; simp; done) | (simp only [List.append_assoc, List.singleton_append, List.cons_append, List.nil_append]; refine setE (i := 1) rfl ?_; simp; done) | (simp only [List.append_assoc, List.singleton_append, List.cons_append, List.nil_append]; refine setE (i := 2) rfl ?_; simp; done) | (simp only [List.append_assoc, List.singleton_append, List.cons_append, List.nil_append]; refine setE (i := 3) rfl ?_; simp; done) | (refine setB rfl ?_; simp; done) | exact set_app rfl | exact set_out (lt_of_get (by assumption)) | rfl) : vop T ρ.eval H op = some (.skip, H') := v_storeT ho hv ha hy hx hn h1 hb hl hH
theorem wS11n9 {T : TypeId → Option VTy} {H : VHeap} {op : Op} {ρ : Operand → VVal} {t : TypeId} {a : Operand} {y : VTy} {p : VVal} {n : Nat} {vs : List VVal} (ho : op = .load t a) (ha : ρ a = p) (hy : T t = some y) (hd : isAggDesc y.desc = true) (hn : y.size = n) (h : LdOkA H p n vs := by first | exact .inl ⟨_, _, rfl, by first | rfl | assumption | exact fget (α := BitVec 64) 0 (by omega) | exact fget (α := Int) 0 (by omega) | exact fget0 (α := BitVec 64) 0 (by omega) | exact fget0 (α := Int) 0 (by omega) | exact fget (α := Bool) false (by omega) | exact fget0 (α := Bool) false (by omega) | (simp [*]; done)⟩ | exact .inr ⟨_, _, _, _, rfl, by first | exact get_app rfl rfl | exact get_out (by assumption) | exact getE0 rfl rfl | exact get_out (get_app rfl rfl) | exact get_app rfl (by assumption) | assumption | (simp only [List.append_assoc, List.singleton_append, List.cons_append, List.nil_append]; refine getE (i := 0) rfl ?_ rfl; simp; done) | (simp only [List.append_assoc, List.singleton_append, List.cons_append, List.nil_append]; refine getE (i := 1) rfl ?_ rfl; simp; done) | (simp only [List.append_assoc, List.singleton_append, List.cons_append, List.nil_append]; refine getE (i := 2) rfl ?_ rfl; simp; done) | (simp only [List.append_assoc, List.singleton_append, List.cons_append, List.nil_append]; refine getE (i := 3) rfl ?_ rfl; simp; done) | (simp [*]; done), by first | rfl | assumption | exact fget (α := BitVec 64) 0 (by omega) | exact fget (α := Int) 0 (by omega) | exact fget0 (α := BitVec 64) 0 (by omega) | exact fget0 (α := Int) 0 (by omega) | exact fget (α := Bool) false (by omega) | exact fget0 (α := Bool) false (by omega) | (simp [*]; done)⟩) : vop T ρ H op = some (.agg vs, H) := v_ldA ho ha hy hd hn h

theorem rep_iB : ∀ n : Nat, repeatCells [VVal.int .u8 0] n = (List.replicate n (0 : UInt8)).map iB
  | 0 => rfl
  | n + 1 => by rw [repeatCells, rep_iB n, List.replicate_succ]; rfl
section
variable {T : TypeId → Option VTy} {ρ : Operand → VVal} {H L : VHeap} {op : Op}
theorem v_mkB {t e : TypeId} {l c : Operand} {z : VTy} {n : Nat} (ho : op = .makeSlice t l c) (hz : velem T t = some (e, z)) (hl : ρ l = iI (n : Nat)) (hc : ρ c = iI (n : Nat)) (hz1 : z.zero = [VVal.int .u8 0]) (hs : z.size = 1) (hb : z.bytes = 1) (hn : n ≤ 1000000) :
    vop T ρ (H ++ L) op = some (.slice (some (H.length + L.length, 0)) n n true 1, H ++ (L ++ [.cells ((List.replicate n (0 : UInt8)).map iB) true])) := by
  have := v_makeSlice (H := H) (L := L) ho hz hl hc (by rw [hs, hz1]; rfl) (by rw [hs]; decide) (by rw [hb]; omega)
  rw [hz1, hs, Int.toNat_natCast, rep_iB] at this; exact this
end
abbrev nuC (w : BitVec 64) (n m : Nat) : List VVal := (List.replicate m (0 : UInt8) ++ (be w n).drop m).map iB
theorem nu_0 {w : BitVec 64} {n : Nat} : nuC w n n = (List.replicate n (0 : UInt8)).map iB := by unfold nuC; rw [List.drop_of_length_le (by rw [be_len]; exact Nat.le_refl _), List.append_nil]
theorem nu_step {w : BitVec 64} {n m : Nat} (h1 : 0 < m) (h2 : m ≤ n) : splice (nuC w n m) (0 + ((m : Int) - 1).toNat * 1) [iB (bW (w >>> (8 * (n - m))))] = nuC w n (m - 1) := by
  rw [show 0 + ((m : Int) - 1).toNat * 1 = m - 1 by omega]
  unfold splice nuC
  rw [be_drop h1 h2]
  obtain ⟨k, rfl⟩ : ∃ k, m = k + 1 := ⟨m - 1, by omega⟩
  simp only [Nat.add_sub_cancel, List.length_cons, List.length_nil, Nat.zero_add]
  rw [← List.map_take, ← List.map_drop, List.take_append_of_le_length (by simp), List.take_replicate, List.drop_append_of_le_length (by simp), List.drop_replicate]
  simp
theorem nu_len {w : BitVec 64} {n m : Nat} (h : m ≤ n) : (nuC w n m).length = n := by unfold nuC; rw [List.length_map, List.length_append, List.length_replicate, List.length_drop, be_len]; omega
theorem nu_all {w : BitVec 64} {n : Nat} : cellsAt (nuC w n 0) 0 (n * 1) = some ((be w n).map iB) := by
  have e : nuC w n 0 = (be w n).map iB := by unfold nuC; simp
  have h := map_all (f := iB) (l := be w n)
  rw [be_len] at h; rw [e]; exact h

theorem number_spec {x : SW} (H : VHeap) (w : BitVec 64) (n : Nat) (hn : n ≤ 8) : F (psys x) 58 [iW w, iI (n : Nat)] H fun v G => v = fzB (be w n) ∧ G = H := by
 refine F_body Try.func58 rfl uS11n23 rfl ?_
 refine B_seq (B_region ?_)
 refine L_op (env' := uS11n23) rfl rfl (v_const (VVal.slice none 0 0 true 0) (.inr rfl) rfl) rfl ?_
 refine L_nil (K_seq (B_seq (B_region ?_)))
 refine L_op (env' := uS11n23) rfl rfl (v_move (.inl rfl) rfl) rfl ?_
 refine L_op (env' := uS11n23) rfl rfl (v_mkB rfl rfl rfl rfl rfl rfl rfl (by omega)) rfl ?_
 refine L_op (env' := uS11n23) rfl rfl (v_move (.inr rfl) rfl) rfl ?_
 refine L_nil (K_seq (B_seq (B_seq (B_region ?_))))
 refine L_op (env' := uS11n23) rfl rfl (v_move (.inl rfl) rfl) rfl ?_
 refine L_op (env' := uS11n23) rfl rfl (wS11n0 rfl rfl rfl) rfl ?_
 refine L_op (env' := uS11n23) rfl rfl (v_move (.inr rfl) rfl) rfl ?_
 refine L_nil (K_seq (B_block ?_))
 refine B_clear (mk 23 8388510) (env' := uS11n23) rfl ?_
 refine B_loopE (fun (m : Nat) => m) (fun (m : Nat) => [(0, iW (w >>> (8 * (n - m)))), (6, iI ((m : Int) - 1))]) (fun (m : Nat) G => (m ≤ n) ∧ G = H ++ [.cells (nuC w n m) true]) n (by rw [Nat.sub_self]; simp; rfl) ?_ ?_
 ·refine ⟨?_, (by rw [nu_0]; rfl)⟩
  exact Nat.le_refl _
 rintro m _ ⟨hm, rfl⟩
 refine B_env (env' := uS11n23) rfl ?_
 refine B_seq (B_seq (B_region ?_))
 refine L_op (env' := uS11n23) rfl rfl (v_move (.inl rfl) rfl) rfl ?_
 refine L_op (env' := uS11n23) rfl rfl (rfl) rfl ?_
 refine L_nil (K_seq ?_)
 refine B_cond _ rfl (fun hc1 => ?_) (fun hc1 => ?_)
 ·try simp only [qB, qN] at hc1
  refine B_skip (K_seq (B_seq (B_block (B_seq (B_region ?_)))))
  refine L_op (env' := uS11n23) rfl rfl (v_move (.inl rfl) rfl) rfl ?_
  refine L_op (env' := uS11n23) rfl rfl (v_move (.inl rfl) rfl) rfl ?_
  refine L_op (env' := uS11n23) rfl rfl (v_move (.inl rfl) rfl) rfl ?_
  refine L_op (env' := uS11n23) rfl rfl (v_cvWB rfl rfl rfl rfl rfl) rfl ?_
  refine L_op (env' := uS11n23) rfl rfl (wS11n1 rfl rfl rfl rfl rfl rfl rfl) rfl ?_
  refine L_op (env' := uS11n23) rfl rfl (wS11n2 rfl rfl rfl rfl rfl rfl rfl) rfl ?_
  refine L_nil (K_seq (B_region ?_))
  refine L_op (env' := uS11n23) rfl rfl (v_move (.inl rfl) rfl) rfl ?_
  refine L_op (env' := uS11n23) rfl rfl (v_quo256 rfl rfl rfl) rfl ?_
  refine L_op (env' := uS11n23) rfl rfl (v_move (.inr rfl) rfl) rfl ?_
  refine L_nil (K_blk (K_seq (B_region ?_)))
  refine L_op (env' := uS11n23) rfl rfl (v_move (.inl rfl) rfl) rfl ?_
  refine L_op (env' := uS11n23) rfl rfl (wS11n0 rfl rfl rfl) rfl ?_
  refine L_op (env' := uS11n23) rfl rfl (v_move (.inr rfl) rfl) rfl ?_
  refine L_nil ?_
  refine K_loop (mk 23 8388510) (env' := uS11n23) rfl ⟨m - 1, ?_, (by rw [show w >>> (8 * (n - (m - 1))) = w >>> (8 * (n - m)) >>> 8 by rw [← BitVec.shiftRight_add, show 8 * (n - m) + 8 = 8 * (n - (m - 1)) by omega], show (((m - 1 : Nat) : Int)) = (m : Int) - 1 by omega]; rfl), ?_⟩
  ·first | omega | (simp only []; omega)
  ·exact ⟨by omega, rfl⟩
 ·try simp only [qB, qN] at hc1
  refine B_exit (K_seqX (K_loopX (K_blkX (K_seq (B_seq ?_)))))
  obtain rfl : m = 0 := by omega
  refine B_region ?_
  refine L_op (env' := uS11n23) rfl rfl (v_move (.inl rfl) rfl) rfl ?_
  refine L_op (env' := uS11n23) rfl rfl (v_move (.inr rfl) rfl) rfl ?_
  refine L_nil (K_seq ?_)
  refine B_gh (Gh.freezeL (l := (be w n).map iB) 4 0 rfl rfl nu_all (Nat.le_refl _) rfl) ?_
  refine B_ret ?_
  refine E_app (.inr rfl) (vres_tmp rfl rfl) (by first | exact BaseOk.refl _ | exact BaseOk.set (BaseOk.refl _) _ rfl) (by exact mapB_under _ _) ?_
  exact ⟨by unfold fzB; rw [be_len], rfl⟩

theorem lb_bnd {L : List UInt8} {k : Nat} (h : L.length ≤ 1000000) (hk : k ≤ 8) : (L.length + k) * 1 ≤ 140737488355328 ∧ L.length + k ≤ 140737488355328 := by omega

theorem Bytes_spec {x : SW} (H : VHeap) (p : Pb) (us : List Int) (g : Go.V.Good p) (hus : us.length = p.who.length) : F (psys x) 38 [.agg (pbB p), fzI us] H fun v G => v = fzB (cB p us) ∧ G = H := by
 have g1 := g.n12; have g2 := g.u64; have g3 := g.r32; have g4 := g.u0; have g5 := g.fx
 have hT : ∀ m, ∀ r, r ∈ p.rules.take m → r.steps.length ≤ 12 := fun m r hr => rck_len (g.ru r (List.mem_of_mem_take hr))
 refine F_body Try.func38 rfl uS11n103 rfl ?_
 refine B_seq (B_region ?_)
 refine L_op (env' := uS11n103) rfl rfl (v_boxT rfl rfl rfl) rfl ?_
 refine L_op (env' := uS11n103) rfl rfl (v_const (VVal.slice none 0 0 true 0) (.inr rfl) rfl) rfl ?_
 refine L_nil (K_seq (B_seq (B_region ?_)))
 refine L_op (env' := uS11n103) rfl rfl (rfl) rfl ?_
 refine L_op (env' := uS11n103) rfl rfl (wS11n3 rfl rfl rfl rfl) rfl ?_
 refine L_op (env' := uS11n103) rfl rfl (v_cvB rfl rfl rfl rfl rfl) rfl ?_
 refine L_op (env' := uS11n103) rfl rfl (rfl) rfl ?_
 refine L_op (env' := uS11n103) rfl rfl (wS11n3 rfl rfl rfl rfl) rfl ?_
 refine L_op (env' := uS11n103) rfl rfl (rfl) rfl ?_
 refine L_op (env' := uS11n103) rfl rfl (v_cvB rfl rfl rfl rfl rfl) rfl ?_
 refine L_op (env' := uS11n103) rfl rfl (v_buildSlice rfl rfl (by decide) rfl) rfl ?_
 refine L_gh (Gh.loosen 17 rfl rfl) ?_
 refine L_op (env' := uS11n103) rfl rfl (v_move (.inr rfl) rfl) rfl ?_
 refine L_nil (K_seq (B_seq (B_seq (B_region ?_))))
 refine L_op (env' := uS11n103) rfl rfl (v_const (VVal.int .i64 0) (.inr rfl) rfl) rfl ?_
 refine L_nil (K_seq (B_block ?_))
 refine B_clear (mk 103 10141204801825835211973625642905) (env' := uS11n103) rfl ?_
 refine B_loopE (fun (⟨i, lv⟩ : Nat × VVal) => p.who.length - i) (fun (⟨i, lv⟩ : Nat × VVal) => [(5, lv), (6, iI (i : Nat))]) (fun (⟨i, lv⟩ : Nat × VVal) G => (i ≤ p.who.length) ∧ ∃ X, G = (H ++ [VBlk.cells (pbB p) true]) ++ X ∧ LB (H.length + 1) X lv (hdB p ++ stsB p us i)) ⟨0, _⟩ rfl ?_ ?_
 ·refine ⟨?_, ⟨_, (List.append_assoc H [_] [_]).symm, ⟨rfl, .inr ⟨(by show 0 < 4; decide), 0, rfl, rfl⟩⟩⟩⟩
  exact Nat.zero_le _
 rintro ⟨i, lv⟩ _ ⟨hi, ⟨X, rfl, l⟩⟩
 refine B_env (env' := uS11n103) rfl ?_
 refine B_seq (B_seq (B_region ?_))
 refine L_op (env' := uS11n103) rfl rfl (v_move (.inl rfl) rfl) rfl ?_
 refine L_op (env' := uS11n103) rfl rfl (rfl) rfl ?_
 refine L_op (env' := uS11n103) rfl rfl (wS11n3 rfl rfl rfl rfl) rfl ?_
 refine L_op (env' := uS11n103) rfl rfl (rfl) rfl ?_
 refine L_op (env' := uS11n103) rfl rfl (rfl) rfl ?_
 refine L_nil (K_seq ?_)
 refine B_cond _ rfl (fun hc1 => ?_) (fun hc1 => ?_)
 ·try simp only [qB, qN] at hc1
  refine B_skip (K_seq (B_seq (B_block (B_seq (B_region ?_)))))
  refine L_op (env' := uS11n103) rfl rfl (v_move (.inl rfl) rfl) rfl ?_
  refine L_op (env' := uS11n103) rfl rfl (rfl) rfl ?_
  refine L_op (env' := uS11n103) rfl rfl (wS11n3 rfl rfl rfl rfl) rfl ?_
  refine L_op (env' := uS11n103) rfl rfl (v_move (.inl rfl) rfl) rfl ?_
  refine L_op (env' := uS11n103) rfl rfl (wS11n4 rfl rfl rfl rfl rfl rfl rfl) rfl ?_
  refine L_op (env' := uS11n103) rfl rfl (wS11n3 rfl rfl rfl rfl) rfl ?_
  refine L_call rfl rfl rfl (by exact number_spec _ _ 8 (by decide)) ?_
  rintro _ _ ⟨rfl, rfl⟩
  refine L_env (env' := uS11n103) rfl ?_
  refine L_opX rfl rfl (v_appXF rfl rfl rfl rfl rfl rfl rfl (by simp) l (by rw [List.length_map]; exact (Nat.mul_one _).symm) (mapB_one _) (by decide) (lb_bnd (by simp only [List.length_append, List.length_cons, List.length_nil, be_len, stsB_len, hdB] <;> omega) (by rw [be_len]; decide)) (by rw [be_len]; decide)) ?_
  rintro _ _ ⟨Y1, rfl, rfl, hY1, hY2, hY3⟩
  refine L_env (env' := uS11n103) rfl ?_
  have l := LB.push hY3 rfl
  refine L_op (env' := uS11n103) rfl rfl (v_move (.inr rfl) rfl) rfl ?_
  refine L_nil (K_seq ?_)
  refine B_draw [0, 1, 2, 3, 4, 5, 6, 7, 8, 9, 10, 11, 12, 13, 14, 15] #[0, 0, 2, 0, 14, 30, 62, 126, 0, 0, 768, 1792, 3840, 8190, 16383, 32767] (by kernel_rfl) (by kernel_rfl) (by kernel_rfl) ?_
  refine O_op (env' := uS11n103) (c := .calm) rfl rfl rfl (v_move (.inl rfl) rfl) rfl rfl rfl ?_
  refine O_op (env' := uS11n103) (c := .calm) rfl rfl rfl (rfl) rfl rfl rfl ?_
  refine O_op (env' := uS11n103) (c := .look) rfl rfl rfl (wS11n3 rfl rfl rfl rfl) rfl rfl rfl ?_
  refine O_op (env' := uS11n103) (c := .calm) rfl rfl rfl (v_move (.inl rfl) rfl) rfl rfl rfl ?_
  refine O_op (env' := uS11n103) (c := .calm) rfl rfl rfl (wS11n4 rfl rfl rfl rfl rfl rfl rfl) rfl rfl rfl ?_
  refine O_op (env' := uS11n103) (c := .look) rfl rfl rfl (wS11n3 rfl rfl rfl rfl) rfl rfl rfl ?_
  refine O_op (env' := uS11n103) (c := .calm) rfl rfl rfl (wS11n5 rfl rfl rfl) rfl rfl rfl ?_
  refine O_op (env' := uS11n103) (c := .calm) rfl rfl rfl (v_cvB rfl rfl rfl rfl rfl) rfl rfl rfl ?_
  refine O_op (env' := uS11n103) (c := .calm) rfl rfl rfl (v_move (.inl rfl) rfl) rfl rfl rfl ?_
  refine O_op (env' := uS11n103) (c := .calm) rfl rfl rfl (v_move (.inl rfl) rfl) rfl rfl rfl ?_
  refine O_op (env' := uS11n103) (c := .calm) rfl rfl rfl (wS11n4 rfl rfl rfl rfl rfl rfl rfl) rfl rfl rfl ?_
  refine O_op (env' := uS11n103) (c := .look) rfl rfl rfl (wS11n3 rfl rfl rfl rfl) rfl rfl rfl ?_
  refine O_op (env' := uS11n103) (c := .calm) rfl rfl rfl (v_cvB rfl rfl rfl rfl rfl) rfl rfl rfl ?_
  refine O_op (env' := uS11n103) (c := .grow) rfl rfl rfl (v_buildSlice rfl rfl (by decide) rfl) rfl rfl rfl ?_
  refine O_opX .turn rfl rfl rfl (v_appXh rfl rfl rfl rfl rfl rfl rfl (by simp) l rfl rfl (by decide) (lb_bnd (by simp only [List.length_append, List.length_cons, List.length_nil, be_len, stsB_len, hdB] <;> omega) (by decide)) (by decide)) rfl rfl ?_
  rintro _ _ ⟨Y1, rfl, rfl, hY1, hY2, hY3⟩
  refine O_env (env' := uS11n103) rfl ?_
  have l := LB.push (M := [bI (p.fixed.getD i 0 + 1), bI (us.getD i 0)]) hY3 rfl
  refine O_op (env' := uS11n103) (c := .calm) rfl rfl rfl (v_move (.inr rfl) rfl) rfl rfl rfl ?_
  refine O_nil [] (by kernel_rfl) (trivial) ?_
  refine K_blk (K_seq (B_region ?_))
  refine L_op (env' := uS11n103) rfl rfl (v_move (.inl rfl) rfl) rfl ?_
  refine L_op (env' := uS11n103) rfl rfl (wS11n6 rfl rfl rfl) rfl ?_
  refine L_op (env' := uS11n103) rfl rfl (v_move (.inr rfl) rfl) rfl ?_
  refine L_nil ?_
  refine K_loop (mk 103 10141204801825835211973625642905) (env' := uS11n103) rfl ⟨⟨i + 1, _⟩, ?_, rfl, ?_⟩
  ·first | omega | (simp only []; omega)
  ·exact ⟨by omega, _, rfl, l.cast (by rw [stsB_succ, stB]; simp only [List.append_assoc, List.cons_append, List.nil_append])⟩
 ·try simp only [qB, qN] at hc1
  refine B_exit (K_seqX (K_loopX (K_blkX (K_seq (B_seq ?_)))))
  obtain rfl : i = p.who.length := by omega
  refine B_region ?_
  refine L_op (env' := uS11n103) rfl rfl (v_move (.inl rfl) rfl) rfl ?_
  refine L_op (env' := uS11n103) rfl rfl (rfl) rfl ?_
  refine L_op (env' := uS11n103) rfl rfl (wS11n3 rfl rfl rfl rfl) rfl ?_
  refine L_op (env' := uS11n103) rfl rfl (rfl) rfl ?_
  refine L_op (env' := uS11n103) rfl rfl (v_cvB rfl rfl rfl rfl rfl) rfl ?_
  refine L_op (env' := uS11n103) rfl rfl (v_buildSlice rfl rfl (by decide) rfl) rfl ?_
  refine L_opX rfl rfl (v_appXh rfl rfl rfl rfl rfl rfl rfl (by simp) l rfl rfl (by decide) (lb_bnd (by simp only [List.length_append, List.length_cons, List.length_nil, be_len, stsB_len, hdB] <;> omega) (by decide)) (by decide)) ?_
  rintro _ _ ⟨Y1, rfl, rfl, hY1, hY2, hY3⟩
  refine L_env (env' := uS11n103) rfl ?_
  have l := LB.push (M := [bI (p.rules.length : Nat)]) hY3 rfl
  refine L_op (env' := uS11n103) rfl rfl (v_move (.inr rfl) rfl) rfl ?_
  refine L_nil (K_seq (B_seq (B_seq (B_region ?_))))
  refine L_op (env' := uS11n103) rfl rfl (v_const (VVal.int .i64 0) (.inr rfl) rfl) rfl ?_
  refine L_nil (K_seq (B_block ?_))
  refine B_clear (mk 103 10141204801825835211973625642843) (env' := uS11n103) rfl ?_
  refine B_loopE (fun (⟨q, lv⟩ : Nat × VVal) => p.rules.length - q) (fun (⟨q, lv⟩ : Nat × VVal) => [(5, lv), (7, iI (q : Nat))]) (fun (⟨q, lv⟩ : Nat × VVal) G => (q ≤ p.rules.length) ∧ ∃ X, G = (H ++ [VBlk.cells (pbB p) true]) ++ X ∧ LB (H.length + 1) X lv (hdB p ++ stsB p us p.who.length ++ [bI p.rules.length] ++ (p.rules.take q).flatMap ruB)) ⟨0, _⟩ rfl ?_ ?_
  ·refine ⟨?_, ⟨_, rfl, l.cast (by simp)⟩⟩
   exact Nat.zero_le _
  rintro ⟨q, lv⟩ _ ⟨hq, ⟨X, rfl, l⟩⟩
  refine B_env (env' := uS11n103) rfl ?_
  refine B_seq (B_seq (B_region ?_))
  refine L_op (env' := uS11n103) rfl rfl (v_move (.inl rfl) rfl) rfl ?_
  refine L_op (env' := uS11n103) rfl rfl (rfl) rfl ?_
  refine L_op (env' := uS11n103) rfl rfl (wS11n3 rfl rfl rfl rfl) rfl ?_
  refine L_op (env' := uS11n103) rfl rfl (rfl) rfl ?_
  refine L_op (env' := uS11n103) rfl rfl (rfl) rfl ?_
  refine L_nil (K_seq ?_)
  refine B_cond _ rfl (fun hc2 => ?_) (fun hc2 => ?_)
  ·try simp only [qB, qN] at hc2
   refine B_skip (K_seq (B_seq (B_block (B_seq (B_region ?_)))))
   refine L_op (env' := uS11n103) rfl rfl (rfl) rfl ?_
   refine L_op (env' := uS11n103) rfl rfl (wS11n3 rfl rfl rfl rfl) rfl ?_
   refine L_op (env' := uS11n103) rfl rfl (v_move (.inl rfl) rfl) rfl ?_
   refine L_op (env' := uS11n103) rfl rfl (wS11n4 rfl rfl rfl rfl rfl rfl rfl) rfl ?_
   refine L_op (env' := uS11n103) rfl rfl (wS11n7 rfl rfl rfl rfl rfl) rfl ?_
   refine L_op (env' := uS11n103) rfl rfl (v_alloc rfl rfl) rfl ?_
   refine L_op (env' := uS11n103) rfl rfl (wS11n8 rfl rfl rfl rfl rfl rfl rfl) rfl ?_
   refine L_nil (K_seq (B_seq ?_))
   refine B_gh (Gh.freezeEnd (cs := rlB (p.rules.getD q r0)) 8 rfl rfl) ?_
   have l := LV.app l [VBlk.dead]
   have hT := hT q
   have hs12 := rck_len (g.ru _ (rul_mem (l := p.rules) (k := q) (by omega)))
   refine B_region ?_
   refine L_op (env' := uS11n103) rfl rfl (v_move (.inl rfl) rfl) rfl ?_
   refine L_op (env' := uS11n103) rfl rfl (rfl) rfl ?_
   refine L_op (env' := uS11n103) rfl rfl (wS11n3 rfl rfl rfl rfl) rfl ?_
   refine L_op (env' := uS11n103) rfl rfl (v_cvB rfl rfl rfl rfl rfl) rfl ?_
   refine L_op (env' := uS11n103) rfl rfl (v_buildSlice rfl rfl (by decide) rfl) rfl ?_
   refine L_opX rfl rfl (v_appXh rfl rfl rfl rfl rfl rfl rfl (by simp) l rfl rfl (by decide) (lb_bnd (by have h9 := rusB_len (n := 0) (p.rules.take q) hT; rw [List.length_take] at h9; simp only [List.length_append, List.length_cons, List.length_nil, be_len, stsB_len, hdB, List.length_map, List.length_take]; omega) (by decide)) (by decide)) ?_
   rintro _ _ ⟨Y1, rfl, rfl, hY1, hY2, hY3⟩
   refine L_env (env' := uS11n103) rfl ?_
   have l := LB.push (M := [bI (p.rules.getD q r0).kind]) hY3 rfl
   refine L_op (env' := uS11n103) rfl rfl (v_move (.inr rfl) rfl) rfl ?_
   refine L_nil (K_seq (B_seq (B_region ?_)))
   refine L_op (env' := uS11n103) rfl rfl (v_move (.inl rfl) rfl) rfl ?_
   refine L_op (env' := uS11n103) rfl rfl (rfl) rfl ?_
   refine L_op (env' := uS11n103) rfl rfl (wS11n3 rfl rfl rfl rfl) rfl ?_
   refine L_op (env' := uS11n103) rfl rfl (v_cvW rfl rfl rfl rfl rfl) rfl ?_
   refine L_call rfl rfl rfl (by exact number_spec _ _ 4 (by decide)) ?_
   rintro _ _ ⟨rfl, rfl⟩
   refine L_env (env' := uS11n103) rfl ?_
   refine L_opX rfl rfl (v_appXF rfl rfl rfl rfl rfl rfl rfl (by simp) l (by rw [List.length_map]; exact (Nat.mul_one _).symm) (mapB_one _) (by decide) (lb_bnd (by have h9 := rusB_len (n := 0) (p.rules.take q) hT; rw [List.length_take] at h9; simp only [List.length_append, List.length_cons, List.length_nil, be_len, stsB_len, hdB, List.length_map, List.length_take]; omega) (by rw [be_len]; decide)) (by rw [be_len]; decide)) ?_
   rintro _ _ ⟨Y1, rfl, rfl, hY1, hY2, hY3⟩
   refine L_env (env' := uS11n103) rfl ?_
   have l := LB.push hY3 rfl
   refine L_op (env' := uS11n103) rfl rfl (v_move (.inr rfl) rfl) rfl ?_
   refine L_nil (K_seq (B_seq (B_region ?_)))
   refine L_op (env' := uS11n103) rfl rfl (v_move (.inl rfl) rfl) rfl ?_
   refine L_op (env' := uS11n103) rfl rfl (rfl) rfl ?_
   refine L_op (env' := uS11n103) rfl rfl (wS11n3 rfl rfl rfl rfl) rfl ?_
   refine L_op (env' := uS11n103) rfl rfl (rfl) rfl ?_
   refine L_op (env' := uS11n103) rfl rfl (v_cvB rfl rfl rfl rfl rfl) rfl ?_
   refine L_op (env' := uS11n103) rfl rfl (v_buildSlice rfl rfl (by decide) rfl) rfl ?_
   refine L_opX rfl rfl (v_appXh rfl rfl rfl rfl rfl rfl rfl (by simp) l rfl rfl (by decide) (lb_bnd (by have h9 := rusB_len (n := 0) (p.rules.take q) hT; rw [List.length_take] at h9; simp only [List.length_append, List.length_cons, List.length_nil, be_len, stsB_len, hdB, List.length_map, List.length_take]; omega) (by decide)) (by decide)) ?_
   rintro _ _ ⟨Y1, rfl, rfl, hY1, hY2, hY3⟩
   refine L_env (env' := uS11n103) rfl ?_
   have l := LB.push (M := [bI ((p.rules.getD q r0).steps.length : Nat)]) hY3 rfl
   refine L_op (env' := uS11n103) rfl rfl (v_move (.inr rfl) rfl) rfl ?_
   refine L_nil (K_seq (B_seq (B_region ?_)))
   refine L_op (env' := uS11n103) rfl rfl (v_const (VVal.int .i64 0) (.inr rfl) rfl) rfl ?_
   refine L_nil (K_seq (B_block ?_))
   refine B_clear (mk 103 10141204801825835211973625642075) (env' := uS11n103) rfl ?_
   refine B_loopE (fun (⟨s, lv⟩ : Nat × VVal) => (p.rules.getD q r0).steps.length - s) (fun (⟨s, lv⟩ : Nat × VVal) => [(5, lv), (9, iI (s : Nat))]) (fun (⟨s, lv⟩ : Nat × VVal) G => (s ≤ (p.rules.getD q r0).steps.length) ∧ ∃ X, G = (H ++ [VBlk.cells (pbB p) true]) ++ X ∧ LB (H.length + 1) X lv (hdB p ++ stsB p us p.who.length ++ [bI p.rules.length] ++ (p.rules.take q).flatMap ruB ++ ([bI (p.rules.getD q r0).kind] ++ be (BitVec.ofInt 64 (p.rules.getD q r0).k) 4 ++ [bI (p.rules.getD q r0).steps.length] ++ ((p.rules.getD q r0).steps.take s).map bI))) ⟨0, _⟩ rfl ?_ ?_
   ·refine ⟨?_, ⟨_, rfl, l.cast (by simp)⟩⟩
    exact Nat.zero_le _
   rintro ⟨s, lv⟩ _ ⟨hs, ⟨X, rfl, l⟩⟩
   refine B_env (env' := uS11n103) rfl ?_
   refine B_seq (B_seq (B_region ?_))
   refine L_op (env' := uS11n103) rfl rfl (v_move (.inl rfl) rfl) rfl ?_
   refine L_op (env' := uS11n103) rfl rfl (rfl) rfl ?_
   refine L_op (env' := uS11n103) rfl rfl (wS11n3 rfl rfl rfl rfl) rfl ?_
   refine L_op (env' := uS11n103) rfl rfl (rfl) rfl ?_
   refine L_op (env' := uS11n103) rfl rfl (rfl) rfl ?_
   refine L_nil (K_seq ?_)
   refine B_cond _ rfl (fun hc3 => ?_) (fun hc3 => ?_)
   ·try simp only [qB, qN] at hc3
    refine B_skip (K_seq (B_seq (B_block (B_region ?_))))
    refine L_op (env' := uS11n103) rfl rfl (v_move (.inl rfl) rfl) rfl ?_
    refine L_op (env' := uS11n103) rfl rfl (rfl) rfl ?_
    refine L_op (env' := uS11n103) rfl rfl (wS11n3 rfl rfl rfl rfl) rfl ?_
    refine L_op (env' := uS11n103) rfl rfl (v_move (.inl rfl) rfl) rfl ?_
    refine L_op (env' := uS11n103) rfl rfl (wS11n4 rfl rfl rfl rfl rfl rfl rfl) rfl ?_
    refine L_op (env' := uS11n103) rfl rfl (wS11n3 rfl rfl rfl rfl) rfl ?_
    refine L_op (env' := uS11n103) rfl rfl (v_cvB rfl rfl rfl rfl rfl) rfl ?_
    refine L_op (env' := uS11n103) rfl rfl (v_buildSlice rfl rfl (by decide) rfl) rfl ?_
    refine L_opX rfl rfl (v_appXh rfl rfl rfl rfl rfl rfl rfl (by simp) l rfl rfl (by decide) (lb_bnd (by have h9 := rusB_len (n := 0) (p.rules.take q) hT; rw [List.length_take] at h9; simp only [List.length_append, List.length_cons, List.length_nil, be_len, stsB_len, hdB, List.length_map, List.length_take]; omega) (by decide)) (by decide)) ?_
    rintro _ _ ⟨Y1, rfl, rfl, hY1, hY2, hY3⟩
    refine L_env (env' := uS11n103) rfl ?_
    have l := LB.push (M := [bI ((p.rules.getD q r0).steps.getD s 0)]) hY3 rfl
    refine L_op (env' := uS11n103) rfl rfl (v_move (.inr rfl) rfl) rfl ?_
    refine L_nil (K_blk (K_seq (B_region ?_)))
    refine L_op (env' := uS11n103) rfl rfl (v_move (.inl rfl) rfl) rfl ?_
    refine L_op (env' := uS11n103) rfl rfl (wS11n6 rfl rfl rfl) rfl ?_
    refine L_op (env' := uS11n103) rfl rfl (v_move (.inr rfl) rfl) rfl ?_
    refine L_nil ?_
    refine K_loop (mk 103 10141204801825835211973625642075) (env' := uS11n103) rfl ⟨⟨s + 1, _⟩, ?_, rfl, ?_⟩
    ·first | omega | (simp only []; omega)
    ·exact ⟨by omega, _, rfl, l.cast (by rw [take_at (d := 0) (l := (p.rules.getD q r0).steps) (by omega), List.map_append]; simp)⟩
   ·try simp only [qB, qN] at hc3
    refine B_exit (K_seqX (K_loopX (K_blkX (K_blk (K_seq (B_region ?_))))))
    refine L_op (env' := uS11n103) rfl rfl (v_move (.inl rfl) rfl) rfl ?_
    refine L_op (env' := uS11n103) rfl rfl (wS11n6 rfl rfl rfl) rfl ?_
    refine L_op (env' := uS11n103) rfl rfl (v_move (.inr rfl) rfl) rfl ?_
    refine L_nil ?_
    obtain rfl : s = (p.rules.getD q r0).steps.length := by omega
    refine K_loop (mk 103 10141204801825835211973625642843) (env' := uS11n103) rfl ⟨⟨q + 1, _⟩, ?_, rfl, ?_⟩
    ·first | omega | (simp only []; omega)
    ·exact ⟨by omega, _, rfl, l.cast (by rw [rusB_succ (d := r0) (by omega), ruB, List.take_of_length_le (Nat.le_refl _)]; simp only [List.append_assoc, List.cons_append, List.nil_append])⟩
  ·try simp only [qB, qN] at hc2
   refine B_exit (K_seqX (K_loopX (K_blkX (K_seq (B_seq ?_)))))
   refine B_ghLVh (env' := uS11n103) 5 l (by simp) rfl rfl fun X9 _ _ => ?_
   refine B_heap (List.append_assoc _ _ _) ?_
   refine B_region ?_
   refine L_op (env' := uS11n103) rfl rfl (v_move (.inl rfl) rfl) rfl ?_
   refine L_op (env' := uS11n103) rfl rfl (v_move (.inr rfl) rfl) rfl ?_
   refine L_nil (K_seq (B_ret ?_))
   refine E_app (.inr rfl) (vres_tmp rfl rfl) (by first | exact BaseOk.refl _ | exact BaseOk.set (BaseOk.refl _) _ rfl) (by exact mapB_under _ _) ?_
   exact ⟨by rw [cB, List.take_of_length_le (by omega)]; rfl, rfl⟩

theorem fWrite_spec {x : SW} (H : VHeap) (p : Pb) (us : List Int) (hp : PbL p) (hu : us.length ≤ 1000000) : F (psys x) 16 [.agg (pbB p), fzI us] H fun v G => v = .tuple [fzB (cW p us), iI (eW p us)] ∧ G = H := by
 refine F_body Try.func16 rfl uS11n20 rfl ?_
 refine B_seq (B_region ?_)
 refine L_op (env' := uS11n20) rfl rfl (v_boxT rfl rfl rfl) rfl ?_
 refine L_op (env' := uS11n20) rfl rfl (v_const (VVal.slice none 0 0 true 0) (.inr rfl) rfl) rfl ?_
 refine L_op (env' := uS11n20) rfl rfl (v_const (VVal.int .i64 0) (.inr rfl) rfl) rfl ?_
 refine L_nil (K_seq (B_seq (B_region ?_)))
 refine L_op (env' := uS11n20) rfl rfl (wS11n9 rfl rfl rfl rfl rfl) rfl ?_
 refine L_call rfl rfl rfl (by exact fpCheck_spec _ _ (by assumption)) ?_
 rintro _ _ ⟨rfl, rfl⟩
 refine L_env (env' := uS11n20) rfl ?_
 refine L_op (env' := uS11n20) rfl rfl (v_move (.inr rfl) rfl) rfl ?_
 refine L_nil (K_seq (B_seq (B_seq (B_region ?_))))
 refine L_op (env' := uS11n20) rfl rfl (v_move (.inl rfl) rfl) rfl ?_
 refine L_op (env' := uS11n20) rfl rfl (rfl) rfl ?_
 refine L_nil (K_seq ?_)
 refine B_cond _ rfl (fun hc1 => ?_) (fun hc1 => ?_)
 ·try simp only [qB, qN] at hc1
  refine B_seq (B_region ?_)
  refine L_op (env' := uS11n20) rfl rfl (v_move (.inl rfl) rfl) rfl ?_
  refine L_op (env' := uS11n20) rfl rfl (v_const (VVal.slice none 0 0 true 0) (.inr rfl) rfl) rfl ?_
  refine L_op (env' := uS11n20) rfl rfl (v_move (.inr rfl) rfl) rfl ?_
  refine L_nil (K_seq ?_)
  refine B_gh (Gh.freezeNil 4 (es' := 1) rfl rfl) ?_
  refine B_ret (K_seqR ?_)
  refine E_app (.inr rfl) (vres_tmp2 rfl rfl rfl) (by first | exact BaseOk.refl _ | exact BaseOk.set (BaseOk.refl _) _ rfl) (by first | rfl | (simp only [VVal.under, VVal.underL, Bool.and_true]; exact fzB_under _ _)) ?_
  first
    | exact ⟨by unfold cW; rw [eW_1 (by assumption), if_neg (by assumption)]; rfl, rfl⟩
    | exact ⟨by unfold cW; rw [eW_2 hpk hne, if_neg (by decide)]; rfl, rfl⟩
    | exact ⟨by unfold cW; rw [eW_0 hpk hfl, if_pos rfl], rfl⟩
 ·try simp only [qB, qN] at hc1
  refine B_skip (K_seq (B_seq (B_seq ?_)))
  have hpk : pck p = 0 := by assumption
  have g : Go.V.Good p := pck_good.1 hpk
  refine B_region ?_
  refine L_op (env' := uS11n20) rfl rfl (wS11n9 rfl rfl rfl rfl rfl) rfl ?_
  refine L_op (env' := uS11n20) rfl rfl (v_move (.inl rfl) rfl) rfl ?_
  refine L_call rfl rfl rfl (by exact fFlaws_spec _ _ _ g hp.s hu) ?_
  rintro _ _ ⟨rfl, rfl⟩
  refine L_env (env' := uS11n20) rfl ?_
  refine L_op (env' := uS11n20) rfl rfl (rfl) rfl ?_
  refine L_op (env' := uS11n20) rfl rfl (rfl) rfl ?_
  refine L_nil (K_seq ?_)
  refine B_cond _ rfl (fun hc2 => ?_) (fun hc2 => ?_)
  ·try simp only [qB, qN] at hc2
   refine B_seq (B_region ?_)
   refine L_op (env' := uS11n20) rfl rfl (v_const (VVal.slice none 0 0 true 0) (.inr rfl) rfl) rfl ?_
   refine L_op (env' := uS11n20) rfl rfl (v_const (VVal.int .i64 1) (.inr rfl) rfl) rfl ?_
   refine L_nil (K_seq ?_)
   refine B_gh (Gh.freezeNil 4 (es' := 1) rfl rfl) ?_
   have hne : ¬ flw p us = [] := List.ne_nil_of_length_pos (by omega)
   refine B_ret (K_seqR ?_)
   refine E_app (.inr rfl) (vres_tmp2 rfl rfl rfl) (by first | exact BaseOk.refl _ | exact BaseOk.set (BaseOk.refl _) _ rfl) (by first | rfl | (simp only [VVal.under, VVal.underL, Bool.and_true]; exact fzB_under _ _)) ?_
   first
     | exact ⟨by unfold cW; rw [eW_1 (by assumption), if_neg (by assumption)]; rfl, rfl⟩
     | exact ⟨by unfold cW; rw [eW_2 hpk hne, if_neg (by decide)]; rfl, rfl⟩
     | exact ⟨by unfold cW; rw [eW_0 hpk hfl, if_pos rfl], rfl⟩
  ·try simp only [qB, qN] at hc2
   refine B_skip (K_seq (B_seq ?_))
   have hfl : flw p us = [] := List.eq_nil_of_length_eq_zero (by omega)
   refine B_region ?_
   refine L_op (env' := uS11n20) rfl rfl (wS11n9 rfl rfl rfl rfl rfl) rfl ?_
   refine L_op (env' := uS11n20) rfl rfl (v_move (.inl rfl) rfl) rfl ?_
   refine L_call rfl rfl rfl (by exact Bytes_spec _ _ _ g (flw_0len hfl)) ?_
   rintro _ _ ⟨rfl, rfl⟩
   refine L_env (env' := uS11n20) rfl ?_
   refine L_op (env' := uS11n20) rfl rfl (v_move (.inr rfl) rfl) rfl ?_
   refine L_op (env' := uS11n20) rfl rfl (v_const (VVal.int .i64 0) (.inr rfl) rfl) rfl ?_
   refine L_nil (K_seq (B_ret ?_))
   refine E_app (.inr rfl) (vres_tmp2 rfl rfl rfl) (by first | exact BaseOk.refl _ | exact BaseOk.set (BaseOk.refl _) _ rfl) (by first | rfl | (simp only [VVal.under, VVal.underL, Bool.and_true]; exact fzB_under _ _)) ?_
   first
     | exact ⟨by unfold cW; rw [eW_1 (by assumption), if_neg (by assumption)]; rfl, rfl⟩
     | exact ⟨by unfold cW; rw [eW_2 hpk hne, if_neg (by decide)]; rfl, rfl⟩
     | exact ⟨by unfold cW; rw [eW_0 hpk hfl, if_pos rfl], rfl⟩
end Go.Proofs.Ytbngdhlmggdaaaa.VT
