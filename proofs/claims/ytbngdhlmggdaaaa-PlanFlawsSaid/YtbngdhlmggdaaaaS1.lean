/- words: walks -/
import Derived.Test.YtbngdhlmggdaaaaTB
import Derived.Test.YtbngdhlmggdaaaaV29
set_option autoImplicit false
set_option linter.unusedVariables false
set_option linter.unusedSimpArgs false
set_option maxHeartbeats 4000000
set_option maxRecDepth 100000
namespace Go.Proofs.Ytbngdhlmggdaaaa.VT
open Go Go.V

abbrev uS1n6 {a0 a1 a2 a3 a4 a5 : VVal} : VEnv := a0 :: a1 :: a2 :: a3 :: a4 :: a5 :: []
abbrev uS1n7 {a0 a1 a2 a3 a4 a5 a6 : VVal} : VEnv := a0 :: a1 :: a2 :: a3 :: a4 :: a5 :: a6 :: []
abbrev uS1n13 {a0 a1 a2 a3 a4 a5 a6 a7 a8 a9 a10 a11 a12 : VVal} : VEnv := a0 :: a1 :: a2 :: a3 :: a4 :: a5 :: a6 :: a7 :: a8 :: a9 :: a10 :: a11 :: a12 :: []
abbrev uS1n16 {a0 a1 a2 a3 a4 a5 a6 a7 a8 a9 a10 a11 a12 a13 a14 a15 : VVal} : VEnv := a0 :: a1 :: a2 :: a3 :: a4 :: a5 :: a6 :: a7 :: a8 :: a9 :: a10 :: a11 :: a12 :: a13 :: a14 :: a15 :: []
abbrev uS1n35 {a0 a1 a2 a3 a4 a5 a6 a7 a8 a9 a10 a11 a12 a13 a14 a15 a16 a17 a18 a19 a20 a21 a22 a23 a24 a25 a26 a27 a28 a29 a30 a31 a32 a33 a34 : VVal} : VEnv := a0 :: a1 :: a2 :: a3 :: a4 :: a5 :: a6 :: a7 :: a8 :: a9 :: a10 :: a11 :: a12 :: a13 :: a14 :: a15 :: a16 :: a17 :: a18 :: a19 :: a20 :: a21 :: a22 :: a23 :: a24 :: a25 :: a26 :: a27 :: a28 :: a29 :: a30 :: a31 :: a32 :: a33 :: a34 :: []

theorem wS1n0 {T : TypeId → Option VTy} {H : VHeap} {op : Op} {ρ : Operand → VVal} {t : TypeId} {a : Operand} {y : VTy} {p : VVal} {n : Nat} {vs : List VVal} (ho : op = .load t a) (ha : ρ a = p) (hy : T t = some y) (hd : isAggDesc y.desc = true) (hn : y.size = n) (h : LdOkA H p n vs := by first | exact .inl ⟨_, _, rfl, by first | rfl | assumption | exact fget (α := BitVec 64) 0 (by omega) | exact fget (α := Int) 0 (by omega) | exact fget0 (α := BitVec 64) 0 (by omega) | exact fget0 (α := Int) 0 (by omega) | exact fget (α := Bool) false (by omega) | exact fget0 (α := Bool) false (by omega) | (simp [*]; done)⟩ | exact .inr ⟨_, _, _, _, rfl, by first | exact get_app rfl rfl | exact get_out (by assumption) | exact getE0 rfl rfl | exact get_out (get_app rfl rfl) | exact get_app rfl (by assumption) | assumption | (simp only [List.append_assoc, List.singleton_append, List.cons_append, List.nil_append]; refine getE (i := 0) rfl ?_ rfl; simp; done) | (simp only [List.append_assoc, List.singleton_append, List.cons_append, List.nil_append]; refine getE (i := 1) rfl ?_ rfl; simp; done) | (simp only [List.append_assoc, List.singleton_append, List.cons_append, List.nil_append]; refine getE (i := 2) rfl ?_ rfl; simp; done) | (simp only [List.append_assoc, List.singleton_append, List.cons_append, List.nil_append]; refine getE (i := 3) rfl ?_ rfl; simp; done) | (simp [*]; done), by first | rfl | assumption | exact fget (α := BitVec 64) 0 (by omega) | exact fget (α := Int) 0 (by omega) | exact fget0 (α := BitVec 64) 0 (by omega) | exact fget0 (α := Int) 0 (by omega) | exact fget (α := Bool) false (by omega) | exact fget0 (α := Bool) false (by omega) | (simp [*]; done)⟩) : vop T ρ H op = some (.agg vs, H) := v_ldA ho ha hy hd hn h
theorem wS1n1 {T : TypeId → Option VTy} {H : VHeap} {op : Op} {ρ : Operand → VVal} {t : TypeId} {a : Operand} {y : VTy} {p v : VVal} (ho : op = .load t a) (ha : ρ a = p) (hy : T t = some y) (hd : isAggDesc y.desc = false) (h : LdOk H p v := by first | exact .inl ⟨_, _, rfl, by first | rfl | assumption | exact fget (α := BitVec 64) 0 (by omega) | exact fget (α := Int) 0 (by omega) | exact fget0 (α := BitVec 64) 0 (by omega) | exact fget0 (α := Int) 0 (by omega) | exact fget (α := Bool) false (by omega) | exact fget0 (α := Bool) false (by omega) | (simp [*]; done)⟩ | exact .inr ⟨_, _, _, _, rfl, by first | exact get_app rfl rfl | exact get_out (by assumption) | exact getE0 rfl rfl | exact get_out (get_app rfl rfl) | exact get_app rfl (by assumption) | assumption | (simp only [List.append_assoc, List.singleton_append, List.cons_append, List.nil_append]; refine getE (i := 0) rfl ?_ rfl; simp; done) | (simp only [List.append_assoc, List.singleton_append, List.cons_append, List.nil_append]; refine getE (i := 1) rfl ?_ rfl; simp; done) | (simp only [List.append_assoc, List.singleton_append, List.cons_append, List.nil_append]; refine getE (i := 2) rfl ?_ rfl; simp; done) | (simp only [List.append_assoc, List.singleton_append, List.cons_append, List.nil_append]; refine getE (i := 3) rfl ?_ rfl; simp; done) | (simp [*]; done), by first | rfl | assumption | exact fget (α := BitVec 64) 0 (by omega) | exact fget (α := Int) 0 (by omega) | exact fget0 (α := BitVec 64) 0 (by omega) | exact fget0 (α := Int) 0 (by omega) | exact fget (α := Bool) false (by omega) | exact fget0 (α := Bool) false (by omega) | (simp [*]; done)⟩) : vop T ρ H op = some (v, H) := v_ld ho ha hy hd h
theorem wS1n2 {T : TypeId → Option VTy} {H : VHeap} {op : Op} {ρ : VEnv} {H' : VHeap} {t : TypeId} {a : Operand} {i : Nat} {v : VVal} {y : VTy} {b off : Nat} {cs new : List VVal} (ho : op = .store t a (.tmp i)) (hv : ρ[i]? = some v) (ha : ρ.eval a = .ptr (some (b, off))) (hy : T t = some y) (hx : v.cells = some new) (hn : new.length = y.size) (h1 : new.all VVal.one = true) (hb : H[b]? = some (.cells cs true) := by first | exact get_app rfl rfl | exact get_out (by assumption) | exact getE0 rfl rfl | exact get_out (get_app rfl rfl) | exact get_app rfl (by assumption) | assumption | (simp only [List.append_assoc, List.singleton_append, List.cons_append, List.nil_append]; refine getE (i := 0) rfl ?_ rfl; simp; done) | (simp only [List.append_assoc, List.singleton_append, List.cons_append, List.nil_append]; refine getE (i := 1) rfl ?_ rfl; simp; done) | (simp only [List.append_assoc, List.singleton_append, List.cons_append, List.nil_append]; refine getE (i := 2) rfl ?_ rfl; simp; done) | (simp only [List.append_assoc, List.singleton_append, List.cons_append, List.nil_append]; refine getE (i := 3) rfl ?_ rfl; simp; done) | (simp [*]; done)) (hl : off + new.length ≤ cs.length := by first | exact Nat.le_of_ble_eq_true rfl | (simp only [List.length_map, List.length_cons, List.length_nil]; omega) | omega | (simp; done) | (simp; omega)) (hH : H.set b (.cells (splice cs off new) true) = H' := by first | exact setE0 rfl rfl | (simp only [List.append_assoc, List.singleton_append, List.cons_append, List.nil_append]; refine setE (i := 0) rfl ?_; simp; done) | (simp only [List.append_assoc, List.singleton_append, List.cons_append, List.nil_append]; refine setE (i := 1) rfl ?_; simp; done) | (simp only [List.append_assoc, List.singleton_append, List.cons_append, List.nil_append]; refine setE (i := 2) rfl ?_; simp; done) | (simp only [List.append_assoc, List.singleton_append, List.cons_append, List.nil_append]; refine setE (i := 3) rfl ?_; simp; done) | (refine setB rfl ?_; simp; done) | exact set_app rfl | exact set_out (lt_of_get (by assumption)) | rfl) : vop T ρ.eval H op = some (.skip, H') := v_storeT ho hv ha hy hx hn h1 hb hl hH

theorem Ones_all {x : SW} (H : VHeap) : F (psys x) 69 [.int .u64 ((18446744073709551615#64).toNat : Int)] H fun v G => v = .int .i64 64 ∧ G = H := by
 refine F_body Try.func69 rfl uS1n35 rfl ?_
 refine B_seq (B_region ?_)
 refine L_op (env' := uS1n35) rfl rfl (v_const (VVal.int .i64 0) (.inr rfl) rfl) rfl ?_
 refine L_nil (K_seq (B_seq (B_region ?_)))
 refine L_op (env' := uS1n35) rfl rfl (v_move (.inl rfl) rfl) rfl ?_
 refine L_op (env' := uS1n35) rfl rfl (v_shrW rfl rfl rfl (by first | assumption | omega | (simp [*]; done) | (simp at *; omega))) rfl ?_
 refine L_op (env' := uS1n35) rfl rfl (v_andW (b := 6148914691236517205#64) rfl rfl rfl) rfl ?_
 refine L_op (env' := uS1n35) rfl rfl (v_move (.inl rfl) rfl) rfl ?_
 refine L_op (env' := uS1n35) rfl rfl (v_andW (b := 6148914691236517205#64) rfl rfl rfl) rfl ?_
 refine L_op (env' := uS1n35) rfl rfl (v_addW rfl rfl rfl) rfl ?_
 refine L_op (env' := uS1n35) rfl rfl (v_move (.inr rfl) rfl) rfl ?_
 refine L_nil (K_seq (B_seq (B_region ?_)))
 refine L_op (env' := uS1n35) rfl rfl (v_move (.inl rfl) rfl) rfl ?_
 refine L_op (env' := uS1n35) rfl rfl (v_shrW rfl rfl rfl (by first | assumption | omega | (simp [*]; done) | (simp at *; omega))) rfl ?_
 refine L_op (env' := uS1n35) rfl rfl (v_andW (b := 3689348814741910323#64) rfl rfl rfl) rfl ?_
 refine L_op (env' := uS1n35) rfl rfl (v_move (.inl rfl) rfl) rfl ?_
 refine L_op (env' := uS1n35) rfl rfl (v_andW (b := 3689348814741910323#64) rfl rfl rfl) rfl ?_
 refine L_op (env' := uS1n35) rfl rfl (v_addW rfl rfl rfl) rfl ?_
 refine L_op (env' := uS1n35) rfl rfl (v_move (.inr rfl) rfl) rfl ?_
 refine L_nil (K_seq (B_seq (B_region ?_)))
 refine L_op (env' := uS1n35) rfl rfl (v_move (.inl rfl) rfl) rfl ?_
 refine L_op (env' := uS1n35) rfl rfl (v_shrW rfl rfl rfl (by first | assumption | omega | (simp [*]; done) | (simp at *; omega))) rfl ?_
 refine L_op (env' := uS1n35) rfl rfl (v_move (.inl rfl) rfl) rfl ?_
 refine L_op (env' := uS1n35) rfl rfl (v_addW rfl rfl rfl) rfl ?_
 refine L_op (env' := uS1n35) rfl rfl (v_andW (b := 1085102592571150095#64) rfl rfl rfl) rfl ?_
 refine L_op (env' := uS1n35) rfl rfl (v_move (.inr rfl) rfl) rfl ?_
 refine L_nil (K_seq (B_seq (B_region ?_)))
 refine L_op (env' := uS1n35) rfl rfl (v_move (.inl rfl) rfl) rfl ?_
 refine L_op (env' := uS1n35) rfl rfl (v_move (.inl rfl) rfl) rfl ?_
 refine L_op (env' := uS1n35) rfl rfl (v_shrW rfl rfl rfl (by first | assumption | omega | (simp [*]; done) | (simp at *; omega))) rfl ?_
 refine L_op (env' := uS1n35) rfl rfl (v_addW rfl rfl rfl) rfl ?_
 refine L_op (env' := uS1n35) rfl rfl (v_move (.inr rfl) rfl) rfl ?_
 refine L_nil (K_seq (B_seq (B_region ?_)))
 refine L_op (env' := uS1n35) rfl rfl (v_move (.inl rfl) rfl) rfl ?_
 refine L_op (env' := uS1n35) rfl rfl (v_move (.inl rfl) rfl) rfl ?_
 refine L_op (env' := uS1n35) rfl rfl (v_shrW rfl rfl rfl (by first | assumption | omega | (simp [*]; done) | (simp at *; omega))) rfl ?_
 refine L_op (env' := uS1n35) rfl rfl (v_addW rfl rfl rfl) rfl ?_
 refine L_op (env' := uS1n35) rfl rfl (v_move (.inr rfl) rfl) rfl ?_
 refine L_nil (K_seq (B_seq (B_region ?_)))
 refine L_op (env' := uS1n35) rfl rfl (v_move (.inl rfl) rfl) rfl ?_
 refine L_op (env' := uS1n35) rfl rfl (v_move (.inl rfl) rfl) rfl ?_
 refine L_op (env' := uS1n35) rfl rfl (v_shrW rfl rfl rfl (by first | assumption | omega | (simp [*]; done) | (simp at *; omega))) rfl ?_
 refine L_op (env' := uS1n35) rfl rfl (v_addW rfl rfl rfl) rfl ?_
 refine L_op (env' := uS1n35) rfl rfl (v_move (.inr rfl) rfl) rfl ?_
 refine L_nil (K_seq (B_seq (B_region ?_)))
 refine L_op (env' := uS1n35) rfl rfl (v_move (.inl rfl) rfl) rfl ?_
 refine L_op (env' := uS1n35) rfl rfl (rfl) rfl ?_
 refine L_op (env' := uS1n35) rfl rfl (rfl) rfl ?_
 refine L_op (env' := uS1n35) rfl rfl (v_move (.inr rfl) rfl) rfl ?_
 refine L_nil (K_seq (B_ret ?_))
 refine E_app (.inr rfl) (vres_tmp rfl rfl) (by first | exact BaseOk.refl _ | exact BaseOk.set (BaseOk.refl _) _ rfl) (by first | rfl | simp [VVal.under, VVal.underL, *]) ?_
 exact ⟨rfl, rfl⟩

theorem Width_spec {x : SW} (H : VHeap) (w : BitVec 64) : F (psys x) 66 [.agg [iW w]] H fun v G => v = .int .i64 64 ∧ G = H := by
 refine F_body Try.func66 rfl uS1n6 rfl ?_
 refine B_seq (B_region ?_)
 refine L_op (env' := uS1n6) rfl rfl (v_boxT rfl rfl rfl) rfl ?_
 refine L_op (env' := uS1n6) rfl rfl (v_const (VVal.int .i64 0) (.inr rfl) rfl) rfl ?_
 refine L_nil (K_seq (B_seq (B_region ?_)))
 refine L_op (env' := uS1n6) rfl rfl ((rfl : vop _ _ _ _ = some (VVal.int .u64 (((0#64 : BitVec 64).toNat : Nat) : Int), _))) rfl ?_
 refine L_op (env' := uS1n6) rfl rfl (v_xorU rfl rfl) rfl ?_
 refine L_call rfl rfl rfl (by exact Ones_all _) ?_
 rintro _ _ ⟨rfl, rfl⟩
 refine L_env (env' := uS1n6) rfl ?_
 refine L_op (env' := uS1n6) rfl rfl (v_move (.inr rfl) rfl) rfl ?_
 refine L_nil (K_seq (B_ret ?_))
 refine E_app (.inr rfl) (vres_tmp rfl rfl) (by first | exact BaseOk.refl _ | exact BaseOk.set (BaseOk.refl _) _ rfl) (by first | rfl | simp [VVal.under, VVal.underL, *]) ?_
 exact ⟨rfl, rfl⟩

theorem within_spec {x : SW} (H : VHeap) (w : BitVec 64) (i : Int) : F (psys x) 54 [.agg [iW w], iI i] H fun v G => v = .bool (decide (0 ≤ i ∧ i < 64)) ∧ G = H := by
 refine F_body Try.func54 rfl uS1n13 rfl ?_
 refine B_seq (B_region ?_)
 refine L_op (env' := uS1n13) rfl rfl (v_boxT rfl rfl rfl) rfl ?_
 refine L_op (env' := uS1n13) rfl rfl (v_const (VVal.bool false) (.inr rfl) rfl) rfl ?_
 refine L_nil (K_seq (B_seq (B_region ?_)))
 refine L_op (env' := uS1n13) rfl rfl (v_move (.inl rfl) rfl) rfl ?_
 refine L_op (env' := uS1n13) rfl rfl (rfl) rfl ?_
 refine L_op (env' := uS1n13) rfl rfl (v_move (.inl rfl) rfl) rfl ?_
 refine L_split 7 (env1 := uS1n13) (env2 := uS1n13) rfl rfl rfl (fun hg1 => ?_) (fun hg1 => ?_)
 ·try simp only [qB] at hg1
  refine L_op (env' := uS1n13) rfl rfl (v_move (.inl rfl) rfl) rfl ?_
  refine L_op (env' := uS1n13) rfl rfl (wS1n0 rfl rfl rfl rfl rfl) rfl ?_
  refine L_call rfl rfl rfl (by exact Width_spec _ _) ?_
  rintro _ _ ⟨rfl, rfl⟩
  refine L_env (env' := uS1n13) rfl ?_
  refine L_op (env' := uS1n13) rfl rfl (rfl) rfl ?_
  refine L_op (env' := uS1n13) rfl rfl (v_pickT rfl rfl rfl) rfl ?_
  refine L_op (env' := uS1n13) rfl rfl (v_move (.inr rfl) rfl) rfl ?_
  refine L_nil (K_seq (B_ret ?_))
  refine E_app (.inr rfl) (vres_tmp rfl rfl) (by first | exact BaseOk.refl _ | exact BaseOk.set (BaseOk.refl _) _ rfl) (by first | rfl | simp [VVal.under, VVal.underL, *]) ?_
  exact ⟨by simp [*]; try omega, rfl⟩
 ·try simp only [qB] at hg1
  refine L_off (env' := uS1n13) rfl rfl ?_
  refine L_off (env' := uS1n13) rfl rfl ?_
  refine L_off (env' := uS1n13) rfl rfl ?_
  refine L_off (env' := uS1n13) rfl rfl ?_
  refine L_op (env' := uS1n13) rfl rfl (v_pickFC (VVal.bool false) rfl rfl rfl) rfl ?_
  refine L_op (env' := uS1n13) rfl rfl (v_move (.inr rfl) rfl) rfl ?_
  refine L_nil (K_seq (B_ret ?_))
  refine E_app (.inr rfl) (vres_tmp rfl rfl) (by first | exact BaseOk.refl _ | exact BaseOk.set (BaseOk.refl _) _ rfl) (by first | rfl | simp [VVal.under, VVal.underL, *]) ?_
  exact ⟨by simp [*]; try omega, rfl⟩

theorem Has_spec {x : SW} (H : VHeap) (w : BitVec 64) (i : Int) : F (psys x) 33 [.agg [iW w], iI i] H fun v G => v = .bool (decide (0 ≤ i ∧ i < 64) && w.getLsbD i.toNat) ∧ G = H := by
 refine F_body Try.func33 rfl uS1n16 rfl ?_
 refine B_seq (B_region ?_)
 refine L_op (env' := uS1n16) rfl rfl (v_boxT rfl rfl rfl) rfl ?_
 refine L_op (env' := uS1n16) rfl rfl (v_const (VVal.bool false) (.inr rfl) rfl) rfl ?_
 refine L_nil (K_seq (B_seq (B_region ?_)))
 refine L_op (env' := uS1n16) rfl rfl (wS1n0 rfl rfl rfl rfl rfl) rfl ?_
 refine L_op (env' := uS1n16) rfl rfl (v_move (.inl rfl) rfl) rfl ?_
 refine L_call rfl rfl rfl (by exact within_spec _ _ _) ?_
 rintro _ _ ⟨rfl, rfl⟩
 refine L_env (env' := uS1n16) rfl ?_
 refine L_op (env' := uS1n16) rfl rfl (v_move (.inl rfl) rfl) rfl ?_
 refine L_split 8 (env1 := uS1n16) (env2 := uS1n16) rfl rfl rfl (fun hg1 => ?_) (fun hg1 => ?_)
 ·try simp only [qB] at hg1
  refine L_op (env' := uS1n16) rfl rfl (rfl) rfl ?_
  refine L_op (env' := uS1n16) rfl rfl (wS1n1 rfl rfl rfl rfl) rfl ?_
  refine L_op (env' := uS1n16) rfl rfl (v_move (.inl rfl) rfl) rfl ?_
  refine L_op (env' := uS1n16) rfl rfl (v_shrW rfl rfl rfl (by first | assumption | omega | (simp [*]; done) | (simp at *; omega))) rfl ?_
  refine L_op (env' := uS1n16) rfl rfl (v_andW (b := 1#64) rfl rfl rfl) rfl ?_
  refine L_op (env' := uS1n16) rfl rfl (rfl) rfl ?_
  refine L_op (env' := uS1n16) rfl rfl (v_pickT rfl rfl rfl) rfl ?_
  refine L_op (env' := uS1n16) rfl rfl (v_move (.inr rfl) rfl) rfl ?_
  refine L_nil (K_seq (B_ret ?_))
  refine E_app (.inr rfl) (vres_tmp rfl rfl) (by first | exact BaseOk.refl _ | exact BaseOk.set (BaseOk.refl _) _ rfl) (by first | rfl | simp [VVal.under, VVal.underL, *]) ?_
  exact ⟨by (first | exact (congrArg VVal.bool (by rw [decide_eq_true hg1, Bool.true_and, ← bit1, ← beq_wd1])) | (rw [decide_eq_false (by omega), Bool.false_and])), rfl⟩
 ·try simp only [qB] at hg1
  refine L_off (env' := uS1n16) rfl rfl ?_
  refine L_off (env' := uS1n16) rfl rfl ?_
  refine L_off (env' := uS1n16) rfl rfl ?_
  refine L_off (env' := uS1n16) rfl rfl ?_
  refine L_off (env' := uS1n16) rfl rfl ?_
  refine L_off (env' := uS1n16) rfl rfl ?_
  refine L_op (env' := uS1n16) rfl rfl (v_pickFC (VVal.bool false) rfl rfl rfl) rfl ?_
  refine L_op (env' := uS1n16) rfl rfl (v_move (.inr rfl) rfl) rfl ?_
  refine L_nil (K_seq (B_ret ?_))
  refine E_app (.inr rfl) (vres_tmp rfl rfl) (by first | exact BaseOk.refl _ | exact BaseOk.set (BaseOk.refl _) _ rfl) (by first | rfl | simp [VVal.under, VVal.underL, *]) ?_
  exact ⟨by (first | exact (congrArg VVal.bool (by rw [decide_eq_true hg1, Bool.true_and, ← bit1, ← beq_wd1])) | (rw [decide_eq_false (by omega), Bool.false_and])), rfl⟩

theorem Of_spec {x : SW} (H : VHeap) (w u : BitVec 64) : F (psys x) 32 [.agg [iW w], iW u] H fun v G => v = .agg [iW u] ∧ G = H := by
 refine F_body Try.func32 rfl uS1n7 rfl ?_
 refine B_seq (B_region ?_)
 refine L_op (env' := uS1n7) rfl rfl (v_boxT rfl rfl rfl) rfl ?_
 refine L_op (env' := uS1n7) rfl rfl (v_alloc rfl rfl) rfl ?_
 refine L_nil (K_seq (B_seq (B_region ?_)))
 refine L_op (env' := uS1n7) rfl rfl (v_move (.inl rfl) rfl) rfl ?_
 refine L_op (env' := uS1n7) rfl rfl (rfl) rfl ?_
 refine L_op (env' := uS1n7) rfl rfl (wS1n2 rfl rfl rfl rfl rfl rfl rfl) rfl ?_
 refine L_nil (K_seq (B_ret ?_))
 refine E_app (.inr rfl) (vres_cellA rfl rfl rfl rfl (by first | exact get_app rfl rfl | exact get_out (by assumption) | exact getE0 rfl rfl | exact get_out (get_app rfl rfl) | exact get_app rfl (by assumption) | assumption | (simp only [List.append_assoc, List.singleton_append, List.cons_append, List.nil_append]; refine getE (i := 0) rfl ?_ rfl; simp; done) | (simp only [List.append_assoc, List.singleton_append, List.cons_append, List.nil_append]; refine getE (i := 1) rfl ?_ rfl; simp; done) | (simp only [List.append_assoc, List.singleton_append, List.cons_append, List.nil_append]; refine getE (i := 2) rfl ?_ rfl; simp; done) | (simp only [List.append_assoc, List.singleton_append, List.cons_append, List.nil_append]; refine getE (i := 3) rfl ?_ rfl; simp; done) | (simp [*]; done)) (by first | rfl | assumption | exact fget (α := BitVec 64) 0 (by omega) | exact fget (α := Int) 0 (by omega) | exact fget0 (α := BitVec 64) 0 (by omega) | exact fget0 (α := Int) 0 (by omega) | exact fget (α := Bool) false (by omega) | exact fget0 (α := Bool) false (by omega) | (simp [*]; done))) (by first | exact BaseOk.refl _ | exact BaseOk.set (BaseOk.refl _) _ rfl) (by first | rfl | simp [VVal.under, VVal.underL, *]) ?_
 exact ⟨rfl, rfl⟩
end Go.Proofs.Ytbngdhlmggdaaaa.VT
