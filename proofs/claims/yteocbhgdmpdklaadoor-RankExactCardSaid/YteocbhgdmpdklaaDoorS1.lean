/- words: walks -/
import Derived.Test.YteocbhgdmpdklaaDoorTB
import Derived.Test.YteocbhgdmpdklaaDoorV19
set_option autoImplicit false
set_option linter.unusedVariables false
set_option linter.unusedSimpArgs false
set_option maxHeartbeats 4000000
set_option maxRecDepth 100000
namespace Go.Proofs.YteocbhgdmpdklaaDoor.VT
open Go Go.V

abbrev uS1n4 {a0 a1 a2 a3 : VVal} : VEnv := a0 :: a1 :: a2 :: a3 :: []
abbrev uS1n6 {a0 a1 a2 a3 a4 a5 : VVal} : VEnv := a0 :: a1 :: a2 :: a3 :: a4 :: a5 :: []
abbrev uS1n7 {a0 a1 a2 a3 a4 a5 a6 : VVal} : VEnv := a0 :: a1 :: a2 :: a3 :: a4 :: a5 :: a6 :: []
abbrev uS1n13 {a0 a1 a2 a3 a4 a5 a6 a7 a8 a9 a10 a11 a12 : VVal} : VEnv := a0 :: a1 :: a2 :: a3 :: a4 :: a5 :: a6 :: a7 :: a8 :: a9 :: a10 :: a11 :: a12 :: []
abbrev uS1n16 {a0 a1 a2 a3 a4 a5 a6 a7 a8 a9 a10 a11 a12 a13 a14 a15 : VVal} : VEnv := a0 :: a1 :: a2 :: a3 :: a4 :: a5 :: a6 :: a7 :: a8 :: a9 :: a10 :: a11 :: a12 :: a13 :: a14 :: a15 :: []
abbrev uS1n18 {a0 a1 a2 a3 a4 a5 a6 a7 a8 a9 a10 a11 a12 a13 a14 a15 a16 a17 : VVal} : VEnv := a0 :: a1 :: a2 :: a3 :: a4 :: a5 :: a6 :: a7 :: a8 :: a9 :: a10 :: a11 :: a12 :: a13 :: a14 :: a15 :: a16 :: a17 :: []
abbrev uS1n20 {a0 a1 a2 a3 a4 a5 a6 a7 a8 a9 a10 a11 a12 a13 a14 a15 a16 a17 a18 a19 : VVal} : VEnv := a0 :: a1 :: a2 :: a3 :: a4 :: a5 :: a6 :: a7 :: a8 :: a9 :: a10 :: a11 :: a12 :: a13 :: a14 :: a15 :: a16 :: a17 :: a18 :: a19 :: []
abbrev uS1n35 {a0 a1 a2 a3 a4 a5 a6 a7 a8 a9 a10 a11 a12 a13 a14 a15 a16 a17 a18 a19 a20 a21 a22 a23 a24 a25 a26 a27 a28 a29 a30 a31 a32 a33 a34 : VVal} : VEnv := a0 :: a1 :: a2 :: a3 :: a4 :: a5 :: a6 :: a7 :: a8 :: a9 :: a10 :: a11 :: a12 :: a13 :: a14 :: a15 :: a16 :: a17 :: a18 :: a19 :: a20 :: a21 :: a22 :: a23 :: a24 :: a25 :: a26 :: a27 :: a28 :: a29 :: a30 :: a31 :: a32 :: a33 :: a34 :: []

theorem Ones_all {x : SW} (H : VHeap) : F (psys x) 94 [.int .u64 ((18446744073709551615#64).toNat : Int)] H fun v G => v = .int .i64 64 ∧ G = H := by
  refine F_body Tryd.func94 rfl uS1n35 rfl ?_
  refine B_seq ?_
  refine B_region ?_
  refine L_op (env' := uS1n35) rfl rfl (v_const (VVal.int .i64 0) (.inr rfl) rfl) rfl ?_
  refine L_nil ?_
  refine K_seq ?_
  refine B_seq ?_
  refine B_region ?_
  refine L_op (env' := uS1n35) rfl rfl (v_move (.inl rfl) rfl) rfl ?_
  refine L_op (env' := uS1n35) rfl rfl (v_shrW rfl rfl rfl (by first | assumption | omega | (simp [*]; done) | (simp at *; omega))) rfl ?_
  refine L_op (env' := uS1n35) rfl rfl (v_andW (b := 6148914691236517205#64) rfl rfl rfl) rfl ?_
  refine L_op (env' := uS1n35) rfl rfl (v_move (.inl rfl) rfl) rfl ?_
  refine L_op (env' := uS1n35) rfl rfl (v_andW (b := 6148914691236517205#64) rfl rfl rfl) rfl ?_
  refine L_op (env' := uS1n35) rfl rfl (v_addW rfl rfl rfl) rfl ?_
  refine L_op (env' := uS1n35) rfl rfl (v_move (.inr rfl) rfl) rfl ?_
  refine L_nil ?_
  refine K_seq ?_
  refine B_seq ?_
  refine B_region ?_
  refine L_op (env' := uS1n35) rfl rfl (v_move (.inl rfl) rfl) rfl ?_
  refine L_op (env' := uS1n35) rfl rfl (v_shrW rfl rfl rfl (by first | assumption | omega | (simp [*]; done) | (simp at *; omega))) rfl ?_
  refine L_op (env' := uS1n35) rfl rfl (v_andW (b := 3689348814741910323#64) rfl rfl rfl) rfl ?_
  refine L_op (env' := uS1n35) rfl rfl (v_move (.inl rfl) rfl) rfl ?_
  refine L_op (env' := uS1n35) rfl rfl (v_andW (b := 3689348814741910323#64) rfl rfl rfl) rfl ?_
  refine L_op (env' := uS1n35) rfl rfl (v_addW rfl rfl rfl) rfl ?_
  refine L_op (env' := uS1n35) rfl rfl (v_move (.inr rfl) rfl) rfl ?_
  refine L_nil ?_
  refine K_seq ?_
  refine B_seq ?_
  refine B_region ?_
  refine L_op (env' := uS1n35) rfl rfl (v_move (.inl rfl) rfl) rfl ?_
  refine L_op (env' := uS1n35) rfl rfl (v_shrW rfl rfl rfl (by first | assumption | omega | (simp [*]; done) | (simp at *; omega))) rfl ?_
  refine L_op (env' := uS1n35) rfl rfl (v_move (.inl rfl) rfl) rfl ?_
  refine L_op (env' := uS1n35) rfl rfl (v_addW rfl rfl rfl) rfl ?_
  refine L_op (env' := uS1n35) rfl rfl (v_andW (b := 1085102592571150095#64) rfl rfl rfl) rfl ?_
  refine L_op (env' := uS1n35) rfl rfl (v_move (.inr rfl) rfl) rfl ?_
  refine L_nil ?_
  refine K_seq ?_
  refine B_seq ?_
  refine B_region ?_
  refine L_op (env' := uS1n35) rfl rfl (v_move (.inl rfl) rfl) rfl ?_
  refine L_op (env' := uS1n35) rfl rfl (v_move (.inl rfl) rfl) rfl ?_
  refine L_op (env' := uS1n35) rfl rfl (v_shrW rfl rfl rfl (by first | assumption | omega | (simp [*]; done) | (simp at *; omega))) rfl ?_
  refine L_op (env' := uS1n35) rfl rfl (v_addW rfl rfl rfl) rfl ?_
  refine L_op (env' := uS1n35) rfl rfl (v_move (.inr rfl) rfl) rfl ?_
  refine L_nil ?_
  refine K_seq ?_
  refine B_seq ?_
  refine B_region ?_
  refine L_op (env' := uS1n35) rfl rfl (v_move (.inl rfl) rfl) rfl ?_
  refine L_op (env' := uS1n35) rfl rfl (v_move (.inl rfl) rfl) rfl ?_
  refine L_op (env' := uS1n35) rfl rfl (v_shrW rfl rfl rfl (by first | assumption | omega | (simp [*]; done) | (simp at *; omega))) rfl ?_
  refine L_op (env' := uS1n35) rfl rfl (v_addW rfl rfl rfl) rfl ?_
  refine L_op (env' := uS1n35) rfl rfl (v_move (.inr rfl) rfl) rfl ?_
  refine L_nil ?_
  refine K_seq ?_
  refine B_seq ?_
  refine B_region ?_
  refine L_op (env' := uS1n35) rfl rfl (v_move (.inl rfl) rfl) rfl ?_
  refine L_op (env' := uS1n35) rfl rfl (v_move (.inl rfl) rfl) rfl ?_
  refine L_op (env' := uS1n35) rfl rfl (v_shrW rfl rfl rfl (by first | assumption | omega | (simp [*]; done) | (simp at *; omega))) rfl ?_
  refine L_op (env' := uS1n35) rfl rfl (v_addW rfl rfl rfl) rfl ?_
  refine L_op (env' := uS1n35) rfl rfl (v_move (.inr rfl) rfl) rfl ?_
  refine L_nil ?_
  refine K_seq ?_
  refine B_seq ?_
  refine B_region ?_
  refine L_op (env' := uS1n35) rfl rfl (v_move (.inl rfl) rfl) rfl ?_
  refine L_op (env' := uS1n35) rfl rfl (rfl) rfl ?_
  refine L_op (env' := uS1n35) rfl rfl (rfl) rfl ?_
  refine L_op (env' := uS1n35) rfl rfl (v_move (.inr rfl) rfl) rfl ?_
  refine L_nil ?_
  refine K_seq ?_
  refine B_ret ?_
  refine E_app (.inr rfl) (vres_tmp rfl rfl) (by first | exact BaseOk.refl _ | exact BaseOk.set (BaseOk.refl _) _ rfl) (by first | rfl | simp [VVal.under, VVal.underL, *]) ?_
  exact ⟨rfl, rfl⟩

theorem Width_spec {x : SW} (H : VHeap) (w : BitVec 64) : F (psys x) 105 [.agg [iW w]] H fun v G => v = .int .i64 64 ∧ G = H := by
  refine F_body Tryd.func105 rfl uS1n6 rfl ?_
  refine B_seq ?_
  refine B_region ?_
  refine L_op (env' := uS1n6) rfl rfl (v_boxT rfl rfl rfl) rfl ?_
  refine L_op (env' := uS1n6) rfl rfl (v_const (VVal.int .i64 0) (.inr rfl) rfl) rfl ?_
  refine L_nil ?_
  refine K_seq ?_
  refine B_seq ?_
  refine B_region ?_
  refine L_op (env' := uS1n6) rfl rfl ((rfl : vop _ _ _ _ = some (VVal.int .u64 (((0#64 : BitVec 64).toNat : Nat) : Int), _))) rfl ?_
  refine L_op (env' := uS1n6) rfl rfl (v_xorU rfl rfl) rfl ?_
  refine L_call rfl rfl rfl (by exact Ones_all _) ?_
  rintro _ _ ⟨rfl, rfl⟩
  refine L_env (env' := uS1n6) rfl ?_
  refine L_op (env' := uS1n6) rfl rfl (v_move (.inr rfl) rfl) rfl ?_
  refine L_nil ?_
  refine K_seq ?_
  refine B_ret ?_
  refine E_app (.inr rfl) (vres_tmp rfl rfl) (by first | exact BaseOk.refl _ | exact BaseOk.set (BaseOk.refl _) _ rfl) (by first | rfl | simp [VVal.under, VVal.underL, *]) ?_
  exact ⟨rfl, rfl⟩

theorem within_spec {x : SW} (H : VHeap) (w : BitVec 64) (i : Int) : F (psys x) 93 [.agg [iW w], iI i] H fun v G => v = .bool (decide (0 ≤ i ∧ i < 64)) ∧ G = H := by
  refine F_body Tryd.func93 rfl uS1n13 rfl ?_
  refine B_seq ?_
  refine B_region ?_
  refine L_op (env' := uS1n13) rfl rfl (v_boxT rfl rfl rfl) rfl ?_
  refine L_op (env' := uS1n13) rfl rfl (v_const (VVal.bool false) (.inr rfl) rfl) rfl ?_
  refine L_nil ?_
  refine K_seq ?_
  refine B_seq ?_
  refine B_region ?_
  refine L_op (env' := uS1n13) rfl rfl (v_move (.inl rfl) rfl) rfl ?_
  refine L_op (env' := uS1n13) rfl rfl (rfl) rfl ?_
  refine L_op (env' := uS1n13) rfl rfl (v_move (.inl rfl) rfl) rfl ?_
  refine L_split 7 (env1 := uS1n13) (env2 := uS1n13) rfl rfl rfl (fun hg1 => ?_) (fun hg1 => ?_)
  · try simp only [decide_eq_true_eq, decide_eq_false_iff_not, Bool.not_eq_true', Bool.not_eq_false', bne_iff_ne, beq_iff_eq, Bool.and_eq_true, Bool.or_eq_true, Bool.not_eq_true, ge_iff_le, gt_iff_lt, Int.not_le, Int.not_lt, beq_eq_false_iff_ne, bne_eq_false_iff_eq, ne_eq, Decidable.not_not, wd_zero, wd_one, wd_inj] at hg1
    refine L_op (env' := uS1n13) rfl rfl (v_move (.inl rfl) rfl) rfl ?_
    refine L_op (env' := uS1n13) rfl rfl (by first | exact v_loadFA rfl rfl rfl rfl (by first | rfl | assumption | exact fget (α := BitVec 64) 0 (by omega) | exact fget (α := Int) 0 (by omega) | exact fget0 (α := BitVec 64) 0 (by omega) | exact fget0 (α := Int) 0 (by omega) | exact fget (α := Bool) false (by omega) | exact fget0 (α := Bool) false (by omega) | (simp [*]; done)) | exact v_loadA rfl rfl rfl rfl (by first | exact get_app rfl rfl | exact get_out (by assumption) | assumption | (simp [*]; done)) (by first | rfl | assumption | exact fget (α := BitVec 64) 0 (by omega) | exact fget (α := Int) 0 (by omega) | exact fget0 (α := BitVec 64) 0 (by omega) | exact fget0 (α := Int) 0 (by omega) | exact fget (α := Bool) false (by omega) | exact fget0 (α := Bool) false (by omega) | (simp [*]; done))) rfl ?_
    refine L_call rfl rfl rfl (by exact Width_spec _ _) ?_
    rintro _ _ ⟨rfl, rfl⟩
    refine L_env (env' := uS1n13) rfl ?_
    refine L_op (env' := uS1n13) rfl rfl (rfl) rfl ?_
    refine L_op (env' := uS1n13) rfl rfl (v_pickT rfl rfl rfl) rfl ?_
    refine L_op (env' := uS1n13) rfl rfl (v_move (.inr rfl) rfl) rfl ?_
    refine L_nil ?_
    refine K_seq ?_
    refine B_ret ?_
    refine E_app (.inr rfl) (vres_tmp rfl rfl) (by first | exact BaseOk.refl _ | exact BaseOk.set (BaseOk.refl _) _ rfl) (by first | rfl | simp [VVal.under, VVal.underL, *]) ?_
    exact ⟨by simp [*]; try omega, rfl⟩
  · try simp only [decide_eq_true_eq, decide_eq_false_iff_not, Bool.not_eq_true', Bool.not_eq_false', bne_iff_ne, beq_iff_eq, Bool.and_eq_true, Bool.or_eq_true, Bool.not_eq_true, ge_iff_le, gt_iff_lt, Int.not_le, Int.not_lt, beq_eq_false_iff_ne, bne_eq_false_iff_eq, ne_eq, Decidable.not_not, wd_zero, wd_one, wd_inj] at hg1
    refine L_off (env' := uS1n13) rfl rfl ?_
    refine L_off (env' := uS1n13) rfl rfl ?_
    refine L_off (env' := uS1n13) rfl rfl ?_
    refine L_off (env' := uS1n13) rfl rfl ?_
    refine L_op (env' := uS1n13) rfl rfl (v_pickFC (VVal.bool false) rfl rfl rfl) rfl ?_
    refine L_op (env' := uS1n13) rfl rfl (v_move (.inr rfl) rfl) rfl ?_
    refine L_nil ?_
    refine K_seq ?_
    refine B_ret ?_
    refine E_app (.inr rfl) (vres_tmp rfl rfl) (by first | exact BaseOk.refl _ | exact BaseOk.set (BaseOk.refl _) _ rfl) (by first | rfl | simp [VVal.under, VVal.underL, *]) ?_
    exact ⟨by simp [*]; try omega, rfl⟩

theorem Has_spec {x : SW} (H : VHeap) (w : BitVec 64) (i : Int) : F (psys x) 63 [.agg [iW w], iI i] H fun v G => v = .bool (decide (0 ≤ i ∧ i < 64) && w.getLsbD i.toNat) ∧ G = H := by
  refine F_body Tryd.func63 rfl uS1n16 rfl ?_
  refine B_seq ?_
  refine B_region ?_
  refine L_op (env' := uS1n16) rfl rfl (v_boxT rfl rfl rfl) rfl ?_
  refine L_op (env' := uS1n16) rfl rfl (v_const (VVal.bool false) (.inr rfl) rfl) rfl ?_
  refine L_nil ?_
  refine K_seq ?_
  refine B_seq ?_
  refine B_region ?_
  refine L_op (env' := uS1n16) rfl rfl (by first | exact v_loadFA rfl rfl rfl rfl (by first | rfl | assumption | exact fget (α := BitVec 64) 0 (by omega) | exact fget (α := Int) 0 (by omega) | exact fget0 (α := BitVec 64) 0 (by omega) | exact fget0 (α := Int) 0 (by omega) | exact fget (α := Bool) false (by omega) | exact fget0 (α := Bool) false (by omega) | (simp [*]; done)) | exact v_loadA rfl rfl rfl rfl (by first | exact get_app rfl rfl | exact get_out (by assumption) | assumption | (simp [*]; done)) (by first | rfl | assumption | exact fget (α := BitVec 64) 0 (by omega) | exact fget (α := Int) 0 (by omega) | exact fget0 (α := BitVec 64) 0 (by omega) | exact fget0 (α := Int) 0 (by omega) | exact fget (α := Bool) false (by omega) | exact fget0 (α := Bool) false (by omega) | (simp [*]; done))) rfl ?_
  refine L_op (env' := uS1n16) rfl rfl (v_move (.inl rfl) rfl) rfl ?_
  refine L_call rfl rfl rfl (by exact within_spec _ _ _) ?_
  rintro _ _ ⟨rfl, rfl⟩
  refine L_env (env' := uS1n16) rfl ?_
  refine L_op (env' := uS1n16) rfl rfl (v_move (.inl rfl) rfl) rfl ?_
  refine L_split 8 (env1 := uS1n16) (env2 := uS1n16) rfl rfl rfl (fun hg1 => ?_) (fun hg1 => ?_)
  · try simp only [decide_eq_true_eq, decide_eq_false_iff_not, Bool.not_eq_true', Bool.not_eq_false', bne_iff_ne, beq_iff_eq, Bool.and_eq_true, Bool.or_eq_true, Bool.not_eq_true, ge_iff_le, gt_iff_lt, Int.not_le, Int.not_lt, beq_eq_false_iff_ne, bne_eq_false_iff_eq, ne_eq, Decidable.not_not, wd_zero, wd_one, wd_inj] at hg1
    refine L_op (env' := uS1n16) rfl rfl (rfl) rfl ?_
    refine L_op (env' := uS1n16) rfl rfl (by first | exact v_loadF rfl rfl rfl rfl (by first | rfl | assumption | exact fget (α := BitVec 64) 0 (by omega) | exact fget (α := Int) 0 (by omega) | exact fget0 (α := BitVec 64) 0 (by omega) | exact fget0 (α := Int) 0 (by omega) | exact fget (α := Bool) false (by omega) | exact fget0 (α := Bool) false (by omega) | (simp [*]; done)) | exact v_load rfl rfl rfl rfl (by first | exact get_app rfl rfl | exact get_out (by assumption) | assumption | (simp [*]; done)) (by first | rfl | assumption | exact fget (α := BitVec 64) 0 (by omega) | exact fget (α := Int) 0 (by omega) | exact fget0 (α := BitVec 64) 0 (by omega) | exact fget0 (α := Int) 0 (by omega) | exact fget (α := Bool) false (by omega) | exact fget0 (α := Bool) false (by omega) | (simp [*]; done))) rfl ?_
    refine L_op (env' := uS1n16) rfl rfl (v_move (.inl rfl) rfl) rfl ?_
    refine L_op (env' := uS1n16) rfl rfl (v_shrW rfl rfl rfl (by first | assumption | omega | (simp [*]; done) | (simp at *; omega))) rfl ?_
    refine L_op (env' := uS1n16) rfl rfl (v_andW (b := 1#64) rfl rfl rfl) rfl ?_
    refine L_op (env' := uS1n16) rfl rfl (rfl) rfl ?_
    refine L_op (env' := uS1n16) rfl rfl (v_pickT rfl rfl rfl) rfl ?_
    refine L_op (env' := uS1n16) rfl rfl (v_move (.inr rfl) rfl) rfl ?_
    refine L_nil ?_
    refine K_seq ?_
    refine B_ret ?_
    refine E_app (.inr rfl) (vres_tmp rfl rfl) (by first | exact BaseOk.refl _ | exact BaseOk.set (BaseOk.refl _) _ rfl) (by first | rfl | simp [VVal.under, VVal.underL, *]) ?_
    exact ⟨by (first | exact (congrArg VVal.bool (by rw [decide_eq_true hg1, Bool.true_and, ← bit1, ← beq_wd1])) | (rw [decide_eq_false (by omega), Bool.false_and])), rfl⟩
  · try simp only [decide_eq_true_eq, decide_eq_false_iff_not, Bool.not_eq_true', Bool.not_eq_false', bne_iff_ne, beq_iff_eq, Bool.and_eq_true, Bool.or_eq_true, Bool.not_eq_true, ge_iff_le, gt_iff_lt, Int.not_le, Int.not_lt, beq_eq_false_iff_ne, bne_eq_false_iff_eq, ne_eq, Decidable.not_not, wd_zero, wd_one, wd_inj] at hg1
    refine L_off (env' := uS1n16) rfl rfl ?_
    refine L_off (env' := uS1n16) rfl rfl ?_
    refine L_off (env' := uS1n16) rfl rfl ?_
    refine L_off (env' := uS1n16) rfl rfl ?_
    refine L_off (env' := uS1n16) rfl rfl ?_
    refine L_off (env' := uS1n16) rfl rfl ?_
    refine L_op (env' := uS1n16) rfl rfl (v_pickFC (VVal.bool false) rfl rfl rfl) rfl ?_
    refine L_op (env' := uS1n16) rfl rfl (v_move (.inr rfl) rfl) rfl ?_
    refine L_nil ?_
    refine K_seq ?_
    refine B_ret ?_
    refine E_app (.inr rfl) (vres_tmp rfl rfl) (by first | exact BaseOk.refl _ | exact BaseOk.set (BaseOk.refl _) _ rfl) (by first | rfl | simp [VVal.under, VVal.underL, *]) ?_
    exact ⟨by (first | exact (congrArg VVal.bool (by rw [decide_eq_true hg1, Bool.true_and, ← bit1, ← beq_wd1])) | (rw [decide_eq_false (by omega), Bool.false_and])), rfl⟩

theorem Of_spec {x : SW} (H : VHeap) (w u : BitVec 64) : F (psys x) 90 [.agg [iW w], iW u] H fun v G => v = .agg [iW u] ∧ G = H := by
  refine F_body Tryd.func90 rfl uS1n7 rfl ?_
  refine B_seq ?_
  refine B_region ?_
  refine L_op (env' := uS1n7) rfl rfl (v_boxT rfl rfl rfl) rfl ?_
  refine L_op (env' := uS1n7) rfl rfl (v_alloc rfl rfl) rfl ?_
  refine L_nil ?_
  refine K_seq ?_
  refine B_seq ?_
  refine B_region ?_
  refine L_op (env' := uS1n7) rfl rfl (v_move (.inl rfl) rfl) rfl ?_
  refine L_op (env' := uS1n7) rfl rfl (rfl) rfl ?_
  refine L_op (env' := uS1n7) rfl rfl (v_storeT rfl rfl rfl rfl rfl rfl rfl (by first | exact get_app rfl rfl | exact get_out (by assumption) | assumption | (simp [*]; done)) (by first | exact Nat.le_of_ble_eq_true rfl | (simp only [List.length_map, List.length_cons, List.length_nil]; omega) | omega | (simp; done) | (simp; omega)) (by first | exact set_app rfl | exact set_out (lt_of_get (by assumption)) | rfl)) rfl ?_
  refine L_nil ?_
  refine K_seq ?_
  refine B_ret ?_
  refine E_app (.inr rfl) (vres_cellA rfl rfl rfl rfl (by first | exact get_app rfl rfl | exact get_out (by assumption) | assumption | (simp [*]; done)) (by first | rfl | assumption | exact fget (α := BitVec 64) 0 (by omega) | exact fget (α := Int) 0 (by omega) | exact fget0 (α := BitVec 64) 0 (by omega) | exact fget0 (α := Int) 0 (by omega) | exact fget (α := Bool) false (by omega) | exact fget0 (α := Bool) false (by omega) | (simp [*]; done))) (by first | exact BaseOk.refl _ | exact BaseOk.set (BaseOk.refl _) _ rfl) (by first | rfl | simp [VVal.under, VVal.underL, *]) ?_
  exact ⟨rfl, rfl⟩

theorem below_spec {x : SW} (H : VHeap) (w : BitVec 64) (i : Int) : F (psys x) 103 [.agg [iW w], iI i] H fun v G => v = iW (if i ≤ 0 then 0#64 else if 64 ≤ i then ~~~0#64 else 1#64 <<< i.toNat - 1#64) ∧ G = H := by
  refine F_body Tryd.func103 rfl uS1n18 rfl ?_
  refine B_seq ?_
  refine B_region ?_
  refine L_op (env' := uS1n18) rfl rfl (v_boxT rfl rfl rfl) rfl ?_
  refine L_op (env' := uS1n18) rfl rfl (v_const (VVal.int .u64 0) (.inr rfl) rfl) rfl ?_
  refine L_nil ?_
  refine K_seq ?_
  refine B_seq ?_
  refine B_block ?_
  refine B_seq ?_
  refine B_region ?_
  refine L_op (env' := uS1n18) rfl rfl (v_move (.inl rfl) rfl) rfl ?_
  refine L_op (env' := uS1n18) rfl rfl (rfl) rfl ?_
  refine L_op (env' := uS1n18) rfl rfl (v_move (.inr rfl) rfl) rfl ?_
  refine L_nil ?_
  refine K_seq ?_
  refine B_cond _ rfl (fun hc1 => ?_) (fun hc1 => ?_)
  · try simp only [decide_eq_true_eq, decide_eq_false_iff_not, Bool.not_eq_true', Bool.not_eq_false', bne_iff_ne, beq_iff_eq, Bool.and_eq_true, Bool.or_eq_true, Bool.not_eq_true, ge_iff_le, gt_iff_lt, Int.not_le, Int.not_lt, beq_eq_false_iff_ne, bne_eq_false_iff_eq, ne_eq, Decidable.not_not, wd_zero, wd_one, wd_inj] at hc1
    refine B_seq ?_
    refine B_region ?_
    refine L_op (env' := uS1n18) rfl rfl (v_const (VVal.int .u64 0) (.inr rfl) rfl) rfl ?_
    refine L_nil ?_
    refine K_seq ?_
    refine B_ret ?_
    refine K_blkR ?_
    refine K_seqR ?_
    refine E_app (.inr rfl) (vres_tmp rfl rfl) (by first | exact BaseOk.refl _ | exact BaseOk.set (BaseOk.refl _) _ rfl) (by first | rfl | simp [VVal.under, VVal.underL, *]) ?_
    exact ⟨by (first | rw [if_pos hc1]; rfl | rw [if_neg (by omega), if_pos (by omega)] | rw [if_neg (by omega), if_neg (by omega)]), rfl⟩
  · try simp only [decide_eq_true_eq, decide_eq_false_iff_not, Bool.not_eq_true', Bool.not_eq_false', bne_iff_ne, beq_iff_eq, Bool.and_eq_true, Bool.or_eq_true, Bool.not_eq_true, ge_iff_le, gt_iff_lt, Int.not_le, Int.not_lt, beq_eq_false_iff_ne, bne_eq_false_iff_eq, ne_eq, Decidable.not_not, wd_zero, wd_one, wd_inj] at hc1
    refine B_seq ?_
    refine B_region ?_
    refine L_op (env' := uS1n18) rfl rfl (v_move (.inl rfl) rfl) rfl ?_
    refine L_op (env' := uS1n18) rfl rfl (by first | exact v_loadFA rfl rfl rfl rfl (by first | rfl | assumption | exact fget (α := BitVec 64) 0 (by omega) | exact fget (α := Int) 0 (by omega) | exact fget0 (α := BitVec 64) 0 (by omega) | exact fget0 (α := Int) 0 (by omega) | exact fget (α := Bool) false (by omega) | exact fget0 (α := Bool) false (by omega) | (simp [*]; done)) | exact v_loadA rfl rfl rfl rfl (by first | exact get_app rfl rfl | exact get_out (by assumption) | assumption | (simp [*]; done)) (by first | rfl | assumption | exact fget (α := BitVec 64) 0 (by omega) | exact fget (α := Int) 0 (by omega) | exact fget0 (α := BitVec 64) 0 (by omega) | exact fget0 (α := Int) 0 (by omega) | exact fget (α := Bool) false (by omega) | exact fget0 (α := Bool) false (by omega) | (simp [*]; done))) rfl ?_
    refine L_call rfl rfl rfl (by exact Width_spec _ _) ?_
    rintro _ _ ⟨rfl, rfl⟩
    refine L_env (env' := uS1n18) rfl ?_
    refine L_op (env' := uS1n18) rfl rfl (rfl) rfl ?_
    refine L_op (env' := uS1n18) rfl rfl (v_move (.inr rfl) rfl) rfl ?_
    refine L_nil ?_
    refine K_seq ?_
    refine B_cond _ rfl (fun hc2 => ?_) (fun hc2 => ?_)
    · try simp only [decide_eq_true_eq, decide_eq_false_iff_not, Bool.not_eq_true', Bool.not_eq_false', bne_iff_ne, beq_iff_eq, Bool.and_eq_true, Bool.or_eq_true, Bool.not_eq_true, ge_iff_le, gt_iff_lt, Int.not_le, Int.not_lt, beq_eq_false_iff_ne, bne_eq_false_iff_eq, ne_eq, Decidable.not_not, wd_zero, wd_one, wd_inj] at hc2
      refine B_seq ?_
      refine B_region ?_
      refine L_op (env' := uS1n18) rfl rfl ((rfl : vop _ _ _ _ = some (VVal.int .u64 (((0#64 : BitVec 64).toNat : Nat) : Int), _))) rfl ?_
      refine L_op (env' := uS1n18) rfl rfl (v_xorU rfl rfl) rfl ?_
      refine L_op (env' := uS1n18) rfl rfl (v_move (.inr rfl) rfl) rfl ?_
      refine L_nil ?_
      refine K_seq ?_
      refine B_ret ?_
      refine K_blkR ?_
      refine K_seqR ?_
      refine E_app (.inr rfl) (vres_tmp rfl rfl) (by first | exact BaseOk.refl _ | exact BaseOk.set (BaseOk.refl _) _ rfl) (by first | rfl | simp [VVal.under, VVal.underL, *]) ?_
      exact ⟨by (first | rw [if_pos hc1]; rfl | rw [if_neg (by omega), if_pos (by omega)] | rw [if_neg (by omega), if_neg (by omega)]), rfl⟩
    · try simp only [decide_eq_true_eq, decide_eq_false_iff_not, Bool.not_eq_true', Bool.not_eq_false', bne_iff_ne, beq_iff_eq, Bool.and_eq_true, Bool.or_eq_true, Bool.not_eq_true, ge_iff_le, gt_iff_lt, Int.not_le, Int.not_lt, beq_eq_false_iff_ne, bne_eq_false_iff_eq, ne_eq, Decidable.not_not, wd_zero, wd_one, wd_inj] at hc2
      refine B_skip ?_
      refine K_blk ?_
      refine K_seq ?_
      refine B_seq ?_
      refine B_region ?_
      refine L_op (env' := uS1n18) rfl rfl (v_move (.inl rfl) rfl) rfl ?_
      refine L_op (env' := uS1n18) rfl rfl (v_shl1 rfl rfl rfl (by first | assumption | omega | (simp [*]; done) | (simp at *; omega))) rfl ?_
      refine L_op (env' := uS1n18) rfl rfl (v_subW (b := 1#64) rfl rfl rfl) rfl ?_
      refine L_op (env' := uS1n18) rfl rfl (v_move (.inr rfl) rfl) rfl ?_
      refine L_nil ?_
      refine K_seq ?_
      refine B_ret ?_
      refine E_app (.inr rfl) (vres_tmp rfl rfl) (by first | exact BaseOk.refl _ | exact BaseOk.set (BaseOk.refl _) _ rfl) (by first | rfl | simp [VVal.under, VVal.underL, *]) ?_
      exact ⟨by (first | rw [if_pos hc1]; rfl | rw [if_neg (by omega), if_pos (by omega)] | rw [if_neg (by omega), if_neg (by omega)]), rfl⟩

theorem Next_spec {x : SW} (H : VHeap) (w : BitVec 64) (i : Int) : F (psys x) 92 [.agg [iW w], iI i] H fun v G => v = iI (nx (w &&& ~~~bel i)) ∧ G = H := by
  refine F_body Tryd.func92 rfl uS1n20 rfl ?_
  refine B_seq ?_
  refine B_region ?_
  refine L_op (env' := uS1n20) rfl rfl (v_boxT rfl rfl rfl) rfl ?_
  refine L_op (env' := uS1n20) rfl rfl (v_const (VVal.int .i64 0) (.inr rfl) rfl) rfl ?_
  refine L_nil ?_
  refine K_seq ?_
  refine B_seq ?_
  refine B_region ?_
  refine L_op (env' := uS1n20) rfl rfl (rfl) rfl ?_
  refine L_op (env' := uS1n20) rfl rfl (by first | exact v_loadF rfl rfl rfl rfl (by first | rfl | assumption | exact fget (α := BitVec 64) 0 (by omega) | exact fget (α := Int) 0 (by omega) | exact fget0 (α := BitVec 64) 0 (by omega) | exact fget0 (α := Int) 0 (by omega) | exact fget (α := Bool) false (by omega) | exact fget0 (α := Bool) false (by omega) | (simp [*]; done)) | exact v_load rfl rfl rfl rfl (by first | exact get_app rfl rfl | exact get_out (by assumption) | assumption | (simp [*]; done)) (by first | rfl | assumption | exact fget (α := BitVec 64) 0 (by omega) | exact fget (α := Int) 0 (by omega) | exact fget0 (α := BitVec 64) 0 (by omega) | exact fget0 (α := Int) 0 (by omega) | exact fget (α := Bool) false (by omega) | exact fget0 (α := Bool) false (by omega) | (simp [*]; done))) rfl ?_
  refine L_op (env' := uS1n20) rfl rfl (v_move (.inr rfl) rfl) rfl ?_
  refine L_nil ?_
  refine K_seq ?_
  refine B_seq ?_
  refine B_seq ?_
  refine B_region ?_
  refine L_op (env' := uS1n20) rfl rfl (v_move (.inl rfl) rfl) rfl ?_
  refine L_op (env' := uS1n20) rfl rfl (rfl) rfl ?_
  refine L_nil ?_
  refine K_seq ?_
  refine B_cond _ rfl (fun hc1 => ?_) (fun hc1 => ?_)
  · try simp only [decide_eq_true_eq, decide_eq_false_iff_not, Bool.not_eq_true', Bool.not_eq_false', bne_iff_ne, beq_iff_eq, Bool.and_eq_true, Bool.or_eq_true, Bool.not_eq_true, ge_iff_le, gt_iff_lt, Int.not_le, Int.not_lt, beq_eq_false_iff_ne, bne_eq_false_iff_eq, ne_eq, Decidable.not_not, wd_zero, wd_one, wd_inj] at hc1
    refine B_draw [0, 1, 2, 3, 4, 5, 6] #[0, 1, 0, 0, 12, 31, 63] (by kernel_rfl) (by kernel_rfl) (by kernel_rfl) ?_
    refine O_op (env' := uS1n20) (c := .calm) rfl rfl rfl (rfl) rfl rfl rfl ?_
    refine O_opI (env' := uS1n20) (x := .look _ _) rfl rfl rfl (by first | exact v_loadF rfl rfl rfl rfl (by first | rfl | assumption | exact fget (α := BitVec 64) 0 (by omega) | exact fget (α := Int) 0 (by omega) | exact fget0 (α := BitVec 64) 0 (by omega) | exact fget0 (α := Int) 0 (by omega) | exact fget (α := Bool) false (by omega) | exact fget0 (α := Bool) false (by omega) | (simp [*]; done)) | exact v_load rfl rfl rfl rfl (by first | exact get_app rfl rfl | exact get_out (by assumption) | assumption | (simp [*]; done)) (by first | rfl | assumption | exact fget (α := BitVec 64) 0 (by omega) | exact fget (α := Int) 0 (by omega) | exact fget0 (α := BitVec 64) 0 (by omega) | exact fget0 (α := Int) 0 (by omega) | exact fget (α := Bool) false (by omega) | exact fget0 (α := Bool) false (by omega) | (simp [*]; done))) rfl rfl rfl ?_
    refine O_op (env' := uS1n20) (c := .look) rfl rfl rfl (by first | exact v_loadFA rfl rfl rfl rfl (by first | rfl | assumption | exact fget (α := BitVec 64) 0 (by omega) | exact fget (α := Int) 0 (by omega) | exact fget0 (α := BitVec 64) 0 (by omega) | exact fget0 (α := Int) 0 (by omega) | exact fget (α := Bool) false (by omega) | exact fget0 (α := Bool) false (by omega) | (simp [*]; done)) | exact v_loadA rfl rfl rfl rfl (by first | exact get_app rfl rfl | exact get_out (by assumption) | assumption | (simp [*]; done)) (by first | rfl | assumption | exact fget (α := BitVec 64) 0 (by omega) | exact fget (α := Int) 0 (by omega) | exact fget0 (α := BitVec 64) 0 (by omega) | exact fget0 (α := Int) 0 (by omega) | exact fget (α := Bool) false (by omega) | exact fget0 (α := Bool) false (by omega) | (simp [*]; done))) rfl rfl rfl ?_
    refine O_op (env' := uS1n20) (c := .calm) rfl rfl rfl (v_move (.inl rfl) rfl) rfl rfl rfl ?_
    refine O_call (env' := uS1n20) rfl rfl rfl rfl rfl (by exact below_spec _ _ _) (by first | exact Nat.le_refl _ | simp) rfl rfl ?_
    refine O_op (env' := uS1n20) (c := .calm) rfl rfl rfl (v_andNotW rfl rfl rfl) rfl rfl rfl ?_
    refine O_op (env' := uS1n20) (c := .calm) rfl rfl rfl (v_move (.inr rfl) rfl) rfl rfl rfl ?_
    refine O_nil [_] (by rfl) (And.intro (And.intro (by first | exact v_loadF rfl rfl rfl rfl (by first | rfl | assumption | exact fget (α := BitVec 64) 0 (by omega) | exact fget (α := Int) 0 (by omega) | exact fget0 (α := BitVec 64) 0 (by omega) | exact fget0 (α := Int) 0 (by omega) | exact fget (α := Bool) false (by omega) | exact fget0 (α := Bool) false (by omega) | (simp [*]; done)) | exact v_load rfl rfl rfl rfl (by first | exact get_app rfl rfl | exact get_out (by assumption) | assumption | (simp [*]; done)) (by first | rfl | assumption | exact fget (α := BitVec 64) 0 (by omega) | exact fget (α := Int) 0 (by omega) | exact fget0 (α := BitVec 64) 0 (by omega) | exact fget0 (α := Int) 0 (by omega) | exact fget (α := Bool) false (by omega) | exact fget0 (α := Bool) false (by omega) | (simp [*]; done))) (by first | exact v_loadF rfl rfl rfl rfl (by first | rfl | assumption | exact fget (α := BitVec 64) 0 (by omega) | exact fget (α := Int) 0 (by omega) | exact fget0 (α := BitVec 64) 0 (by omega) | exact fget0 (α := Int) 0 (by omega) | exact fget (α := Bool) false (by omega) | exact fget0 (α := Bool) false (by omega) | (simp [*]; done)) | exact v_load rfl rfl rfl rfl (by first | exact get_app rfl rfl | exact get_out (by assumption) | assumption | (simp [*]; done)) (by first | rfl | assumption | exact fget (α := BitVec 64) 0 (by omega) | exact fget (α := Int) 0 (by omega) | exact fget0 (α := BitVec 64) 0 (by omega) | exact fget0 (α := Int) 0 (by omega) | exact fget (α := Bool) false (by omega) | exact fget0 (α := Bool) false (by omega) | (simp [*]; done)))) trivial) ?_
    refine K_seq ?_
    refine B_seq ?_
    refine B_seq ?_
    refine B_region ?_
    refine L_op (env' := uS1n20) rfl rfl (v_move (.inl rfl) rfl) rfl ?_
    refine L_op (env' := uS1n20) rfl rfl (rfl) rfl ?_
    refine L_nil ?_
    refine K_seq ?_
    refine B_cond _ rfl (fun hc2 => ?_) (fun hc2 => ?_)
    · try simp only [decide_eq_true_eq, decide_eq_false_iff_not, Bool.not_eq_true', Bool.not_eq_false', bne_iff_ne, beq_iff_eq, Bool.and_eq_true, Bool.or_eq_true, Bool.not_eq_true, ge_iff_le, gt_iff_lt, Int.not_le, Int.not_lt, beq_eq_false_iff_ne, bne_eq_false_iff_eq, ne_eq, Decidable.not_not, wd_zero, wd_one, wd_inj] at hc2
      refine B_seq ?_
      refine B_region ?_
      refine L_op (env' := uS1n20) rfl rfl (v_const (VVal.int .i64 (-1)) (.inr rfl) rfl) rfl ?_
      refine L_nil ?_
      refine K_seq ?_
      refine B_ret ?_
      refine K_seqR ?_
      refine E_app (.inr rfl) (vres_tmp rfl rfl) (by first | exact BaseOk.refl _ | exact BaseOk.set (BaseOk.refl _) _ rfl) (by first | rfl | simp [VVal.under, VVal.underL, *]) ?_
      have hb : ¬ 0 < i → w &&& ~~~bel i = w := fun h => by rw [show bel i = 0#64 from if_pos (by omega), show ~~~0#64 = BitVec.allOnes 64 from rfl, BitVec.and_allOnes]
      exact ⟨by (first | (rw [show nx (w &&& ~~~bel i) = -1 from if_pos ‹_›]) | (rw [show nx (w &&& ~~~bel i) = _ from if_neg ‹_›]; rfl) | (rw [hb (by omega), show nx w = -1 from if_pos ‹_›]) | (rw [hb (by omega), show nx w = _ from if_neg ‹_›])), rfl⟩
    · try simp only [decide_eq_true_eq, decide_eq_false_iff_not, Bool.not_eq_true', Bool.not_eq_false', bne_iff_ne, beq_iff_eq, Bool.and_eq_true, Bool.or_eq_true, Bool.not_eq_true, ge_iff_le, gt_iff_lt, Int.not_le, Int.not_lt, beq_eq_false_iff_ne, bne_eq_false_iff_eq, ne_eq, Decidable.not_not, wd_zero, wd_one, wd_inj] at hc2
      refine B_skip ?_
      refine K_seq ?_
      refine B_seq ?_
      refine B_region ?_
      refine L_op (env' := uS1n20) rfl rfl (v_move (.inl rfl) rfl) rfl ?_
      refine L_call rfl rfl rfl (by exact tz_spec _ _) ?_
      rintro _ _ ⟨rfl, rfl⟩
      refine L_env (env' := uS1n20) rfl ?_
      refine L_op (env' := uS1n20) rfl rfl (v_move (.inr rfl) rfl) rfl ?_
      refine L_nil ?_
      refine K_seq ?_
      refine B_ret ?_
      refine E_app (.inr rfl) (vres_tmp rfl rfl) (by first | exact BaseOk.refl _ | exact BaseOk.set (BaseOk.refl _) _ rfl) (by first | rfl | simp [VVal.under, VVal.underL, *]) ?_
      have hb : ¬ 0 < i → w &&& ~~~bel i = w := fun h => by rw [show bel i = 0#64 from if_pos (by omega), show ~~~0#64 = BitVec.allOnes 64 from rfl, BitVec.and_allOnes]
      exact ⟨by (first | (rw [show nx (w &&& ~~~bel i) = -1 from if_pos ‹_›]) | (rw [show nx (w &&& ~~~bel i) = _ from if_neg ‹_›]; rfl) | (rw [hb (by omega), show nx w = -1 from if_pos ‹_›]) | (rw [hb (by omega), show nx w = _ from if_neg ‹_›])), rfl⟩
  · try simp only [decide_eq_true_eq, decide_eq_false_iff_not, Bool.not_eq_true', Bool.not_eq_false', bne_iff_ne, beq_iff_eq, Bool.and_eq_true, Bool.or_eq_true, Bool.not_eq_true, ge_iff_le, gt_iff_lt, Int.not_le, Int.not_lt, beq_eq_false_iff_ne, bne_eq_false_iff_eq, ne_eq, Decidable.not_not, wd_zero, wd_one, wd_inj] at hc1
    refine B_skip ?_
    refine K_seq ?_
    refine B_seq ?_
    refine B_seq ?_
    refine B_region ?_
    refine L_op (env' := uS1n20) rfl rfl (v_move (.inl rfl) rfl) rfl ?_
    refine L_op (env' := uS1n20) rfl rfl (rfl) rfl ?_
    refine L_nil ?_
    refine K_seq ?_
    refine B_cond _ rfl (fun hc3 => ?_) (fun hc3 => ?_)
    · try simp only [decide_eq_true_eq, decide_eq_false_iff_not, Bool.not_eq_true', Bool.not_eq_false', bne_iff_ne, beq_iff_eq, Bool.and_eq_true, Bool.or_eq_true, Bool.not_eq_true, ge_iff_le, gt_iff_lt, Int.not_le, Int.not_lt, beq_eq_false_iff_ne, bne_eq_false_iff_eq, ne_eq, Decidable.not_not, wd_zero, wd_one, wd_inj] at hc3
      refine B_seq ?_
      refine B_region ?_
      refine L_op (env' := uS1n20) rfl rfl (v_const (VVal.int .i64 (-1)) (.inr rfl) rfl) rfl ?_
      refine L_nil ?_
      refine K_seq ?_
      refine B_ret ?_
      refine K_seqR ?_
      refine E_app (.inr rfl) (vres_tmp rfl rfl) (by first | exact BaseOk.refl _ | exact BaseOk.set (BaseOk.refl _) _ rfl) (by first | rfl | simp [VVal.under, VVal.underL, *]) ?_
      have hb : ¬ 0 < i → w &&& ~~~bel i = w := fun h => by rw [show bel i = 0#64 from if_pos (by omega), show ~~~0#64 = BitVec.allOnes 64 from rfl, BitVec.and_allOnes]
      exact ⟨by (first | (rw [show nx (w &&& ~~~bel i) = -1 from if_pos ‹_›]) | (rw [show nx (w &&& ~~~bel i) = _ from if_neg ‹_›]; rfl) | (rw [hb (by omega), show nx w = -1 from if_pos ‹_›]) | (rw [hb (by omega), show nx w = _ from if_neg ‹_›])), rfl⟩
    · try simp only [decide_eq_true_eq, decide_eq_false_iff_not, Bool.not_eq_true', Bool.not_eq_false', bne_iff_ne, beq_iff_eq, Bool.and_eq_true, Bool.or_eq_true, Bool.not_eq_true, ge_iff_le, gt_iff_lt, Int.not_le, Int.not_lt, beq_eq_false_iff_ne, bne_eq_false_iff_eq, ne_eq, Decidable.not_not, wd_zero, wd_one, wd_inj] at hc3
      refine B_skip ?_
      refine K_seq ?_
      refine B_seq ?_
      refine B_region ?_
      refine L_op (env' := uS1n20) rfl rfl (v_move (.inl rfl) rfl) rfl ?_
      refine L_call rfl rfl rfl (by exact tz_spec _ _) ?_
      rintro _ _ ⟨rfl, rfl⟩
      refine L_env (env' := uS1n20) rfl ?_
      refine L_op (env' := uS1n20) rfl rfl (v_move (.inr rfl) rfl) rfl ?_
      refine L_nil ?_
      refine K_seq ?_
      refine B_ret ?_
      refine E_app (.inr rfl) (vres_tmp rfl rfl) (by first | exact BaseOk.refl _ | exact BaseOk.set (BaseOk.refl _) _ rfl) (by first | rfl | simp [VVal.under, VVal.underL, *]) ?_
      have hb : ¬ 0 < i → w &&& ~~~bel i = w := fun h => by rw [show bel i = 0#64 from if_pos (by omega), show ~~~0#64 = BitVec.allOnes 64 from rfl, BitVec.and_allOnes]
      exact ⟨by (first | (rw [show nx (w &&& ~~~bel i) = -1 from if_pos ‹_›]) | (rw [show nx (w &&& ~~~bel i) = _ from if_neg ‹_›]; rfl) | (rw [hb (by omega), show nx w = -1 from if_pos ‹_›]) | (rw [hb (by omega), show nx w = _ from if_neg ‹_›])), rfl⟩

theorem All_spec {x : SW} (H : VHeap) (w : BitVec 64) : F (psys x) 60 [.agg [iW w]] H fun v G => v = .func 91 [] [.fptr [iW w] 0] ∧ G = H := by
  refine F_body Tryd.func60 rfl uS1n4 rfl ?_
  refine B_seq ?_
  refine B_region ?_
  refine L_op (env' := uS1n4) rfl rfl (v_boxT rfl rfl rfl) rfl ?_
  refine L_op (env' := uS1n4) rfl rfl (v_const (VVal.nilFunc) (.inr rfl) rfl) rfl ?_
  refine L_nil ?_
  refine K_seq ?_
  refine B_seq ?_
  refine B_region ?_
  refine L_op (env' := uS1n4) rfl rfl (v_func [_] rfl rfl) rfl ?_
  refine L_op (env' := uS1n4) rfl rfl (v_move (.inr rfl) rfl) rfl ?_
  refine L_nil ?_
  refine K_seq ?_
  refine B_ret ?_
  refine E_gh (.inr rfl) (vres_tmp rfl rfl) (Gh.cap1 (BaseOk.refl _) (j := 0) rfl rfl) ?_
  exact ⟨rfl, rfl⟩

theorem All1_spec {x : SW} (w : BitVec 64) (l : Nat) (H : VHeap) (R : VHeap → Prop) (hI : Iter (psys x) l ((pl w 0).map cI) H R) : F (psys x) 91 ([.yield l] ++ [.fptr [iW w] 0]) H fun v G => R G := by
  refine F_body Tryd.func91 rfl uS1n16 rfl ?_
  refine B_seq ?_
  refine B_region ?_
  refine L_op (env' := uS1n16) rfl rfl (by first | exact v_loadFA rfl rfl rfl rfl (by first | rfl | assumption | exact fget (α := BitVec 64) 0 (by omega) | exact fget (α := Int) 0 (by omega) | exact fget0 (α := BitVec 64) 0 (by omega) | exact fget0 (α := Int) 0 (by omega) | exact fget (α := Bool) false (by omega) | exact fget0 (α := Bool) false (by omega) | (simp [*]; done)) | exact v_loadA rfl rfl rfl rfl (by first | exact get_app rfl rfl | exact get_out (by assumption) | assumption | (simp [*]; done)) (by first | rfl | assumption | exact fget (α := BitVec 64) 0 (by omega) | exact fget (α := Int) 0 (by omega) | exact fget0 (α := BitVec 64) 0 (by omega) | exact fget0 (α := Int) 0 (by omega) | exact fget (α := Bool) false (by omega) | exact fget0 (α := Bool) false (by omega) | (simp [*]; done))) rfl ?_
  refine L_call rfl rfl rfl (by exact Next_spec _ _ _) ?_
  rintro _ _ ⟨rfl, rfl⟩
  refine L_env (env' := uS1n16) rfl ?_
  refine L_op (env' := uS1n16) rfl rfl (v_move (.inr rfl) rfl) rfl ?_
  refine L_nil ?_
  refine K_seq ?_
  refine B_block ?_
  refine B_clear [false,false,true,false,true,true,true,true,true,true,true,true,true,true,true,true] (env' := uS1n16) rfl ?_
  refine B_loopE (fun (⟨i, xs⟩ : Int × List Nat) => xs.length) (fun (⟨i, xs⟩ : Int × List Nat) => [(3, iI i)]) (fun (⟨i, xs⟩ : Int × List Nat) G => (Iter (psys x) l (xs.map cI) G R ∧ ((i = -1 ∧ xs = []) ∨ ∃ c : Nat, i = c ∧ c < 64 ∧ xs = c :: pl w (c + 1))) ∧ True) ⟨_, pl w 0⟩ rfl ?_ ?_
  · refine ⟨?_, trivial⟩
    exact ⟨by simpa using hI, pl_next' w 0⟩
  rintro ⟨i, xs⟩ G ⟨⟨hI, hx⟩, _⟩
  refine B_env (env' := uS1n16) rfl ?_
  refine B_seq ?_
  refine B_seq ?_
  refine B_region ?_
  refine L_op (env' := uS1n16) rfl rfl (v_move (.inl rfl) rfl) rfl ?_
  refine L_op (env' := uS1n16) rfl rfl (rfl) rfl ?_
  refine L_nil ?_
  refine K_seq ?_
  refine B_cond _ rfl (fun hc1 => ?_) (fun hc1 => ?_)
  · try simp only [decide_eq_true_eq, decide_eq_false_iff_not, Bool.not_eq_true', Bool.not_eq_false', bne_iff_ne, beq_iff_eq, Bool.and_eq_true, Bool.or_eq_true, Bool.not_eq_true, ge_iff_le, gt_iff_lt, Int.not_le, Int.not_lt, beq_eq_false_iff_ne, bne_eq_false_iff_eq, ne_eq, Decidable.not_not, wd_zero, wd_one, wd_inj] at hc1
    obtain ⟨c, rfl, hc, rfl⟩ : ∃ c : Nat, i = c ∧ c < 64 ∧ xs = c :: pl w (c + 1) := by
        rcases hx with ⟨e, _⟩ | h
        · omega
        · exact h
    refine B_skip ?_
    refine K_seq ?_
    refine B_seq ?_
    refine B_block ?_
    refine B_seq ?_
    refine B_region ?_
    refine L_op (env' := uS1n16) rfl rfl (v_move (.inl rfl) rfl) rfl ?_
    refine L_op (env' := uS1n16) rfl rfl (v_move (.inl rfl) rfl) rfl ?_
    refine L_callV rfl rfl rfl (by exact hI) ?_
    rintro _ G1 ⟨t, rfl, hrest⟩
    refine L_env (env' := uS1n16) rfl ?_
    refine L_op (env' := uS1n16) rfl rfl (rfl) rfl ?_
    refine L_nil ?_
    refine K_seq ?_
    refine B_cond _ rfl (fun hc2 => ?_) (fun hc2 => ?_)
    · try simp only [decide_eq_true_eq, decide_eq_false_iff_not, Bool.not_eq_true', Bool.not_eq_false', bne_iff_ne, beq_iff_eq, Bool.and_eq_true, Bool.or_eq_true, Bool.not_eq_true, ge_iff_le, gt_iff_lt, Int.not_le, Int.not_lt, beq_eq_false_iff_ne, bne_eq_false_iff_eq, ne_eq, Decidable.not_not, wd_zero, wd_one, wd_inj] at hc2
      have ht : t = false := by simpa using hc2
      subst ht
      have hR : R G1 := by simpa using hrest
      refine B_ret ?_
      refine K_blkR ?_
      refine K_seqR ?_
      refine K_loopR ?_
      refine K_blkR ?_
      refine E_keep (.inr rfl) (vres_none rfl) ?_
      exact hR
    · try simp only [decide_eq_true_eq, decide_eq_false_iff_not, Bool.not_eq_true', Bool.not_eq_false', bne_iff_ne, beq_iff_eq, Bool.and_eq_true, Bool.or_eq_true, Bool.not_eq_true, ge_iff_le, gt_iff_lt, Int.not_le, Int.not_lt, beq_eq_false_iff_ne, bne_eq_false_iff_eq, ne_eq, Decidable.not_not, wd_zero, wd_one, wd_inj] at hc2
      have ht : t = true := by simpa using hc2
      subst ht
      have hrest : Iter (psys x) l ((pl w (c + 1)).map cI) G1 R := by simpa using hrest
      refine B_skip ?_
      refine K_blk ?_
      refine K_seq ?_
      refine B_region ?_
      refine L_op (env' := uS1n16) rfl rfl (by first | exact v_loadFA rfl rfl rfl rfl (by first | rfl | assumption | exact fget (α := BitVec 64) 0 (by omega) | exact fget (α := Int) 0 (by omega) | exact fget0 (α := BitVec 64) 0 (by omega) | exact fget0 (α := Int) 0 (by omega) | exact fget (α := Bool) false (by omega) | exact fget0 (α := Bool) false (by omega) | (simp [*]; done)) | exact v_loadA rfl rfl rfl rfl (by first | exact get_app rfl rfl | exact get_out (by assumption) | assumption | (simp [*]; done)) (by first | rfl | assumption | exact fget (α := BitVec 64) 0 (by omega) | exact fget (α := Int) 0 (by omega) | exact fget0 (α := BitVec 64) 0 (by omega) | exact fget0 (α := Int) 0 (by omega) | exact fget (α := Bool) false (by omega) | exact fget0 (α := Bool) false (by omega) | (simp [*]; done))) rfl ?_
      refine L_op (env' := uS1n16) rfl rfl (v_move (.inl rfl) rfl) rfl ?_
      refine L_op (env' := uS1n16) rfl rfl (v_addI rfl rfl rfl (by first | assumption | omega | (simp [*]; done) | (simp at *; omega))) rfl ?_
      refine L_call rfl rfl rfl (by exact Next_spec _ _ _) ?_
      rintro _ _ ⟨rfl, rfl⟩
      refine L_env (env' := uS1n16) rfl ?_
      refine L_op (env' := uS1n16) rfl rfl (v_move (.inr rfl) rfl) rfl ?_
      refine L_nil ?_
      refine K_loop [false,false,true,false,true,true,true,true,true,true,true,true,true,true,true,true] (env' := uS1n16) rfl ⟨⟨_, pl w (c + 1)⟩, ?_, rfl, ?_⟩
      · simp
      · exact ⟨⟨hrest, pl_next' w (c + 1)⟩, trivial⟩
  · try simp only [decide_eq_true_eq, decide_eq_false_iff_not, Bool.not_eq_true', Bool.not_eq_false', bne_iff_ne, beq_iff_eq, Bool.and_eq_true, Bool.or_eq_true, Bool.not_eq_true, ge_iff_le, gt_iff_lt, Int.not_le, Int.not_lt, beq_eq_false_iff_ne, bne_eq_false_iff_eq, ne_eq, Decidable.not_not, wd_zero, wd_one, wd_inj] at hc1
    obtain ⟨rfl, rfl⟩ : i = -1 ∧ xs = [] := by
        rcases hx with h | ⟨c, rfl, _⟩
        · exact h
        · omega
    have hR : R G := hI
    refine B_exit ?_
    refine K_seqX ?_
    refine K_loopX ?_
    refine K_blkX ?_
    refine E_keep (.inl rfl) (vres_none rfl) ?_
    exact hR
end Go.Proofs.YteocbhgdmpdklaaDoor.VT
