/- orders: walks -/
import Derived.Test.YteocbhgdmpdklaaDoorS1
import Derived.Test.YteocbhgdmpdklaaDoorP3
set_option autoImplicit false
set_option linter.unusedVariables false
set_option linter.unusedSimpArgs false
set_option maxHeartbeats 4000000
set_option maxRecDepth 100000
namespace Go.Proofs.YteocbhgdmpdklaaDoor.VT
open Go Go.V

abbrev uS2n5 {a0 a1 a2 a3 a4 : VVal} : VEnv := a0 :: a1 :: a2 :: a3 :: a4 :: []
abbrev uS2n6 {a0 a1 a2 a3 a4 a5 : VVal} : VEnv := a0 :: a1 :: a2 :: a3 :: a4 :: a5 :: []
abbrev uS2n8 {a0 a1 a2 a3 a4 a5 a6 a7 : VVal} : VEnv := a0 :: a1 :: a2 :: a3 :: a4 :: a5 :: a6 :: a7 :: []
abbrev uS2n16 {a0 a1 a2 a3 a4 a5 a6 a7 a8 a9 a10 a11 a12 a13 a14 a15 : VVal} : VEnv := a0 :: a1 :: a2 :: a3 :: a4 :: a5 :: a6 :: a7 :: a8 :: a9 :: a10 :: a11 :: a12 :: a13 :: a14 :: a15 :: []
abbrev uS2n22 {a0 a1 a2 a3 a4 a5 a6 a7 a8 a9 a10 a11 a12 a13 a14 a15 a16 a17 a18 a19 a20 a21 : VVal} : VEnv := a0 :: a1 :: a2 :: a3 :: a4 :: a5 :: a6 :: a7 :: a8 :: a9 :: a10 :: a11 :: a12 :: a13 :: a14 :: a15 :: a16 :: a17 :: a18 :: a19 :: a20 :: a21 :: []

/-- an order, as the machine hands it about -/
abbrev ordV (ps ss : List (BitVec 64)) : VVal := .fptr [fzW ps, fzW ss] 0
theorem rep_w : ∀ n : Nat, repeatCells [VVal.int .u64 0] n = (List.replicate n 0#64).map iW
  | 0 => rfl
  | n + 1 => by rw [repeatCells, rep_w n, List.replicate_succ, List.map_cons]; rfl
theorem set_map {α : Type} (f : α → VVal) (l : List α) (i : Nat) (a : α) (h : i < l.length) : splice (l.map f) (i * 1) [f a] = (l.set i a).map f := by
  unfold splice
  apply List.ext_getElem?
  intro j
  simp only [Nat.mul_one, List.getElem?_map, List.getElem?_set, List.append_assoc, List.length_map]
  by_cases h1 : j < i
  · rw [List.getElem?_append_left (by simp; omega), List.getElem?_take, if_pos h1, if_neg (by omega)]; simp
  · by_cases h2 : j = i
    · subst h2
      rw [List.getElem?_append_right (by simp; omega)]
      simp [Nat.min_eq_left (Nat.le_of_lt h), h]
    · rw [List.getElem?_append_right (by simp; omega), if_neg (by omega)]
      have h3 : j - min i l.length = (j - i - 1) + 1 := by omega
      simp only [List.length_take, List.length_map, h3, List.singleton_append, List.getElem?_cons_succ, List.getElem?_drop, List.length_singleton, List.getElem?_map]
      congr 2
      omega
theorem set_map0 {α : Type} (f : α → VVal) (l : List α) (i : Nat) (a : α) (h : i < l.length) : splice (l.map f) (0 + i * 1) [f a] = (l.set i a).map f := by rw [Nat.zero_add]; exact set_map f l i a h
theorem fz_under (n : Nat) (l : List (BitVec 64)) : (fzW l).under n = true := VVal.underL_map fun _ => rfl
theorem fz_underI (n : Nat) (l : List Int) : (fzI l).under n = true := VVal.underL_map fun _ => rfl
theorem ord_under (n : Nat) (ps ss : List (BitVec 64)) : (ordV ps ss).under n = true := by simp [VVal.under, VVal.underL, fz_under]
theorem all_at {α : Type} (f : α → VVal) (l : List α) : cellsAt (l.map f) 0 (l.length * 1) = some (l.map f) := by
  unfold cellsAt; rw [if_pos (by simp), Nat.mul_one, List.drop_zero, List.take_of_length_le (by simp)]

theorem of_spec {x : SW} (H : VHeap) (w : BitVec 64) : F (psys x) 59 [iW w] H fun v G => v = .agg [iW w] ∧ G = H := by
  refine F_body Tryd.func59 rfl uS2n6 rfl ?_
  refine B_seq ?_
  refine B_region ?_
  refine L_op (env' := uS2n6) rfl rfl (v_alloc rfl rfl) rfl ?_
  refine L_nil ?_
  refine K_seq ?_
  refine B_seq ?_
  refine B_region ?_
  refine L_op (env' := uS2n6) rfl rfl (rfl) rfl ?_
  refine L_op (env' := uS2n6) rfl rfl (v_move (.inl rfl) rfl) rfl ?_
  refine L_call rfl rfl rfl (by exact Of_spec _ 0#64 _) ?_
  rintro _ _ ⟨rfl, rfl⟩
  refine L_env (env' := uS2n6) rfl ?_
  refine L_op (env' := uS2n6) rfl rfl (v_storeT rfl rfl rfl rfl rfl rfl rfl (by first | exact get_app rfl rfl | exact get_out (by assumption) | assumption | (simp [*]; done)) (by first | exact Nat.le_of_ble_eq_true rfl | (simp only [List.length_map, List.length_cons, List.length_nil]; omega) | omega | (simp; done) | (simp; omega)) (by first | exact set_app rfl | exact set_out (lt_of_get (by assumption)) | rfl)) rfl ?_
  refine L_nil ?_
  refine K_seq ?_
  refine B_ret ?_
  refine E_app (.inr rfl) (vres_cellA rfl rfl rfl rfl (by first | exact get_app rfl rfl | exact get_out (by assumption) | assumption | (simp [*]; done)) (by first | rfl | assumption | exact fget (α := BitVec 64) 0 (by omega) | exact fget (α := Int) 0 (by omega) | exact fget0 (α := BitVec 64) 0 (by omega) | exact fget0 (α := Int) 0 (by omega) | exact fget (α := Bool) false (by omega) | exact fget0 (α := Bool) false (by omega) | (simp [*]; done))) (by first | exact BaseOk.refl _ | exact BaseOk.set (BaseOk.refl _) _ rfl) (by first | rfl | simp [VVal.under, VVal.underL, *]) ?_
  exact ⟨rfl, rfl⟩

theorem one_spec {x : SW} (H : VHeap) (a : Int) (ha : 0 ≤ a) : F (psys x) 62 [iI a] H fun v G => v = iW (1#64 <<< a.toNat) ∧ G = H := by
  refine F_body Tryd.func62 rfl uS2n5 rfl ?_
  refine B_seq ?_
  refine B_region ?_
  refine L_op (env' := uS2n5) rfl rfl (v_const (VVal.int .u64 0) (.inr rfl) rfl) rfl ?_
  refine L_nil ?_
  refine K_seq ?_
  refine B_seq ?_
  refine B_region ?_
  refine L_op (env' := uS2n5) rfl rfl (v_move (.inl rfl) rfl) rfl ?_
  refine L_op (env' := uS2n5) rfl rfl (v_shl1 rfl rfl rfl (by first | assumption | omega | (simp [*]; done) | (simp at *; omega))) rfl ?_
  refine L_op (env' := uS2n5) rfl rfl (v_move (.inr rfl) rfl) rfl ?_
  refine L_nil ?_
  refine K_seq ?_
  refine B_ret ?_
  refine E_app (.inr rfl) (vres_tmp rfl rfl) (by first | exact BaseOk.refl _ | exact BaseOk.set (BaseOk.refl _) _ rfl) (by first | rfl | simp [VVal.under, VVal.underL, *]) ?_
  exact ⟨rfl, rfl⟩

theorem is_spec {x : SW} (H : VHeap) (ps ss : List (BitVec 64)) (a : Int) : F (psys x) 61 [ordV ps ss, iI a] H fun v G => v = .bool (decide (0 ≤ a ∧ a < ps.length)) ∧ G = H := by
  refine F_body Tryd.func61 rfl uS2n16 rfl ?_
  refine B_seq ?_
  refine B_region ?_
  refine L_op (env' := uS2n16) rfl rfl (v_const (VVal.bool false) (.inr rfl) rfl) rfl ?_
  refine L_nil ?_
  refine K_seq ?_
  refine B_seq ?_
  refine B_region ?_
  refine L_op (env' := uS2n16) rfl rfl (v_move (.inl rfl) rfl) rfl ?_
  refine L_op (env' := uS2n16) rfl rfl (rfl) rfl ?_
  refine L_op (env' := uS2n16) rfl rfl (v_move (.inl rfl) rfl) rfl ?_
  refine L_split 7 (env1 := uS2n16) (env2 := uS2n16) rfl rfl rfl (fun hg1 => ?_) (fun hg1 => ?_)
  · try simp only [decide_eq_true_eq, decide_eq_false_iff_not, Bool.not_eq_true', Bool.not_eq_false', bne_iff_ne, beq_iff_eq, Bool.and_eq_true, Bool.or_eq_true, Bool.not_eq_true, ge_iff_le, gt_iff_lt, Int.not_le, Int.not_lt, beq_eq_false_iff_ne, bne_eq_false_iff_eq, ne_eq, Decidable.not_not, wd_zero, wd_one, wd_inj] at hg1
    refine L_op (env' := uS2n16) rfl rfl (v_move (.inl rfl) rfl) rfl ?_
    refine L_op (env' := uS2n16) rfl rfl (v_move (.inl rfl) rfl) rfl ?_
    refine L_op (env' := uS2n16) rfl rfl (rfl) rfl ?_
    refine L_op (env' := uS2n16) rfl rfl (rfl) rfl ?_
    refine L_op (env' := uS2n16) rfl rfl (by first | exact v_loadF rfl rfl rfl rfl (by first | rfl | assumption | exact fget (α := BitVec 64) 0 (by omega) | exact fget (α := Int) 0 (by omega) | exact fget0 (α := BitVec 64) 0 (by omega) | exact fget0 (α := Int) 0 (by omega) | exact fget (α := Bool) false (by omega) | exact fget0 (α := Bool) false (by omega) | (simp [*]; done)) | exact v_load rfl rfl rfl rfl (by first | exact get_app rfl rfl | exact get_out (by assumption) | assumption | (simp [*]; done)) (by first | rfl | assumption | exact fget (α := BitVec 64) 0 (by omega) | exact fget (α := Int) 0 (by omega) | exact fget0 (α := BitVec 64) 0 (by omega) | exact fget0 (α := Int) 0 (by omega) | exact fget (α := Bool) false (by omega) | exact fget0 (α := Bool) false (by omega) | (simp [*]; done))) rfl ?_
    refine L_op (env' := uS2n16) rfl rfl (rfl) rfl ?_
    refine L_op (env' := uS2n16) rfl rfl (rfl) rfl ?_
    refine L_op (env' := uS2n16) rfl rfl (v_pickT rfl rfl rfl) rfl ?_
    refine L_op (env' := uS2n16) rfl rfl (v_move (.inr rfl) rfl) rfl ?_
    refine L_nil ?_
    refine K_seq ?_
    refine B_ret ?_
    refine E_app (.inr rfl) (vres_tmp rfl rfl) (by first | exact BaseOk.refl _ | exact BaseOk.set (BaseOk.refl _) _ rfl) (by first | rfl | simp [VVal.under, VVal.underL, *]) ?_
    exact ⟨by simp [*]; try omega, rfl⟩
  · try simp only [decide_eq_true_eq, decide_eq_false_iff_not, Bool.not_eq_true', Bool.not_eq_false', bne_iff_ne, beq_iff_eq, Bool.and_eq_true, Bool.or_eq_true, Bool.not_eq_true, ge_iff_le, gt_iff_lt, Int.not_le, Int.not_lt, beq_eq_false_iff_ne, bne_eq_false_iff_eq, ne_eq, Decidable.not_not, wd_zero, wd_one, wd_inj] at hg1
    refine L_off (env' := uS2n16) rfl rfl ?_
    refine L_off (env' := uS2n16) rfl rfl ?_
    refine L_off (env' := uS2n16) rfl rfl ?_
    refine L_off (env' := uS2n16) rfl rfl ?_
    refine L_off (env' := uS2n16) rfl rfl ?_
    refine L_off (env' := uS2n16) rfl rfl ?_
    refine L_off (env' := uS2n16) rfl rfl ?_
    refine L_op (env' := uS2n16) rfl rfl (v_pickFC (VVal.bool false) rfl rfl rfl) rfl ?_
    refine L_op (env' := uS2n16) rfl rfl (v_move (.inr rfl) rfl) rfl ?_
    refine L_nil ?_
    refine K_seq ?_
    refine B_ret ?_
    refine E_app (.inr rfl) (vres_tmp rfl rfl) (by first | exact BaseOk.refl _ | exact BaseOk.set (BaseOk.refl _) _ rfl) (by first | rfl | simp [VVal.under, VVal.underL, *]) ?_
    exact ⟨by simp [*]; try omega, rfl⟩

theorem Len_spec {x : SW} (H : VHeap) (ps ss : List (BitVec 64)) : F (psys x) 36 [ordV ps ss] H fun v G => v = iI ps.length ∧ G = H := by
  refine F_body Tryd.func36 rfl uS2n8 rfl ?_
  refine B_seq ?_
  refine B_region ?_
  refine L_op (env' := uS2n8) rfl rfl (v_const (VVal.int .i64 0) (.inr rfl) rfl) rfl ?_
  refine L_nil ?_
  refine K_seq ?_
  refine B_seq ?_
  refine B_region ?_
  refine L_op (env' := uS2n8) rfl rfl (v_move (.inl rfl) rfl) rfl ?_
  refine L_op (env' := uS2n8) rfl rfl (rfl) rfl ?_
  refine L_op (env' := uS2n8) rfl rfl (rfl) rfl ?_
  refine L_op (env' := uS2n8) rfl rfl (by first | exact v_loadF rfl rfl rfl rfl (by first | rfl | assumption | exact fget (α := BitVec 64) 0 (by omega) | exact fget (α := Int) 0 (by omega) | exact fget0 (α := BitVec 64) 0 (by omega) | exact fget0 (α := Int) 0 (by omega) | exact fget (α := Bool) false (by omega) | exact fget0 (α := Bool) false (by omega) | (simp [*]; done)) | exact v_load rfl rfl rfl rfl (by first | exact get_app rfl rfl | exact get_out (by assumption) | assumption | (simp [*]; done)) (by first | rfl | assumption | exact fget (α := BitVec 64) 0 (by omega) | exact fget (α := Int) 0 (by omega) | exact fget0 (α := BitVec 64) 0 (by omega) | exact fget0 (α := Int) 0 (by omega) | exact fget (α := Bool) false (by omega) | exact fget0 (α := Bool) false (by omega) | (simp [*]; done))) rfl ?_
  refine L_op (env' := uS2n8) rfl rfl (rfl) rfl ?_
  refine L_op (env' := uS2n8) rfl rfl (v_move (.inr rfl) rfl) rfl ?_
  refine L_nil ?_
  refine K_seq ?_
  refine B_ret ?_
  refine E_app (.inr rfl) (vres_tmp rfl rfl) (by first | exact BaseOk.refl _ | exact BaseOk.set (BaseOk.refl _) _ rfl) (by first | rfl | simp [VVal.under, VVal.underL, *]) ?_
  exact ⟨rfl, rfl⟩

theorem Preds_spec {x : SW} (H : VHeap) (ps ss : List (BitVec 64)) (a : Int) : F (psys x) 18 [ordV ps ss, iI a] H fun v G => v = iW (if 0 ≤ a ∧ a < ps.length then ps.getD a.toNat 0 else 0) ∧ G = H := by
  refine F_body Tryd.func18 rfl uS2n16 rfl ?_
  refine B_seq ?_
  refine B_region ?_
  refine L_op (env' := uS2n16) rfl rfl (v_const (VVal.int .u64 0) (.inr rfl) rfl) rfl ?_
  refine L_nil ?_
  refine K_seq ?_
  refine B_seq ?_
  refine B_seq ?_
  refine B_region ?_
  refine L_op (env' := uS2n16) rfl rfl (v_move (.inl rfl) rfl) rfl ?_
  refine L_op (env' := uS2n16) rfl rfl (v_move (.inl rfl) rfl) rfl ?_
  refine L_call rfl rfl rfl (by exact is_spec _ _ _ _) ?_
  rintro _ _ ⟨rfl, rfl⟩
  refine L_env (env' := uS2n16) rfl ?_
  refine L_op (env' := uS2n16) rfl rfl (rfl) rfl ?_
  refine L_nil ?_
  refine K_seq ?_
  refine B_cond _ rfl (fun hc1 => ?_) (fun hc1 => ?_)
  · try simp only [decide_eq_true_eq, decide_eq_false_iff_not, Bool.not_eq_true', Bool.not_eq_false', bne_iff_ne, beq_iff_eq, Bool.and_eq_true, Bool.or_eq_true, Bool.not_eq_true, ge_iff_le, gt_iff_lt, Int.not_le, Int.not_lt, beq_eq_false_iff_ne, bne_eq_false_iff_eq, ne_eq, Decidable.not_not, wd_zero, wd_one, wd_inj] at hc1
    refine B_seq ?_
    refine B_region ?_
    refine L_op (env' := uS2n16) rfl rfl (v_const (VVal.int .u64 0) (.inr rfl) rfl) rfl ?_
    refine L_nil ?_
    refine K_seq ?_
    refine B_ret ?_
    refine K_seqR ?_
    refine E_app (.inr rfl) (vres_tmp rfl rfl) (by first | exact BaseOk.refl _ | exact BaseOk.set (BaseOk.refl _) _ rfl) (by first | rfl | simp [VVal.under, VVal.underL, *]) ?_
    exact ⟨by first | (rw [if_neg (by omega)]; rfl) | (rw [if_pos (by omega)]), rfl⟩
  · try simp only [decide_eq_true_eq, decide_eq_false_iff_not, Bool.not_eq_true', Bool.not_eq_false', bne_iff_ne, beq_iff_eq, Bool.and_eq_true, Bool.or_eq_true, Bool.not_eq_true, ge_iff_le, gt_iff_lt, Int.not_le, Int.not_lt, beq_eq_false_iff_ne, bne_eq_false_iff_eq, ne_eq, Decidable.not_not, wd_zero, wd_one, wd_inj] at hc1
    refine B_skip ?_
    refine K_seq ?_
    refine B_seq ?_
    refine B_region ?_
    refine L_op (env' := uS2n16) rfl rfl (v_move (.inl rfl) rfl) rfl ?_
    refine L_op (env' := uS2n16) rfl rfl (rfl) rfl ?_
    refine L_op (env' := uS2n16) rfl rfl (rfl) rfl ?_
    refine L_op (env' := uS2n16) rfl rfl (by first | exact v_loadF rfl rfl rfl rfl (by first | rfl | assumption | exact fget (α := BitVec 64) 0 (by omega) | exact fget (α := Int) 0 (by omega) | exact fget0 (α := BitVec 64) 0 (by omega) | exact fget0 (α := Int) 0 (by omega) | exact fget (α := Bool) false (by omega) | exact fget0 (α := Bool) false (by omega) | (simp [*]; done)) | exact v_load rfl rfl rfl rfl (by first | exact get_app rfl rfl | exact get_out (by assumption) | assumption | (simp [*]; done)) (by first | rfl | assumption | exact fget (α := BitVec 64) 0 (by omega) | exact fget (α := Int) 0 (by omega) | exact fget0 (α := BitVec 64) 0 (by omega) | exact fget0 (α := Int) 0 (by omega) | exact fget (α := Bool) false (by omega) | exact fget0 (α := Bool) false (by omega) | (simp [*]; done))) rfl ?_
    refine L_op (env' := uS2n16) rfl rfl (v_move (.inl rfl) rfl) rfl ?_
    refine L_op (env' := uS2n16) rfl rfl (by first | exact v_idxF rfl rfl rfl rfl rfl rfl rfl (by first | assumption | omega | (simp [*]; done) | (simp at *; omega)) | exact v_idx rfl rfl rfl rfl rfl rfl rfl (by first | assumption | omega | (simp [*]; done) | (simp at *; omega))) rfl ?_
    refine L_op (env' := uS2n16) rfl rfl (by first | exact v_loadF rfl rfl rfl rfl (by first | rfl | assumption | exact fget (α := BitVec 64) 0 (by omega) | exact fget (α := Int) 0 (by omega) | exact fget0 (α := BitVec 64) 0 (by omega) | exact fget0 (α := Int) 0 (by omega) | exact fget (α := Bool) false (by omega) | exact fget0 (α := Bool) false (by omega) | (simp [*]; done)) | exact v_load rfl rfl rfl rfl (by first | exact get_app rfl rfl | exact get_out (by assumption) | assumption | (simp [*]; done)) (by first | rfl | assumption | exact fget (α := BitVec 64) 0 (by omega) | exact fget (α := Int) 0 (by omega) | exact fget0 (α := BitVec 64) 0 (by omega) | exact fget0 (α := Int) 0 (by omega) | exact fget (α := Bool) false (by omega) | exact fget0 (α := Bool) false (by omega) | (simp [*]; done))) rfl ?_
    refine L_op (env' := uS2n16) rfl rfl (v_move (.inr rfl) rfl) rfl ?_
    refine L_nil ?_
    refine K_seq ?_
    refine B_ret ?_
    refine E_app (.inr rfl) (vres_tmp rfl rfl) (by first | exact BaseOk.refl _ | exact BaseOk.set (BaseOk.refl _) _ rfl) (by first | rfl | simp [VVal.under, VVal.underL, *]) ?_
    exact ⟨by first | (rw [if_neg (by omega)]; rfl) | (rw [if_pos (by omega)]), rfl⟩

theorem Succs_spec {x : SW} (H : VHeap) (ps ss : List (BitVec 64)) (hl : ss.length = ps.length) (a : Int) : F (psys x) 24 [ordV ps ss, iI a] H fun v G => v = iW (if 0 ≤ a ∧ a < ps.length then ss.getD a.toNat 0 else 0) ∧ G = H := by
  refine F_body Tryd.func24 rfl uS2n16 rfl ?_
  refine B_seq ?_
  refine B_region ?_
  refine L_op (env' := uS2n16) rfl rfl (v_const (VVal.int .u64 0) (.inr rfl) rfl) rfl ?_
  refine L_nil ?_
  refine K_seq ?_
  refine B_seq ?_
  refine B_seq ?_
  refine B_region ?_
  refine L_op (env' := uS2n16) rfl rfl (v_move (.inl rfl) rfl) rfl ?_
  refine L_op (env' := uS2n16) rfl rfl (v_move (.inl rfl) rfl) rfl ?_
  refine L_call rfl rfl rfl (by exact is_spec _ _ _ _) ?_
  rintro _ _ ⟨rfl, rfl⟩
  refine L_env (env' := uS2n16) rfl ?_
  refine L_op (env' := uS2n16) rfl rfl (rfl) rfl ?_
  refine L_nil ?_
  refine K_seq ?_
  refine B_cond _ rfl (fun hc1 => ?_) (fun hc1 => ?_)
  · try simp only [decide_eq_true_eq, decide_eq_false_iff_not, Bool.not_eq_true', Bool.not_eq_false', bne_iff_ne, beq_iff_eq, Bool.and_eq_true, Bool.or_eq_true, Bool.not_eq_true, ge_iff_le, gt_iff_lt, Int.not_le, Int.not_lt, beq_eq_false_iff_ne, bne_eq_false_iff_eq, ne_eq, Decidable.not_not, wd_zero, wd_one, wd_inj] at hc1
    refine B_seq ?_
    refine B_region ?_
    refine L_op (env' := uS2n16) rfl rfl (v_const (VVal.int .u64 0) (.inr rfl) rfl) rfl ?_
    refine L_nil ?_
    refine K_seq ?_
    refine B_ret ?_
    refine K_seqR ?_
    refine E_app (.inr rfl) (vres_tmp rfl rfl) (by first | exact BaseOk.refl _ | exact BaseOk.set (BaseOk.refl _) _ rfl) (by first | rfl | simp [VVal.under, VVal.underL, *]) ?_
    exact ⟨by first | (rw [if_neg (by omega)]; rfl) | (rw [if_pos (by omega)]), rfl⟩
  · try simp only [decide_eq_true_eq, decide_eq_false_iff_not, Bool.not_eq_true', Bool.not_eq_false', bne_iff_ne, beq_iff_eq, Bool.and_eq_true, Bool.or_eq_true, Bool.not_eq_true, ge_iff_le, gt_iff_lt, Int.not_le, Int.not_lt, beq_eq_false_iff_ne, bne_eq_false_iff_eq, ne_eq, Decidable.not_not, wd_zero, wd_one, wd_inj] at hc1
    refine B_skip ?_
    refine K_seq ?_
    refine B_seq ?_
    refine B_region ?_
    refine L_op (env' := uS2n16) rfl rfl (v_move (.inl rfl) rfl) rfl ?_
    refine L_op (env' := uS2n16) rfl rfl (rfl) rfl ?_
    refine L_op (env' := uS2n16) rfl rfl (rfl) rfl ?_
    refine L_op (env' := uS2n16) rfl rfl (by first | exact v_loadF rfl rfl rfl rfl (by first | rfl | assumption | exact fget (α := BitVec 64) 0 (by omega) | exact fget (α := Int) 0 (by omega) | exact fget0 (α := BitVec 64) 0 (by omega) | exact fget0 (α := Int) 0 (by omega) | exact fget (α := Bool) false (by omega) | exact fget0 (α := Bool) false (by omega) | (simp [*]; done)) | exact v_load rfl rfl rfl rfl (by first | exact get_app rfl rfl | exact get_out (by assumption) | assumption | (simp [*]; done)) (by first | rfl | assumption | exact fget (α := BitVec 64) 0 (by omega) | exact fget (α := Int) 0 (by omega) | exact fget0 (α := BitVec 64) 0 (by omega) | exact fget0 (α := Int) 0 (by omega) | exact fget (α := Bool) false (by omega) | exact fget0 (α := Bool) false (by omega) | (simp [*]; done))) rfl ?_
    refine L_op (env' := uS2n16) rfl rfl (v_move (.inl rfl) rfl) rfl ?_
    refine L_op (env' := uS2n16) rfl rfl (by first | exact v_idxF rfl rfl rfl rfl rfl rfl rfl (by first | assumption | omega | (simp [*]; done) | (simp at *; omega)) | exact v_idx rfl rfl rfl rfl rfl rfl rfl (by first | assumption | omega | (simp [*]; done) | (simp at *; omega))) rfl ?_
    refine L_op (env' := uS2n16) rfl rfl (by first | exact v_loadF rfl rfl rfl rfl (by first | rfl | assumption | exact fget (α := BitVec 64) 0 (by omega) | exact fget (α := Int) 0 (by omega) | exact fget0 (α := BitVec 64) 0 (by omega) | exact fget0 (α := Int) 0 (by omega) | exact fget (α := Bool) false (by omega) | exact fget0 (α := Bool) false (by omega) | (simp [*]; done)) | exact v_load rfl rfl rfl rfl (by first | exact get_app rfl rfl | exact get_out (by assumption) | assumption | (simp [*]; done)) (by first | rfl | assumption | exact fget (α := BitVec 64) 0 (by omega) | exact fget (α := Int) 0 (by omega) | exact fget0 (α := BitVec 64) 0 (by omega) | exact fget0 (α := Int) 0 (by omega) | exact fget (α := Bool) false (by omega) | exact fget0 (α := Bool) false (by omega) | (simp [*]; done))) rfl ?_
    refine L_op (env' := uS2n16) rfl rfl (v_move (.inr rfl) rfl) rfl ?_
    refine L_nil ?_
    refine K_seq ?_
    refine B_ret ?_
    refine E_app (.inr rfl) (vres_tmp rfl rfl) (by first | exact BaseOk.refl _ | exact BaseOk.set (BaseOk.refl _) _ rfl) (by first | rfl | simp [VVal.under, VVal.underL, *]) ?_
    exact ⟨by first | (rw [if_neg (by omega)]; rfl) | (rw [if_pos (by omega)]), rfl⟩

theorem Before_spec {x : SW} (H : VHeap) (ps ss : List (BitVec 64)) (hl : ss.length = ps.length) (a b : Int) : F (psys x) 19 [ordV ps ss, iI a, iI b] H fun v G => v = .bool (decide (0 ≤ a ∧ a < ps.length) && (decide (0 ≤ b ∧ b < 64) && (ss.getD a.toNat 0).getLsbD b.toNat)) ∧ G = H := by
  refine F_body Tryd.func19 rfl uS2n22 rfl ?_
  refine B_seq ?_
  refine B_region ?_
  refine L_op (env' := uS2n22) rfl rfl (v_const (VVal.bool false) (.inr rfl) rfl) rfl ?_
  refine L_nil ?_
  refine K_seq ?_
  refine B_seq ?_
  refine B_region ?_
  refine L_op (env' := uS2n22) rfl rfl (v_move (.inl rfl) rfl) rfl ?_
  refine L_op (env' := uS2n22) rfl rfl (v_move (.inl rfl) rfl) rfl ?_
  refine L_call rfl rfl rfl (by exact is_spec _ _ _ _) ?_
  rintro _ _ ⟨rfl, rfl⟩
  refine L_env (env' := uS2n22) rfl ?_
  refine L_op (env' := uS2n22) rfl rfl (v_move (.inl rfl) rfl) rfl ?_
  refine L_split 10 (env1 := uS2n22) (env2 := uS2n22) rfl rfl rfl (fun hg1 => ?_) (fun hg1 => ?_)
  · try simp only [decide_eq_true_eq, decide_eq_false_iff_not, Bool.not_eq_true', Bool.not_eq_false', bne_iff_ne, beq_iff_eq, Bool.and_eq_true, Bool.or_eq_true, Bool.not_eq_true, ge_iff_le, gt_iff_lt, Int.not_le, Int.not_lt, beq_eq_false_iff_ne, bne_eq_false_iff_eq, ne_eq, Decidable.not_not, wd_zero, wd_one, wd_inj] at hg1
    refine L_op (env' := uS2n22) rfl rfl (v_move (.inl rfl) rfl) rfl ?_
    refine L_op (env' := uS2n22) rfl rfl (rfl) rfl ?_
    refine L_op (env' := uS2n22) rfl rfl (rfl) rfl ?_
    refine L_op (env' := uS2n22) rfl rfl (by first | exact v_loadF rfl rfl rfl rfl (by first | rfl | assumption | exact fget (α := BitVec 64) 0 (by omega) | exact fget (α := Int) 0 (by omega) | exact fget0 (α := BitVec 64) 0 (by omega) | exact fget0 (α := Int) 0 (by omega) | exact fget (α := Bool) false (by omega) | exact fget0 (α := Bool) false (by omega) | (simp [*]; done)) | exact v_load rfl rfl rfl rfl (by first | exact get_app rfl rfl | exact get_out (by assumption) | assumption | (simp [*]; done)) (by first | rfl | assumption | exact fget (α := BitVec 64) 0 (by omega) | exact fget (α := Int) 0 (by omega) | exact fget0 (α := BitVec 64) 0 (by omega) | exact fget0 (α := Int) 0 (by omega) | exact fget (α := Bool) false (by omega) | exact fget0 (α := Bool) false (by omega) | (simp [*]; done))) rfl ?_
    refine L_op (env' := uS2n22) rfl rfl (v_move (.inl rfl) rfl) rfl ?_
    refine L_op (env' := uS2n22) rfl rfl (by first | exact v_idxF rfl rfl rfl rfl rfl rfl rfl (by first | assumption | omega | (simp [*]; done) | (simp at *; omega)) | exact v_idx rfl rfl rfl rfl rfl rfl rfl (by first | assumption | omega | (simp [*]; done) | (simp at *; omega))) rfl ?_
    refine L_op (env' := uS2n22) rfl rfl (by first | exact v_loadF rfl rfl rfl rfl (by first | rfl | assumption | exact fget (α := BitVec 64) 0 (by omega) | exact fget (α := Int) 0 (by omega) | exact fget0 (α := BitVec 64) 0 (by omega) | exact fget0 (α := Int) 0 (by omega) | exact fget (α := Bool) false (by omega) | exact fget0 (α := Bool) false (by omega) | (simp [*]; done)) | exact v_load rfl rfl rfl rfl (by first | exact get_app rfl rfl | exact get_out (by assumption) | assumption | (simp [*]; done)) (by first | rfl | assumption | exact fget (α := BitVec 64) 0 (by omega) | exact fget (α := Int) 0 (by omega) | exact fget0 (α := BitVec 64) 0 (by omega) | exact fget0 (α := Int) 0 (by omega) | exact fget (α := Bool) false (by omega) | exact fget0 (α := Bool) false (by omega) | (simp [*]; done))) rfl ?_
    refine L_call rfl rfl rfl (by exact of_spec _ _) ?_
    rintro _ _ ⟨rfl, rfl⟩
    refine L_env (env' := uS2n22) rfl ?_
    refine L_op (env' := uS2n22) rfl rfl (v_move (.inl rfl) rfl) rfl ?_
    refine L_call rfl rfl rfl (by exact Has_spec _ _ _) ?_
    rintro _ _ ⟨rfl, rfl⟩
    refine L_env (env' := uS2n22) rfl ?_
    refine L_op (env' := uS2n22) rfl rfl (v_pickT rfl rfl rfl) rfl ?_
    refine L_op (env' := uS2n22) rfl rfl (v_move (.inr rfl) rfl) rfl ?_
    refine L_nil ?_
    refine K_seq ?_
    refine B_ret ?_
    refine E_app (.inr rfl) (vres_tmp rfl rfl) (by first | exact BaseOk.refl _ | exact BaseOk.set (BaseOk.refl _) _ rfl) (by first | rfl | simp [VVal.under, VVal.underL, *]) ?_
    exact ⟨by simp [*], rfl⟩
  · try simp only [decide_eq_true_eq, decide_eq_false_iff_not, Bool.not_eq_true', Bool.not_eq_false', bne_iff_ne, beq_iff_eq, Bool.and_eq_true, Bool.or_eq_true, Bool.not_eq_true, ge_iff_le, gt_iff_lt, Int.not_le, Int.not_lt, beq_eq_false_iff_ne, bne_eq_false_iff_eq, ne_eq, Decidable.not_not, wd_zero, wd_one, wd_inj] at hg1
    refine L_off (env' := uS2n22) rfl rfl ?_
    refine L_off (env' := uS2n22) rfl rfl ?_
    refine L_off (env' := uS2n22) rfl rfl ?_
    refine L_off (env' := uS2n22) rfl rfl ?_
    refine L_off (env' := uS2n22) rfl rfl ?_
    refine L_off (env' := uS2n22) rfl rfl ?_
    refine L_off (env' := uS2n22) rfl rfl ?_
    refine L_off (env' := uS2n22) rfl rfl ?_
    refine L_off (env' := uS2n22) rfl rfl ?_
    refine L_off (env' := uS2n22) rfl rfl ?_
    refine L_op (env' := uS2n22) rfl rfl (v_pickFC (VVal.bool false) rfl rfl rfl) rfl ?_
    refine L_op (env' := uS2n22) rfl rfl (v_move (.inr rfl) rfl) rfl ?_
    refine L_nil ?_
    refine K_seq ?_
    refine B_ret ?_
    refine E_app (.inr rfl) (vres_tmp rfl rfl) (by first | exact BaseOk.refl _ | exact BaseOk.set (BaseOk.refl _) _ rfl) (by first | rfl | simp [VVal.under, VVal.underL, *]) ?_
    exact ⟨by simp [*], rfl⟩
end Go.Proofs.YteocbhgdmpdklaaDoor.VT
