/- ranks: Drop -/
import Derived.Test.YteocbhgdmpdklaaDoorS25
import Derived.Test.YteocbhgdmpdklaaDoorP10
import Derived.Test.YteocbhgdmpdklaaDoorP11
set_option autoImplicit false
set_option linter.unusedVariables false
set_option linter.unusedSimpArgs false
set_option maxHeartbeats 4000000
set_option maxRecDepth 100000
namespace Go.Proofs.YteocbhgdmpdklaaDoor.VT
open Go Go.V Go.RowKit

abbrev uS24n6 {a0 a1 a2 a3 a4 a5 : VVal} : VEnv := a0 :: a1 :: a2 :: a3 :: a4 :: a5 :: []
abbrev uS24n35 {a0 a1 a2 a3 a4 a5 a6 a7 a8 a9 a10 a11 a12 a13 a14 a15 a16 a17 a18 a19 a20 a21 a22 a23 a24 a25 a26 a27 a28 a29 a30 a31 a32 a33 a34 : VVal} : VEnv := a0 :: a1 :: a2 :: a3 :: a4 :: a5 :: a6 :: a7 :: a8 :: a9 :: a10 :: a11 :: a12 :: a13 :: a14 :: a15 :: a16 :: a17 :: a18 :: a19 :: a20 :: a21 :: a22 :: a23 :: a24 :: a25 :: a26 :: a27 :: a28 :: a29 :: a30 :: a31 :: a32 :: a33 :: a34 :: []

theorem and127 {n : Nat} (h : n < 2 ^ 63) : vbits .and .i64 (n : Int) 127 = ((n % 128 : Nat) : Int) := by
  show IntKind.i64.wrap ((BitVec.ofInt 64 (n : Int) &&& BitVec.ofInt 64 ((127 : Nat) : Int)).toNat : Int) = _
  rw [BitVec.ofInt_natCast, BitVec.ofInt_natCast, BitVec.toNat_and, BitVec.toNat_ofNat, BitVec.toNat_ofNat, Nat.mod_eq_of_lt (Nat.lt_trans h (by decide)), Nat.mod_eq_of_lt (by decide : 127 < 2 ^ 64), show (127 : Nat) = 2 ^ 7 - 1 from rfl, Nat.and_two_pow_sub_one_eq_mod]
  exact wrap_i _ (by have : n % 2 ^ 7 < 128 := Nat.mod_lt _ (by decide); omega)
theorem ones_cv (w : BitVec 64) : VVal.int .i64 (IntKind.i64.wrap ((pcW w).toNat : Int)) = iI ((pcW w).toNat : Nat) := by
  rw [wrap_i _ (by have := (pcW_count w).2; omega)]
theorem ones_and (w : BitVec 64) : VVal.int .i64 (vbits .and .i64 ((pcW w).toNat : Int) 127) = iI (come 64 w : Nat) := by
  rw [and127 (pcW_count w).2, (pcW_count w).1]

theorem Ones_spec {x : SW} (H : VHeap) (w : BitVec 64) : F (psys x) 94 [iW w] H fun v G => v = iI (come 64 w : Nat) ∧ G = H := by
  refine F_body Tryd.func94 rfl uS24n35 rfl ?_
  refine B_seq ?_
  refine B_region ?_
  refine L_op (env' := uS24n35) rfl rfl (v_const (VVal.int .i64 0) (.inr rfl) rfl) rfl ?_
  refine L_nil ?_
  refine K_seq ?_
  refine B_seq ?_
  refine B_region ?_
  refine L_op (env' := uS24n35) rfl rfl (v_move (.inl rfl) rfl) rfl ?_
  refine L_op (env' := uS24n35) rfl rfl (v_shrW rfl rfl rfl (by first | assumption | omega | (simp [*]; done) | (simp at *; omega))) rfl ?_
  refine L_op (env' := uS24n35) rfl rfl (v_andW (b := 6148914691236517205#64) rfl rfl rfl) rfl ?_
  refine L_op (env' := uS24n35) rfl rfl (v_move (.inl rfl) rfl) rfl ?_
  refine L_op (env' := uS24n35) rfl rfl (v_andW (b := 6148914691236517205#64) rfl rfl rfl) rfl ?_
  refine L_op (env' := uS24n35) rfl rfl (v_val (v_addW rfl rfl rfl) (show iW _ = iW (pc1 w) from rfl)) rfl ?_
  refine L_op (env' := uS24n35) rfl rfl (v_move (.inr rfl) rfl) rfl ?_
  refine L_nil ?_
  refine K_seq ?_
  refine B_seq ?_
  refine B_region ?_
  refine L_op (env' := uS24n35) rfl rfl (v_move (.inl rfl) rfl) rfl ?_
  refine L_op (env' := uS24n35) rfl rfl (v_shrW rfl rfl rfl (by first | assumption | omega | (simp [*]; done) | (simp at *; omega))) rfl ?_
  refine L_op (env' := uS24n35) rfl rfl (v_andW (b := 3689348814741910323#64) rfl rfl rfl) rfl ?_
  refine L_op (env' := uS24n35) rfl rfl (v_move (.inl rfl) rfl) rfl ?_
  refine L_op (env' := uS24n35) rfl rfl (v_andW (b := 3689348814741910323#64) rfl rfl rfl) rfl ?_
  refine L_op (env' := uS24n35) rfl rfl (v_val (v_addW rfl rfl rfl) (show iW _ = iW (pc2 (pc1 w)) from rfl)) rfl ?_
  refine L_op (env' := uS24n35) rfl rfl (v_move (.inr rfl) rfl) rfl ?_
  refine L_nil ?_
  refine K_seq ?_
  refine B_seq ?_
  refine B_region ?_
  refine L_op (env' := uS24n35) rfl rfl (v_move (.inl rfl) rfl) rfl ?_
  refine L_op (env' := uS24n35) rfl rfl (v_shrW rfl rfl rfl (by first | assumption | omega | (simp [*]; done) | (simp at *; omega))) rfl ?_
  refine L_op (env' := uS24n35) rfl rfl (v_move (.inl rfl) rfl) rfl ?_
  refine L_op (env' := uS24n35) rfl rfl (v_addW rfl rfl rfl) rfl ?_
  refine L_op (env' := uS24n35) rfl rfl (v_val (v_andW (b := 1085102592571150095#64) rfl rfl rfl) (show iW _ = iW (pc3 (pc2 (pc1 w))) from rfl)) rfl ?_
  refine L_op (env' := uS24n35) rfl rfl (v_move (.inr rfl) rfl) rfl ?_
  refine L_nil ?_
  refine K_seq ?_
  refine B_seq ?_
  refine B_region ?_
  refine L_op (env' := uS24n35) rfl rfl (v_move (.inl rfl) rfl) rfl ?_
  refine L_op (env' := uS24n35) rfl rfl (v_move (.inl rfl) rfl) rfl ?_
  refine L_op (env' := uS24n35) rfl rfl (v_shrW rfl rfl rfl (by first | assumption | omega | (simp [*]; done) | (simp at *; omega))) rfl ?_
  refine L_op (env' := uS24n35) rfl rfl (v_val (v_addW rfl rfl rfl) (show iW _ = iW (pc4 (pc3 (pc2 (pc1 w)))) from rfl)) rfl ?_
  refine L_op (env' := uS24n35) rfl rfl (v_move (.inr rfl) rfl) rfl ?_
  refine L_nil ?_
  refine K_seq ?_
  refine B_seq ?_
  refine B_region ?_
  refine L_op (env' := uS24n35) rfl rfl (v_move (.inl rfl) rfl) rfl ?_
  refine L_op (env' := uS24n35) rfl rfl (v_move (.inl rfl) rfl) rfl ?_
  refine L_op (env' := uS24n35) rfl rfl (v_shrW rfl rfl rfl (by first | assumption | omega | (simp [*]; done) | (simp at *; omega))) rfl ?_
  refine L_op (env' := uS24n35) rfl rfl (v_val (v_addW rfl rfl rfl) (show iW _ = iW (pc5 (pc4 (pc3 (pc2 (pc1 w))))) from rfl)) rfl ?_
  refine L_op (env' := uS24n35) rfl rfl (v_move (.inr rfl) rfl) rfl ?_
  refine L_nil ?_
  refine K_seq ?_
  refine B_seq ?_
  refine B_region ?_
  refine L_op (env' := uS24n35) rfl rfl (v_move (.inl rfl) rfl) rfl ?_
  refine L_op (env' := uS24n35) rfl rfl (v_move (.inl rfl) rfl) rfl ?_
  refine L_op (env' := uS24n35) rfl rfl (v_shrW rfl rfl rfl (by first | assumption | omega | (simp [*]; done) | (simp at *; omega))) rfl ?_
  refine L_op (env' := uS24n35) rfl rfl (v_val (v_addW rfl rfl rfl) (show iW _ = iW (pcW w) from rfl)) rfl ?_
  refine L_op (env' := uS24n35) rfl rfl (v_move (.inr rfl) rfl) rfl ?_
  refine L_nil ?_
  refine K_seq ?_
  refine B_seq ?_
  refine B_region ?_
  refine L_op (env' := uS24n35) rfl rfl (v_move (.inl rfl) rfl) rfl ?_
  refine L_op (env' := uS24n35) rfl rfl (v_val rfl (ones_cv w)) rfl ?_
  refine L_op (env' := uS24n35) rfl rfl (v_val rfl (ones_and w)) rfl ?_
  refine L_op (env' := uS24n35) rfl rfl (v_move (.inr rfl) rfl) rfl ?_
  refine L_nil ?_
  refine K_seq ?_
  refine B_ret ?_
  refine E_app (.inr rfl) (vres_tmp rfl rfl) (by first | exact BaseOk.refl _ | exact BaseOk.set (BaseOk.refl _) _ rfl) (by first | rfl | simp [VVal.under, VVal.underL, *]) ?_
  exact ⟨rfl, rfl⟩

theorem setLen_spec {x : SW} (H : VHeap) (w : BitVec 64) : F (psys x) 69 [.agg [iW w]] H fun v G => v = iI (come 64 w : Nat) ∧ G = H := by
  refine F_body Tryd.func69 rfl uS24n6 rfl ?_
  refine B_seq ?_
  refine B_region ?_
  refine L_op (env' := uS24n6) rfl rfl (v_boxT rfl rfl rfl) rfl ?_
  refine L_op (env' := uS24n6) rfl rfl (v_const (VVal.int .i64 0) (.inr rfl) rfl) rfl ?_
  refine L_nil ?_
  refine K_seq ?_
  refine B_seq ?_
  refine B_region ?_
  refine L_op (env' := uS24n6) rfl rfl (rfl) rfl ?_
  refine L_op (env' := uS24n6) rfl rfl (by first | exact v_loadF rfl rfl rfl rfl (by first | rfl | assumption | exact fget (α := BitVec 64) 0 (by omega) | exact fget (α := Int) 0 (by omega) | exact fget0 (α := BitVec 64) 0 (by omega) | exact fget0 (α := Int) 0 (by omega) | exact fget (α := Bool) false (by omega) | exact fget0 (α := Bool) false (by omega) | (simp [*]; done)) | exact v_load rfl rfl rfl rfl (by first | exact get_app rfl rfl | exact get_out (by assumption) | assumption | (simp [*]; done)) (by first | rfl | assumption | exact fget (α := BitVec 64) 0 (by omega) | exact fget (α := Int) 0 (by omega) | exact fget0 (α := BitVec 64) 0 (by omega) | exact fget0 (α := Int) 0 (by omega) | exact fget (α := Bool) false (by omega) | exact fget0 (α := Bool) false (by omega) | (simp [*]; done))) rfl ?_
  refine L_call rfl rfl rfl (by exact Ones_spec _ _) ?_
  rintro _ _ ⟨rfl, rfl⟩
  refine L_env (env' := uS24n6) rfl ?_
  refine L_op (env' := uS24n6) rfl rfl (v_move (.inr rfl) rfl) rfl ?_
  refine L_nil ?_
  refine K_seq ?_
  refine B_ret ?_
  refine E_app (.inr rfl) (vres_tmp rfl rfl) (by first | exact BaseOk.refl _ | exact BaseOk.set (BaseOk.refl _) _ rfl) (by first | rfl | simp [VVal.under, VVal.underL, *]) ?_
  exact ⟨rfl, rfl⟩

/-- what Drop leaves, what it tells -/
def drL (J : List (BitVec 64)) (a : Int) : Nat → List (BitVec 64)
  | 0 => J.set a.toNat 0#64
  | k + 1 => ctJ (drL J a k) k a
def drC (J : List (BitVec 64)) (a : Int) : Nat → Nat
  | 0 => come 64 (J.getD a.toNat 0)
  | k + 1 => if ctE (drL J a k) k a = 0 then drC J a k + 1 else drC J a k
def drJ (J : List (BitVec 64)) (a : Int) : List (BitVec 64) := if 0 ≤ a ∧ a < 64 then drL J a 64 else J
def drN (J : List (BitVec 64)) (a : Int) : Int := if 0 ≤ a ∧ a < 64 then (drC J a 64 : Nat) else 0
theorem ctJ_len {J : List (BitVec 64)} {s j : Int} : (ctJ J s j).length = J.length := by
  unfold ctJ; split
  · unfold unl; rw [List.length_set]
  · rfl
theorem drL_len {J : List (BitVec 64)} {a : Int} : ∀ {k : Nat}, (drL J a k).length = J.length
  | 0 => by unfold drL; rw [List.length_set]
  | k + 1 => by unfold drL; rw [ctJ_len, drL_len]
theorem drC_le {J : List (BitVec 64)} {a : Int} : ∀ {k : Nat}, drC J a k ≤ 64 + k
  | 0 => come_le _
  | k + 1 => by
    have := @drC_le J a k
    unfold drC; split <;> omega
theorem lk_set0 {J : List (BitVec 64)} {a x y : Nat} (ha : a < J.length) : lk (J.set a 0#64) x y = (lk J x y && decide (x ≠ a)) := by
  unfold lk; rw [getD_set ha]
  by_cases e : x = a
  · subst e; simp
  · rw [if_neg e]; simp [e]
theorem lk_drL {J : List (BitVec 64)} {a : Nat} (hJ : J.length = 64) (ha : a < 64) : ∀ {k : Nat}, k ≤ 64 → ∀ x y, lk (drL J a k) x y = (lk J x y && decide (x ≠ a) && !(decide (y = a) && decide (x < k)))
  | 0, _, x, y => by
    unfold drL
    rw [Int.toNat_natCast, lk_set0 (by omega)]; simp
  | k + 1, hk, x, y => by
    have ih := lk_drL hJ ha (show k ≤ 64 by omega)
    have hh : hasB (drL J a k) k a = lk (drL J a k) k a := by
      unfold hasB; rw [decide_eq_true (by omega), decide_eq_true (by omega), Bool.true_and, Bool.true_and]; rfl
    unfold drL
    cases h : hasB (drL J a k) k a with
    | true =>
      rw [(ct0 (by omega) h).2, Int.toNat_natCast, Int.toNat_natCast, lk_unl (by rw [drL_len]; omega), ih]
      by_cases h1 : y = a <;> by_cases h2 : x = k <;> by_cases h3 : x < k <;> simp [h1, h2, h3, show x < k + 1 ↔ x ≤ k from Nat.lt_succ_iff] <;> omega
    | false =>
      rw [(ct26 (by omega) h).2, ih]
      rw [hh, ih] at h
      by_cases h1 : y = a
      · subst h1
        by_cases h2 : x = k
        · subst h2
          simp only [Nat.lt_irrefl, decide_false, Bool.and_false, Bool.not_false, Bool.and_true] at h
          rw [h]; rfl
        · have : decide (x < k + 1) = decide (x < k) := decide_eq_decide.2 (by omega)
          rw [this]
      · simp [h1]
theorem drC_cnt {J : List (BitVec 64)} {a : Nat} (hJ : J.length = 64) (ha : a < 64) : ∀ {k : Nat}, k ≤ 64 → drC J a k = come 64 (J.getD a 0) + cntO J a k
  | 0, _ => by unfold drC cntO; simp
  | k + 1, hk => by
    have ih := drC_cnt hJ ha (show k ≤ 64 by omega)
    have hh : hasB (drL J a k) k a = (decide (k ≠ a) && lk J k a) := by
      unfold hasB; rw [decide_eq_true (by omega), decide_eq_true (by omega), Bool.true_and, Bool.true_and, Int.toNat_natCast, Int.toNat_natCast, lk_drL hJ ha (by omega)]
      simp [Bool.and_comm]
    unfold drC
    rw [cntO_succ, ← hh]
    cases h : hasB (drL J a k) k a with
    | true => rw [(ct0 (by omega) h).1, if_pos rfl, if_pos rfl, ih]; omega
    | false => rw [(ct26 (by omega) h).1, if_neg (by decide), if_neg (by decide), ih]; omega
theorem _root_.Go.V.Rk.drJ {J : List (BitVec 64)} (r : Rk J) {a : Int} : Rk (drJ J a) := by
  unfold Go.Proofs.YteocbhgdmpdklaaDoor.VT.drJ
  split
  · rename_i h
    refine r.less drL_len fun x y e => ?_
    have := lk_drL (J := J) (a := a.toNat) r.len (by omega) (Nat.le_refl 64) x y
    rw [show ((a.toNat : Nat) : Int) = a from by omega] at this
    rw [this, Bool.and_eq_true, Bool.and_eq_true] at e; exact e.1.1
  · exact r

theorem Drop_spec {x : SW} (H : VHeap) (p : Nat) (J : List (BitVec 64)) (hp : H[p]? = some (rkB J)) (hJ : J.length = 64) (a : Int) : F (psys x) 35 [.ptr (some (p, 0)), iI a] H fun v G => v = iI (drN J a) ∧ G = H.set p (rkB (drJ J a)) := by
  have hpl := lt_of_get hp
  refine F_body Tryd.func35 rfl uS24n35 rfl ?_
  refine B_seq ?_
  refine B_region ?_
  refine L_op (env' := uS24n35) rfl rfl (v_const (VVal.int .i64 0) (.inr rfl) rfl) rfl ?_
  refine L_nil ?_
  refine K_seq ?_
  refine B_seq ?_
  refine B_seq ?_
  refine B_region ?_
  refine L_op (env' := uS24n35) rfl rfl (v_move (.inl rfl) rfl) rfl ?_
  refine L_call rfl rfl rfl (by exact rkIs_spec _ _) ?_
  rintro _ _ ⟨rfl, rfl⟩
  refine L_env (env' := uS24n35) rfl ?_
  refine L_op (env' := uS24n35) rfl rfl (rfl) rfl ?_
  refine L_nil ?_
  refine K_seq ?_
  refine B_cond _ rfl (fun hc1 => ?_) (fun hc1 => ?_)
  · try simp only [decide_eq_true_eq, decide_eq_false_iff_not, Bool.not_eq_true', Bool.not_eq_false', bne_iff_ne, beq_iff_eq, Bool.and_eq_true, Bool.or_eq_true, Bool.not_eq_true, ge_iff_le, gt_iff_lt, Int.not_le, Int.not_lt, beq_eq_false_iff_ne, bne_eq_false_iff_eq, ne_eq, Decidable.not_not, wd_zero, wd_one, wd_inj] at hc1
    refine B_seq ?_
    refine B_region ?_
    refine L_op (env' := uS24n35) rfl rfl (v_const (VVal.int .i64 0) (.inr rfl) rfl) rfl ?_
    refine L_nil ?_
    refine K_seq ?_
    refine B_ret ?_
    refine K_seqR ?_
    refine E_app (.inr rfl) (vres_tmp rfl rfl) (by first | exact BaseOk.refl _ | exact BaseOk.set (BaseOk.refl _) _ rk_under) (by first | rfl | simp [VVal.under, VVal.underL, *]) ?_
    first
      | exact ⟨by unfold drN; rw [if_neg (by assumption)], by unfold drJ; rw [if_neg (by assumption)]; exact set_keep hp⟩
      | (obtain rfl : b = 64 := by omega); exact ⟨by unfold drN; rw [if_pos (by assumption)], by unfold drJ; rw [if_pos (by assumption)]⟩
  · try simp only [decide_eq_true_eq, decide_eq_false_iff_not, Bool.not_eq_true', Bool.not_eq_false', bne_iff_ne, beq_iff_eq, Bool.and_eq_true, Bool.or_eq_true, Bool.not_eq_true, ge_iff_le, gt_iff_lt, Int.not_le, Int.not_lt, beq_eq_false_iff_ne, bne_eq_false_iff_eq, ne_eq, Decidable.not_not, wd_zero, wd_one, wd_inj] at hc1
    refine B_skip ?_
    refine K_seq ?_
    refine B_seq ?_
    refine B_region ?_
    refine L_op (env' := uS24n35) rfl rfl (v_move (.inl rfl) rfl) rfl ?_
    refine L_op (env' := uS24n35) rfl rfl (v_move (.inl rfl) rfl) rfl ?_
    refine L_op (env' := uS24n35) rfl rfl (rfl) rfl ?_
    refine L_op (env' := uS24n35) rfl rfl (rfl) rfl ?_
    refine L_op (env' := uS24n35) rfl rfl (by first | exact v_idxFA rfl rfl rfl rfl rfl rfl (by first | assumption | omega | (simp [*]; done) | (simp at *; omega)) | exact v_idxA rfl rfl rfl rfl rfl rfl (by first | assumption | omega | (simp [*]; done) | (simp at *; omega))) rfl ?_
    refine L_op (env' := uS24n35) rfl rfl (by first | exact v_loadF rfl rfl rfl rfl (by first | rfl | assumption | exact fget (α := BitVec 64) 0 (by omega) | exact fget (α := Int) 0 (by omega) | exact fget0 (α := BitVec 64) 0 (by omega) | exact fget0 (α := Int) 0 (by omega) | exact fget (α := Bool) false (by omega) | exact fget0 (α := Bool) false (by omega) | (simp [*]; done)) | exact v_load rfl rfl rfl rfl (by first | exact get_app rfl rfl | exact get_out (by assumption) | assumption | (simp [*]; done)) (by first | rfl | assumption | exact fget (α := BitVec 64) 0 (by omega) | exact fget (α := Int) 0 (by omega) | exact fget0 (α := BitVec 64) 0 (by omega) | exact fget0 (α := Int) 0 (by omega) | exact fget (α := Bool) false (by omega) | exact fget0 (α := Bool) false (by omega) | (simp [*]; done))) rfl ?_
    refine L_call rfl rfl rfl (by exact places_spec _ _) ?_
    rintro _ _ ⟨rfl, rfl⟩
    refine L_env (env' := uS24n35) rfl ?_
    refine L_call rfl rfl rfl (by exact setLen_spec _ _) ?_
    rintro _ _ ⟨rfl, rfl⟩
    refine L_env (env' := uS24n35) rfl ?_
    refine L_op (env' := uS24n35) rfl rfl (v_move (.inr rfl) rfl) rfl ?_
    refine L_nil ?_
    refine K_seq ?_
    refine B_seq ?_
    refine B_region ?_
    refine L_op (env' := uS24n35) rfl rfl (v_move (.inl rfl) rfl) rfl ?_
    refine L_op (env' := uS24n35) rfl rfl (v_move (.inl rfl) rfl) rfl ?_
    refine L_op (env' := uS24n35) rfl rfl (rfl) rfl ?_
    refine L_op (env' := uS24n35) rfl rfl (rfl) rfl ?_
    refine L_op (env' := uS24n35) rfl rfl (by first | exact v_idxFA rfl rfl rfl rfl rfl rfl (by first | assumption | omega | (simp [*]; done) | (simp at *; omega)) | exact v_idxA rfl rfl rfl rfl rfl rfl (by first | assumption | omega | (simp [*]; done) | (simp at *; omega))) rfl ?_
    refine L_op (env' := uS24n35) rfl rfl (v_storeC (VVal.int .u64 0) rfl rfl rfl rfl rfl rfl rfl (by first | exact get_app rfl rfl | exact get_out (by assumption) | assumption | (simp [*]; done)) (by exact rk_len (by omega)) (by exact set_rk (s := a) (w := 0#64) hp (by omega))) rfl ?_
    refine L_nil ?_
    refine K_seq ?_
    refine B_seq ?_
    refine B_seq ?_
    refine B_region ?_
    refine L_op (env' := uS24n35) rfl rfl (v_const (VVal.int .i64 0) (.inl rfl) rfl) rfl ?_
    refine L_nil ?_
    refine K_seq ?_
    refine B_block ?_
    refine B_clear [false,false,true,true,true,false,true,true,true,true,true,true,true,true,true,true,true,true,true,true,true,true,true,false,true,true,true,true,true,true,true,true,true,true,true] (env' := uS24n35) rfl ?_
    refine B_loopE (fun (b : Nat) => 64 - b) (fun (b : Nat) => [(5, iI (drC J a b : Nat)), (23, iI (b : Nat))]) (fun (b : Nat) G => (b ≤ 64) ∧ G = H.set p (rkB (drL J a b)) ++ []) 0 rfl ?_ ?_
    · refine ⟨?_, rfl⟩
      exact Nat.zero_le _
    rintro b _ ⟨hb, rfl⟩
    refine B_env (env' := uS24n35) rfl ?_
    refine B_seq ?_
    refine B_region ?_
    refine L_op (env' := uS24n35) rfl rfl (rfl) rfl ?_
    refine L_nil ?_
    refine K_seq ?_
    refine B_seq ?_
    refine B_cond _ rfl (fun hc2 => ?_) (fun hc2 => ?_)
    · try simp only [decide_eq_true_eq, decide_eq_false_iff_not, Bool.not_eq_true', Bool.not_eq_false', bne_iff_ne, beq_iff_eq, Bool.and_eq_true, Bool.or_eq_true, Bool.not_eq_true, ge_iff_le, gt_iff_lt, Int.not_le, Int.not_lt, beq_eq_false_iff_ne, bne_eq_false_iff_eq, ne_eq, Decidable.not_not, wd_zero, wd_one, wd_inj] at hc2
      refine B_skip ?_
      refine K_seq ?_
      refine B_seq ?_
      refine B_block ?_
      refine B_seq ?_
      refine B_region ?_
      refine L_op (env' := uS24n35) rfl rfl (v_move (.inl rfl) rfl) rfl ?_
      refine L_op (env' := uS24n35) rfl rfl (v_move (.inr rfl) rfl) rfl ?_
      refine L_nil ?_
      refine K_seq ?_
      refine B_seq ?_
      refine B_region ?_
      refine L_op (env' := uS24n35) rfl rfl (v_move (.inl rfl) rfl) rfl ?_
      refine L_op (env' := uS24n35) rfl rfl (v_move (.inl rfl) rfl) rfl ?_
      refine L_op (env' := uS24n35) rfl rfl (v_move (.inl rfl) rfl) rfl ?_
      refine L_call rfl rfl rfl (by exact Cut_spec _ p (drL J a b) (get_out (List.getElem?_set_self hpl)) (by rw [drL_len]; exact hJ) _ _) ?_
      rintro _ _ ⟨rfl, rfl⟩; refine L_heap (H' := H.set p (rkB (drL J a (b + 1))) ++ []) (by rw [set_out (by rw [List.length_set]; exact hpl), List.set_set]; rfl) ?_
      refine L_env (env' := uS24n35) rfl ?_
      refine L_op (env' := uS24n35) rfl rfl (rfl) rfl ?_
      refine L_nil ?_
      refine K_seq ?_
      refine B_cond _ rfl (fun hc3 => ?_) (fun hc3 => ?_)
      · try simp only [decide_eq_true_eq, decide_eq_false_iff_not, Bool.not_eq_true', Bool.not_eq_false', bne_iff_ne, beq_iff_eq, Bool.and_eq_true, Bool.or_eq_true, Bool.not_eq_true, ge_iff_le, gt_iff_lt, Int.not_le, Int.not_lt, beq_eq_false_iff_ne, bne_eq_false_iff_eq, ne_eq, Decidable.not_not, wd_zero, wd_one, wd_inj] at hc3
        refine B_region ?_
        refine L_op (env' := uS24n35) rfl rfl (v_move (.inl rfl) rfl) rfl ?_
        refine L_op (env' := uS24n35) rfl rfl (v_addI rfl rfl rfl (by have := @drC_le J a b; omega)) rfl ?_
        refine L_op (env' := uS24n35) rfl rfl (v_move (.inr rfl) rfl) rfl ?_
        refine L_nil ?_
        refine K_blk ?_
        refine K_seq ?_
        refine B_region ?_
        refine L_op (env' := uS24n35) rfl rfl (v_addI rfl rfl rfl (by first | assumption | omega | (simp [*]; done) | (simp at *; omega))) rfl ?_
        refine L_op (env' := uS24n35) rfl rfl (v_move (.inl rfl) rfl) rfl ?_
        refine L_nil ?_
        first
          | (have hE : ((drC J a b : Nat) : Int) + 1 = (drC J a (b + 1) : Nat) := by rw [drC, if_pos (by assumption)]; rfl); rw [hE]
          | (have hE : drC J a b = drC J a (b + 1) := by rw [drC, if_neg (by assumption)]); rw [hE]
        refine K_loop [false,false,true,true,true,false,true,true,true,true,true,true,true,true,true,true,true,true,true,true,true,true,true,false,true,true,true,true,true,true,true,true,true,true,true] (env' := uS24n35) rfl ⟨b + 1, ?_, rfl, ?_⟩
        · first | omega | (simp only []; omega)
        · exact ⟨by omega, rfl⟩
      · try simp only [decide_eq_true_eq, decide_eq_false_iff_not, Bool.not_eq_true', Bool.not_eq_false', bne_iff_ne, beq_iff_eq, Bool.and_eq_true, Bool.or_eq_true, Bool.not_eq_true, ge_iff_le, gt_iff_lt, Int.not_le, Int.not_lt, beq_eq_false_iff_ne, bne_eq_false_iff_eq, ne_eq, Decidable.not_not, wd_zero, wd_one, wd_inj] at hc3
        refine B_skip ?_
        refine K_blk ?_
        refine K_seq ?_
        refine B_region ?_
        refine L_op (env' := uS24n35) rfl rfl (v_addI rfl rfl rfl (by first | assumption | omega | (simp [*]; done) | (simp at *; omega))) rfl ?_
        refine L_op (env' := uS24n35) rfl rfl (v_move (.inl rfl) rfl) rfl ?_
        refine L_nil ?_
        first
          | (have hE : ((drC J a b : Nat) : Int) + 1 = (drC J a (b + 1) : Nat) := by rw [drC, if_pos (by assumption)]; rfl); rw [hE]
          | (have hE : drC J a b = drC J a (b + 1) := by rw [drC, if_neg (by assumption)]); rw [hE]
        refine K_loop [false,false,true,true,true,false,true,true,true,true,true,true,true,true,true,true,true,true,true,true,true,true,true,false,true,true,true,true,true,true,true,true,true,true,true] (env' := uS24n35) rfl ⟨b + 1, ?_, rfl, ?_⟩
        · first | omega | (simp only []; omega)
        · exact ⟨by omega, rfl⟩
    · try simp only [decide_eq_true_eq, decide_eq_false_iff_not, Bool.not_eq_true', Bool.not_eq_false', bne_iff_ne, beq_iff_eq, Bool.and_eq_true, Bool.or_eq_true, Bool.not_eq_true, ge_iff_le, gt_iff_lt, Int.not_le, Int.not_lt, beq_eq_false_iff_ne, bne_eq_false_iff_eq, ne_eq, Decidable.not_not, wd_zero, wd_one, wd_inj] at hc2
      refine B_exit ?_
      refine K_seqX ?_
      refine K_loopX ?_
      refine K_blkX ?_
      refine K_seq ?_
      refine B_seq ?_
      refine B_region ?_
      refine L_op (env' := uS24n35) rfl rfl (v_move (.inl rfl) rfl) rfl ?_
      refine L_op (env' := uS24n35) rfl rfl (v_move (.inr rfl) rfl) rfl ?_
      refine L_nil ?_
      refine K_seq ?_
      refine B_ret ?_
      refine E_app (.inr rfl) (vres_tmp rfl rfl) (by first | exact BaseOk.refl _ | exact BaseOk.set (BaseOk.refl _) _ rk_under) (by first | rfl | simp [VVal.under, VVal.underL, *]) ?_
      first
        | exact ⟨by unfold drN; rw [if_neg (by assumption)], by unfold drJ; rw [if_neg (by assumption)]; exact set_keep hp⟩
        | (obtain rfl : b = 64 := by omega); exact ⟨by unfold drN; rw [if_pos (by assumption)], by unfold drJ; rw [if_pos (by assumption)]⟩

theorem B_ghLV {S : V.Sys} {H0 H X : VHeap} {rd : Option Nat} {c : Code} {env env' : VEnv} {Q : V.Post} {es : Nat} {v : VVal} {cs : List VVal} {len : Nat} (i : Nat) (l : LV H.length es X v cs len) (hv : env[i]? = some v) (he : env.set i (.fsl cs len es false) = env')
    (h : ∀ X', X'.length = X.length → (∀ j, vidx v ≠ some (H.length + j) → X'[j]? = X[j]?) → B S H0 rd c env' (H ++ X') Q) : B S H0 rd c env (H ++ X) Q := by
  obtain ⟨X', g, h1, h2⟩ := Gh.freezeLV i l hv he
  exact B_gh g (h X' h1 h2)
theorem Drop_at {x : SW} (H L : VHeap) {i : Nat} {J : List (BitVec 64)} (hL : L[i]? = some (rkB J)) (hJ : J.length = 64) (a : Int) : F (psys x) 35 [.ptr (some (H.length + i, 0)), iI a] (H ++ L) fun v G => v = iI (drN J a) ∧ G = H ++ L.set i (rkB (drJ J a)) := by
  have := Drop_spec (x := x) (H ++ L) (H.length + i) J (get_app rfl hL) hJ a
  rw [set_app rfl] at this; exact this
theorem ov_no {J : List (BitVec 64)} {s j : Int} (h : ¬ ovE J s j = 0) : ovJ J s j = J := if_neg h
theorem ov_zero {J : List (BitVec 64)} {s j : Int} (h : ovE J s j = 0) : ((0 ≤ s ∧ s < 64) ∧ 0 ≤ j ∧ j < 64) ∧ hasB J s j = false := by
  by_cases h1 : (0 ≤ s ∧ s < 64) ∧ 0 ≤ j ∧ j < 64
  · refine ⟨h1, ?_⟩
    cases h2 : hasB J s j with
    | false => rfl
    | true => rw [(ov5 h1 h2).1] at h; exact absurd h (by decide)
  · rw [(ov1 h1).1] at h; exact absurd h (by decide)
theorem hasB_in {J : List (BitVec 64)} {s j : Int} (h : (0 ≤ s ∧ s < 64) ∧ 0 ≤ j ∧ j < 64) : hasB J s j = lk J s.toNat j.toNat := by
  unfold hasB; rw [decide_eq_true h.1, decide_eq_true h.2, Bool.true_and, Bool.true_and]
/-- a link laid and cut again -/
structure Laid (J : List (BitVec 64)) (s j : Int) : Prop where
  a : ovJ J s j = lay J s.toNat j.toNat
  b : hasB (lay J s.toNat j.toNat) s j = true
  c : (lkL (lay J s.toNat j.toNat)).length = (lkL J).length + 1
  d : ovE (lay J s.toNat j.toNat) s j = 5 ∧ ovJ (lay J s.toNat j.toNat) s j = lay J s.toNat j.toNat
  e : ctE (lay J s.toNat j.toNat) s j = 0 ∧ ctJ (lay J s.toNat j.toNat) s j = J
  f : ctE J s j = 26 ∧ ctJ J s j = J
  l : (lay J s.toNat j.toNat).length = 64
theorem laid_of {J : List (BitVec 64)} (r : Rk J) {s j : Int} (h : ovE J s j = 0) : Laid J s j := by
  obtain ⟨h1, h2⟩ := ov_zero h
  have hs : s.toNat < J.length := by rw [r.len]; omega
  have hj : j.toNat < 64 := by omega
  have h3 : lk J s.toNat j.toNat = false := by rw [← hasB_in h1]; exact h2
  have hb : hasB (lay J s.toNat j.toNat) s j = true := by rw [hasB_in h1, lk_lay hs hj]; simp
  refine ⟨by unfold ovJ; rw [if_pos h], hb, ?_, ov5 h1 hb, ⟨(ct0 h1 hb).1, by rw [(ct0 h1 hb).2]; exact lay_unl hs h3⟩, ct26 h1 h2, by unfold lay; rw [List.length_set]; exact r.len⟩
  have := lkTo_lay hs hj h3 (n := 64)
  rw [if_pos (by omega)] at this; exact this
def isA (a : Int) (p : Int × Int) : Bool := decide (p.1 = a) || decide (p.2 = a)
theorem isA1 {a : Int} {p : Int × Int} (h : p.1 = a) : isA a p = true := by simp [isA, h]
theorem isA2 {a : Int} {p : Int × Int} (h : p.2 = a) : isA a p = true := by simp [isA, h]
theorem isA0 {a : Int} {p : Int × Int} (h : ¬ p.1 = a) (h2 : ¬ p.2 = a) : isA a p = false := by simp [isA, h, h2]
theorem goA {l : List (Int × Int)} {i : Nat} (hi : i < l.length) : l.take (i + 1) = l.take i ++ [l.getD (i : Int).toNat (0, 0)] := by
  rw [List.take_succ_eq_append_getElem hi, Int.toNat_natCast, List.getD_eq_getElem?_getD, List.getElem?_eq_getElem hi]; rfl
theorem goA_yes {l : List (Int × Int)} {a : Int} {i : Nat} (hi : i < l.length) (h : isA a (l.getD (i : Int).toNat (0, 0)) = true) : (((l.take i).countP (isA a) : Nat) : Int) + 1 = (((l.take (i + 1)).countP (isA a) : Nat) : Int) ∧ (l.take (i + 1)).filter (fun p => !isA a p) = (l.take i).filter (fun p => !isA a p) := by
  rw [goA hi, List.countP_append, List.filter_append, List.countP_singleton]
  generalize l.getD (i : Int).toNat (0, 0) = q at h ⊢
  simp [h]
theorem goA_no {l : List (Int × Int)} {a : Int} {i : Nat} (hi : i < l.length) (h : isA a (l.getD (i : Int).toNat (0, 0)) = false) : (l.take i).countP (isA a) = (l.take (i + 1)).countP (isA a) ∧ (l.take (i + 1)).filter (fun p => !isA a p) = (l.take i).filter (fun p => !isA a p) ++ [l.getD (i : Int).toNat (0, 0)] := by
  rw [goA hi, List.countP_append, List.filter_append, List.countP_singleton]
  generalize l.getD (i : Int).toNat (0, 0) = q at h ⊢
  simp [h]
theorem drop_is {J : List (BitVec 64)} (r : Rk J) (a : Int) : drN J a = ((lkL J).countP (isA a) : Nat) ∧ lkL (drJ J a) = (lkL J).filter fun p => !isA a p := by
  by_cases h : 0 ≤ a ∧ a < 64
  · have e : ((a.toNat : Nat) : Int) = a := by omega
    have he : isA a = isP a.toNat := by funext p; unfold isA isP; rw [e]
    have h1 : drC J a 64 = come 64 (J.getD a.toNat 0) + cntO J a.toNat 64 := by
      have := drC_cnt (J := J) (a := a.toNat) r.len (by omega) (Nat.le_refl 64); rw [e] at this; exact this
    have h2 : ∀ x y, lk (drL J a 64) x y = (lk J x y && decide (x ≠ a.toNat) && decide (y ≠ a.toNat)) := fun x y => by
      have := lk_drL (J := J) (a := a.toNat) r.len (by omega) (Nat.le_refl 64) x y
      rw [e] at this
      rw [this]
      cases hl : lk J x y with
      | false => rfl
      | true =>
        have := lk_lt' hl
        rw [r.len] at this
        rw [decide_eq_true this]; simp
    constructor
    · unfold drN; rw [if_pos h, h1, he]
      have := lkTo_count (J := J) (a := a.toNat) (by omega) (n := 64)
      rw [if_pos (by omega)] at this
      rw [show (lkL J).countP (isP a.toNat) = _ from this]; omega
    · unfold drJ; rw [if_pos h, he]
      exact lkTo_filter h2
  · have hn : ∀ p, p ∈ lkL J → isA a p = false := fun p hp => by
      have := r.lnk_lt hp
      exact isA0 (by omega) (by omega)
    constructor
    · unfold drN; rw [if_neg h, List.countP_eq_zero.2 fun p hp => by rw [hn p hp]; decide]; rfl
    · unfold drJ; rw [if_neg h]
      exact (List.filter_eq_self.2 fun p hp => by rw [hn p hp]; rfl).symm
end Go.Proofs.YteocbhgdmpdklaaDoor.VT
