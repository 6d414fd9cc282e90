/- the document's order: walks -/
import Derived.Test.YteocbhgdmpdklaaDoorS6
import Derived.Test.YteocbhgdmpdklaaDoorP5
set_option autoImplicit false
set_option linter.unusedVariables false
set_option linter.unusedSimpArgs false
set_option maxHeartbeats 4000000
set_option maxRecDepth 100000
namespace Go.Proofs.YteocbhgdmpdklaaDoor.VT
open Go Go.V Go.RowKit

abbrev uS8n24 {a0 a1 a2 a3 a4 a5 a6 a7 a8 a9 a10 a11 a12 a13 a14 a15 a16 a17 a18 a19 a20 a21 a22 a23 : VVal} : VEnv := a0 :: a1 :: a2 :: a3 :: a4 :: a5 :: a6 :: a7 :: a8 :: a9 :: a10 :: a11 :: a12 :: a13 :: a14 :: a15 :: a16 :: a17 :: a18 :: a19 :: a20 :: a21 :: a22 :: a23 :: []
abbrev uS8n31 {a0 a1 a2 a3 a4 a5 a6 a7 a8 a9 a10 a11 a12 a13 a14 a15 a16 a17 a18 a19 a20 a21 a22 a23 a24 a25 a26 a27 a28 a29 a30 : VVal} : VEnv := a0 :: a1 :: a2 :: a3 :: a4 :: a5 :: a6 :: a7 :: a8 :: a9 :: a10 :: a11 :: a12 :: a13 :: a14 :: a15 :: a16 :: a17 :: a18 :: a19 :: a20 :: a21 :: a22 :: a23 :: a24 :: a25 :: a26 :: a27 :: a28 :: a29 :: a30 :: []
abbrev uS8n33 {a0 a1 a2 a3 a4 a5 a6 a7 a8 a9 a10 a11 a12 a13 a14 a15 a16 a17 a18 a19 a20 a21 a22 a23 a24 a25 a26 a27 a28 a29 a30 a31 a32 : VVal} : VEnv := a0 :: a1 :: a2 :: a3 :: a4 :: a5 :: a6 :: a7 :: a8 :: a9 :: a10 :: a11 :: a12 :: a13 :: a14 :: a15 :: a16 :: a17 :: a18 :: a19 :: a20 :: a21 :: a22 :: a23 :: a24 :: a25 :: a26 :: a27 :: a28 :: a29 :: a30 :: a31 :: a32 :: []
abbrev uS8n41 {a0 a1 a2 a3 a4 a5 a6 a7 a8 a9 a10 a11 a12 a13 a14 a15 a16 a17 a18 a19 a20 a21 a22 a23 a24 a25 a26 a27 a28 a29 a30 a31 a32 a33 a34 a35 a36 a37 a38 a39 a40 : VVal} : VEnv := a0 :: a1 :: a2 :: a3 :: a4 :: a5 :: a6 :: a7 :: a8 :: a9 :: a10 :: a11 :: a12 :: a13 :: a14 :: a15 :: a16 :: a17 :: a18 :: a19 :: a20 :: a21 :: a22 :: a23 :: a24 :: a25 :: a26 :: a27 :: a28 :: a29 :: a30 :: a31 :: a32 :: a33 :: a34 :: a35 :: a36 :: a37 :: a38 :: a39 :: a40 :: []
abbrev uS8n76 {a0 a1 a2 a3 a4 a5 a6 a7 a8 a9 a10 a11 a12 a13 a14 a15 a16 a17 a18 a19 a20 a21 a22 a23 a24 a25 a26 a27 a28 a29 a30 a31 a32 a33 a34 a35 a36 a37 a38 a39 a40 a41 a42 a43 a44 a45 a46 a47 a48 a49 a50 a51 a52 a53 a54 a55 a56 a57 a58 a59 a60 a61 a62 a63 a64 a65 a66 a67 a68 a69 a70 a71 a72 a73 a74 a75 : VVal} : VEnv := a0 :: a1 :: a2 :: a3 :: a4 :: a5 :: a6 :: a7 :: a8 :: a9 :: a10 :: a11 :: a12 :: a13 :: a14 :: a15 :: a16 :: a17 :: a18 :: a19 :: a20 :: a21 :: a22 :: a23 :: a24 :: a25 :: a26 :: a27 :: a28 :: a29 :: a30 :: a31 :: a32 :: a33 :: a34 :: a35 :: a36 :: a37 :: a38 :: a39 :: a40 :: a41 :: a42 :: a43 :: a44 :: a45 :: a46 :: a47 :: a48 :: a49 :: a50 :: a51 :: a52 :: a53 :: a54 :: a55 :: a56 :: a57 :: a58 :: a59 :: a60 :: a61 :: a62 :: a63 :: a64 :: a65 :: a66 :: a67 :: a68 :: a69 :: a70 :: a71 :: a72 :: a73 :: a74 :: a75 :: []

theorem rdP_yes {m : Nat} {R : Nat → Nat → Bool} {d : BitVec 64} {k : Nat} (h : d >>> k &&& 1#64 = 0#64) (h2 : prW m R k &&& ~~~d = 0#64) : rdP m R d k = true := by
  unfold rdP; rw [sh0.1 h, h2]; rfl
theorem rdP_no1 {m : Nat} {R : Nat → Nat → Bool} {d : BitVec 64} {k : Nat} (h : ¬ d >>> k &&& 1#64 = 0#64) : rdP m R d k = false := by
  rw [sh0] at h
  unfold rdP; rw [show d.getLsbD k = true from by simpa using h]; rfl
theorem rdP_no2 {m : Nat} {R : Nat → Nat → Bool} {d : BitVec 64} {k : Nat} (h2 : ¬ prW m R k &&& ~~~d = 0#64) : rdP m R d k = false := by
  unfold rdP; rw [show (prW m R k &&& ~~~d == 0#64) = false from by simpa using h2, Bool.and_false]
theorem dnA_no1 {m : Nat} {R : Nat → Nat → Bool} {d : BitVec 64} {k : Nat} (h : d >>> k &&& 1#64 = 1#64) (h2 : (m : Int) ≤ k) : dnA m R d k = false := by
  unfold dnA; rw [sh1.1 h, decide_eq_false (by omega)]; rfl
theorem dnA_no2 {m : Nat} {R : Nat → Nat → Bool} {d : BitVec 64} {k : Nat} (h : d >>> k &&& 1#64 = 1#64) (h2 : ¬ prW m R k &&& ~~~d = 0#64) : dnA m R d k = false := by
  unfold dnA; rw [sh1.1 h, show (prW m R k &&& ~~~d == 0#64) = false from by simpa using h2, Bool.and_false]; rfl
theorem dnA_yes1 {m : Nat} {R : Nat → Nat → Bool} {d : BitVec 64} {k : Nat} (h : ¬ d >>> k &&& 1#64 = 1#64) : dnA m R d k = true := by
  unfold dnA; rw [sh1n.1 h]; rfl
theorem dnA_yes2 {m : Nat} {R : Nat → Nat → Bool} {d : BitVec 64} {k : Nat} (h : (k : Int) < m) (h2 : prW m R k &&& ~~~d = 0#64) : dnA m R d k = true := by
  unfold dnA; rw [h2, decide_eq_true (by omega)]; simp
theorem dnW_no {m : Nat} {R : Nat → Nat → Bool} {d : BitVec 64} {k : Nat} (hk : (k : Int) < 64) (h : dnA m R d k = false) : dnW m R d = false := by
  unfold dnW; rw [List.all_eq_false]; exact ⟨k, List.mem_range.2 (by omega), by rw [h]; simp⟩
theorem all_up {P : Nat → Bool} {k : Nat} (h : ∀ i, i < k → P i = true) (hk : P k = true) : ∀ i, i < k + 1 → P i = true := fun i hi => by
  by_cases h1 : i = k
  · rw [h1]; exact hk
  · exact h i (by omega)
theorem cv_done {m : Nat} {R : Nat → Nat → Bool} {a b k : Nat} {t : Bool} (hk : k ≤ m) (ht : t = cvB m R a b k) (h : (m : Int) ≤ k ∨ t = false) : cvB m R a b m = t := by
  subst ht
  rcases h with h | h
  · rw [show k = m from by omega]
  · rw [cvB_stop h hk, h]
theorem LV.rowEnd {h m a b : Nat} {R : Nat → Nat → Bool} {X : VHeap} {v : VVal} (r : LV h 2 X v ((cvTo m R a ++ cvRow m R a b).flatMap enP) (cvTo m R a ++ cvRow m R a b).length) (e : b = m) : LV h 2 X v ((cvTo m R (a + 1)).flatMap enP) (cvTo m R (a + 1)).length := by
  subst e; rw [cvTo_succ]; exact r

theorem refBefore_spec {x : SW} (H : VHeap) (m : Nat) (R : Nat → Nat → Bool) (a b : Int) : F (psys x) 37 [refV m R, iI a, iI b] H fun v G => v = .bool (bfr m R a b) ∧ G = H := by
  refine F_body Tryd.func37 rfl uS8n41 rfl ?_
  refine B_seq ?_
  refine B_region ?_
  refine L_op (env' := uS8n41) rfl rfl (v_const (VVal.bool false) (.inr rfl) rfl) rfl ?_
  refine L_nil ?_
  refine K_seq ?_
  refine B_seq ?_
  refine B_region ?_
  refine L_op (env' := uS8n41) rfl rfl (v_move (.inl rfl) rfl) rfl ?_
  refine L_op (env' := uS8n41) rfl rfl (rfl) rfl ?_
  refine L_op (env' := uS8n41) rfl rfl (v_move (.inl rfl) rfl) rfl ?_
  refine L_split 9 (env1 := uS8n41) (env2 := uS8n41) rfl rfl rfl (fun hg1 => ?_) (fun hg1 => ?_)
  · try simp only [decide_eq_true_eq, decide_eq_false_iff_not, Bool.not_eq_true', Bool.not_eq_false', bne_iff_ne, beq_iff_eq, Bool.and_eq_true, Bool.or_eq_true, Bool.not_eq_true, ge_iff_le, gt_iff_lt, Int.not_le, Int.not_lt, beq_eq_false_iff_ne, bne_eq_false_iff_eq, ne_eq, Decidable.not_not, wd_zero, wd_one, wd_inj] at hg1
    refine L_op (env' := uS8n41) rfl rfl (v_move (.inl rfl) rfl) rfl ?_
    refine L_op (env' := uS8n41) rfl rfl (rfl) rfl ?_
    refine L_op (env' := uS8n41) rfl rfl (v_pickT rfl rfl rfl) rfl ?_
    refine L_op (env' := uS8n41) rfl rfl (v_move (.inl rfl) rfl) rfl ?_
    refine L_split 13 (env1 := uS8n41) (env2 := uS8n41) rfl rfl rfl (fun hg2 => ?_) (fun hg2 => ?_)
    · try simp only [decide_eq_true_eq, decide_eq_false_iff_not, Bool.not_eq_true', Bool.not_eq_false', bne_iff_ne, beq_iff_eq, Bool.and_eq_true, Bool.or_eq_true, Bool.not_eq_true, ge_iff_le, gt_iff_lt, Int.not_le, Int.not_lt, beq_eq_false_iff_ne, bne_eq_false_iff_eq, ne_eq, Decidable.not_not, wd_zero, wd_one, wd_inj] at hg2
      refine L_op (env' := uS8n41) rfl rfl (v_move (.inl rfl) rfl) rfl ?_
      refine L_op (env' := uS8n41) rfl rfl (v_move (.inl rfl) rfl) rfl ?_
      refine L_op (env' := uS8n41) rfl rfl (rfl) rfl ?_
      refine L_op (env' := uS8n41) rfl rfl (rfl) rfl ?_
      refine L_op (env' := uS8n41) rfl rfl (by first | exact v_loadF rfl rfl rfl rfl (by first | exact rget (by omega) | exact rget0 (by omega) | rfl | assumption) | exact v_load rfl rfl rfl rfl (by first | exact get_app rfl rfl | exact get_out (by assumption) | assumption | (simp [*]; done)) (by first | exact rget (by omega) | exact rget0 (by omega) | rfl | assumption)) rfl ?_
      refine L_op (env' := uS8n41) rfl rfl (rfl) rfl ?_
      refine L_op (env' := uS8n41) rfl rfl (v_pickT rfl rfl rfl) rfl ?_
      refine L_op (env' := uS8n41) rfl rfl (v_move (.inl rfl) rfl) rfl ?_
      refine L_split 21 (env1 := uS8n41) (env2 := uS8n41) rfl rfl rfl (fun hg3 => ?_) (fun hg3 => ?_)
      · try simp only [decide_eq_true_eq, decide_eq_false_iff_not, Bool.not_eq_true', Bool.not_eq_false', bne_iff_ne, beq_iff_eq, Bool.and_eq_true, Bool.or_eq_true, Bool.not_eq_true, ge_iff_le, gt_iff_lt, Int.not_le, Int.not_lt, beq_eq_false_iff_ne, bne_eq_false_iff_eq, ne_eq, Decidable.not_not, wd_zero, wd_one, wd_inj] at hg3
        refine L_op (env' := uS8n41) rfl rfl (v_move (.inl rfl) rfl) rfl ?_
        refine L_op (env' := uS8n41) rfl rfl (v_move (.inl rfl) rfl) rfl ?_
        refine L_op (env' := uS8n41) rfl rfl (rfl) rfl ?_
        refine L_op (env' := uS8n41) rfl rfl (rfl) rfl ?_
        refine L_op (env' := uS8n41) rfl rfl (by first | exact v_loadF rfl rfl rfl rfl (by first | exact rget (by omega) | exact rget0 (by omega) | rfl | assumption) | exact v_load rfl rfl rfl rfl (by first | exact get_app rfl rfl | exact get_out (by assumption) | assumption | (simp [*]; done)) (by first | exact rget (by omega) | exact rget0 (by omega) | rfl | assumption)) rfl ?_
        refine L_op (env' := uS8n41) rfl rfl (rfl) rfl ?_
        refine L_op (env' := uS8n41) rfl rfl (v_pickT rfl rfl rfl) rfl ?_
        refine L_op (env' := uS8n41) rfl rfl (v_move (.inl rfl) rfl) rfl ?_
        refine L_split 29 (env1 := uS8n41) (env2 := uS8n41) rfl rfl rfl (fun hg4 => ?_) (fun hg4 => ?_)
        · try simp only [decide_eq_true_eq, decide_eq_false_iff_not, Bool.not_eq_true', Bool.not_eq_false', bne_iff_ne, beq_iff_eq, Bool.and_eq_true, Bool.or_eq_true, Bool.not_eq_true, ge_iff_le, gt_iff_lt, Int.not_le, Int.not_lt, beq_eq_false_iff_ne, bne_eq_false_iff_eq, ne_eq, Decidable.not_not, wd_zero, wd_one, wd_inj] at hg4
          refine L_op (env' := uS8n41) rfl rfl (v_move (.inl rfl) rfl) rfl ?_
          refine L_op (env' := uS8n41) rfl rfl (rfl) rfl ?_
          refine L_op (env' := uS8n41) rfl rfl (rfl) rfl ?_
          refine L_op (env' := uS8n41) rfl rfl (by first | exact v_loadF rfl rfl rfl rfl (by first | exact rget (by omega) | exact rget0 (by omega) | rfl | assumption) | exact v_load rfl rfl rfl rfl (by first | exact get_app rfl rfl | exact get_out (by assumption) | assumption | (simp [*]; done)) (by first | exact rget (by omega) | exact rget0 (by omega) | rfl | assumption)) rfl ?_
          refine L_op (env' := uS8n41) rfl rfl (v_move (.inl rfl) rfl) rfl ?_
          refine L_op (env' := uS8n41) rfl rfl (by first | exact v_idxF rfl rfl rfl rfl rfl rfl rfl (by first | assumption | omega | (simp [*]; done) | (simp at *; omega)) | exact v_idx rfl rfl rfl rfl rfl rfl rfl (by first | assumption | omega | (simp [*]; done) | (simp at *; omega))) rfl ?_
          refine L_op (env' := uS8n41) rfl rfl (by first | exact v_loadF rfl rfl rfl rfl (by first | exact rget (by omega) | exact rget0 (by omega) | rfl | assumption) | exact v_load rfl rfl rfl rfl (by first | exact get_app rfl rfl | exact get_out (by assumption) | assumption | (simp [*]; done)) (by first | exact rget (by omega) | exact rget0 (by omega) | rfl | assumption)) rfl ?_
          refine L_op (env' := uS8n41) rfl rfl (v_move (.inl rfl) rfl) rfl ?_
          refine L_op (env' := uS8n41) rfl rfl (by first | exact v_idxF rfl rfl rfl rfl rfl rfl rfl (by first | assumption | omega | (simp [*]; done) | (simp at *; omega)) | exact v_idx rfl rfl rfl rfl rfl rfl rfl (by first | assumption | omega | (simp [*]; done) | (simp at *; omega))) rfl ?_
          refine L_op (env' := uS8n41) rfl rfl (by first | exact v_loadF rfl rfl rfl rfl (by first | exact rget (by omega) | exact rget0 (by omega) | rfl | assumption) | exact v_load rfl rfl rfl rfl (by first | exact get_app rfl rfl | exact get_out (by assumption) | assumption | (simp [*]; done)) (by first | exact rget (by omega) | exact rget0 (by omega) | rfl | assumption)) rfl ?_
          refine L_op (env' := uS8n41) rfl rfl (v_pickT rfl rfl rfl) rfl ?_
          refine L_op (env' := uS8n41) rfl rfl (v_move (.inr rfl) rfl) rfl ?_
          refine L_nil ?_
          refine K_seq ?_
          refine B_ret ?_
          refine E_app (.inr rfl) (vres_tmp rfl rfl) (by first | exact BaseOk.refl _ | exact BaseOk.set (BaseOk.refl _) _ rfl) (by first | rfl | simp [VVal.under, VVal.underL, *]) ?_
          exact ⟨by first | (rw [bfr, decide_eq_true (by omega), decide_eq_true (by omega)]; rfl) | (rw [bfr, decide_eq_false (by omega)]; rfl) | (rw [bfr, decide_eq_false (p := 0 ≤ b ∧ b < (m : Int)) (by omega), Bool.false_and, Bool.and_false]), rfl⟩
        · try simp only [decide_eq_true_eq, decide_eq_false_iff_not, Bool.not_eq_true', Bool.not_eq_false', bne_iff_ne, beq_iff_eq, Bool.and_eq_true, Bool.or_eq_true, Bool.not_eq_true, ge_iff_le, gt_iff_lt, Int.not_le, Int.not_lt, beq_eq_false_iff_ne, bne_eq_false_iff_eq, ne_eq, Decidable.not_not, wd_zero, wd_one, wd_inj] at hg4
          refine L_off (env' := uS8n41) rfl rfl ?_
          refine L_off (env' := uS8n41) rfl rfl ?_
          refine L_off (env' := uS8n41) rfl rfl ?_
          refine L_off (env' := uS8n41) rfl rfl ?_
          refine L_off (env' := uS8n41) rfl rfl ?_
          refine L_off (env' := uS8n41) rfl rfl ?_
          refine L_off (env' := uS8n41) rfl rfl ?_
          refine L_off (env' := uS8n41) rfl rfl ?_
          refine L_off (env' := uS8n41) rfl rfl ?_
          refine L_off (env' := uS8n41) rfl rfl ?_
          refine L_op (env' := uS8n41) rfl rfl (v_pickFC (VVal.bool false) rfl rfl rfl) rfl ?_
          refine L_op (env' := uS8n41) rfl rfl (v_move (.inr rfl) rfl) rfl ?_
          refine L_nil ?_
          refine K_seq ?_
          refine B_ret ?_
          refine E_app (.inr rfl) (vres_tmp rfl rfl) (by first | exact BaseOk.refl _ | exact BaseOk.set (BaseOk.refl _) _ rfl) (by first | rfl | simp [VVal.under, VVal.underL, *]) ?_
          exact ⟨by first | (rw [bfr, decide_eq_true (by omega), decide_eq_true (by omega)]; rfl) | (rw [bfr, decide_eq_false (by omega)]; rfl) | (rw [bfr, decide_eq_false (p := 0 ≤ b ∧ b < (m : Int)) (by omega), Bool.false_and, Bool.and_false]), rfl⟩
      · try simp only [decide_eq_true_eq, decide_eq_false_iff_not, Bool.not_eq_true', Bool.not_eq_false', bne_iff_ne, beq_iff_eq, Bool.and_eq_true, Bool.or_eq_true, Bool.not_eq_true, ge_iff_le, gt_iff_lt, Int.not_le, Int.not_lt, beq_eq_false_iff_ne, bne_eq_false_iff_eq, ne_eq, Decidable.not_not, wd_zero, wd_one, wd_inj] at hg3
        refine L_off (env' := uS8n41) rfl rfl ?_
        refine L_off (env' := uS8n41) rfl rfl ?_
        refine L_off (env' := uS8n41) rfl rfl ?_
        refine L_off (env' := uS8n41) rfl rfl ?_
        refine L_off (env' := uS8n41) rfl rfl ?_
        refine L_off (env' := uS8n41) rfl rfl ?_
        refine L_op (env' := uS8n41) rfl rfl (v_pickFC (VVal.bool false) rfl rfl rfl) rfl ?_
        refine L_op (env' := uS8n41) rfl rfl (v_move (.inl rfl) rfl) rfl ?_
        refine L_off (env' := uS8n41) rfl rfl ?_
        refine L_off (env' := uS8n41) rfl rfl ?_
        refine L_off (env' := uS8n41) rfl rfl ?_
        refine L_off (env' := uS8n41) rfl rfl ?_
        refine L_off (env' := uS8n41) rfl rfl ?_
        refine L_off (env' := uS8n41) rfl rfl ?_
        refine L_off (env' := uS8n41) rfl rfl ?_
        refine L_off (env' := uS8n41) rfl rfl ?_
        refine L_off (env' := uS8n41) rfl rfl ?_
        refine L_off (env' := uS8n41) rfl rfl ?_
        refine L_op (env' := uS8n41) rfl rfl (v_pickFC (VVal.bool false) rfl rfl rfl) rfl ?_
        refine L_op (env' := uS8n41) rfl rfl (v_move (.inr rfl) rfl) rfl ?_
        refine L_nil ?_
        refine K_seq ?_
        refine B_ret ?_
        refine E_app (.inr rfl) (vres_tmp rfl rfl) (by first | exact BaseOk.refl _ | exact BaseOk.set (BaseOk.refl _) _ rfl) (by first | rfl | simp [VVal.under, VVal.underL, *]) ?_
        exact ⟨by first | (rw [bfr, decide_eq_true (by omega), decide_eq_true (by omega)]; rfl) | (rw [bfr, decide_eq_false (by omega)]; rfl) | (rw [bfr, decide_eq_false (p := 0 ≤ b ∧ b < (m : Int)) (by omega), Bool.false_and, Bool.and_false]), rfl⟩
    · try simp only [decide_eq_true_eq, decide_eq_false_iff_not, Bool.not_eq_true', Bool.not_eq_false', bne_iff_ne, beq_iff_eq, Bool.and_eq_true, Bool.or_eq_true, Bool.not_eq_true, ge_iff_le, gt_iff_lt, Int.not_le, Int.not_lt, beq_eq_false_iff_ne, bne_eq_false_iff_eq, ne_eq, Decidable.not_not, wd_zero, wd_one, wd_inj] at hg2
      refine L_off (env' := uS8n41) rfl rfl ?_
      refine L_off (env' := uS8n41) rfl rfl ?_
      refine L_off (env' := uS8n41) rfl rfl ?_
      refine L_off (env' := uS8n41) rfl rfl ?_
      refine L_off (env' := uS8n41) rfl rfl ?_
      refine L_off (env' := uS8n41) rfl rfl ?_
      refine L_op (env' := uS8n41) rfl rfl (v_pickFC (VVal.bool false) rfl rfl rfl) rfl ?_
      refine L_op (env' := uS8n41) rfl rfl (v_move (.inl rfl) rfl) rfl ?_
      refine L_off (env' := uS8n41) rfl rfl ?_
      refine L_off (env' := uS8n41) rfl rfl ?_
      refine L_off (env' := uS8n41) rfl rfl ?_
      refine L_off (env' := uS8n41) rfl rfl ?_
      refine L_off (env' := uS8n41) rfl rfl ?_
      refine L_off (env' := uS8n41) rfl rfl ?_
      refine L_op (env' := uS8n41) rfl rfl (v_pickFC (VVal.bool false) rfl rfl rfl) rfl ?_
      refine L_op (env' := uS8n41) rfl rfl (v_move (.inl rfl) rfl) rfl ?_
      refine L_off (env' := uS8n41) rfl rfl ?_
      refine L_off (env' := uS8n41) rfl rfl ?_
      refine L_off (env' := uS8n41) rfl rfl ?_
      refine L_off (env' := uS8n41) rfl rfl ?_
      refine L_off (env' := uS8n41) rfl rfl ?_
      refine L_off (env' := uS8n41) rfl rfl ?_
      refine L_off (env' := uS8n41) rfl rfl ?_
      refine L_off (env' := uS8n41) rfl rfl ?_
      refine L_off (env' := uS8n41) rfl rfl ?_
      refine L_off (env' := uS8n41) rfl rfl ?_
      refine L_op (env' := uS8n41) rfl rfl (v_pickFC (VVal.bool false) rfl rfl rfl) rfl ?_
      refine L_op (env' := uS8n41) rfl rfl (v_move (.inr rfl) rfl) rfl ?_
      refine L_nil ?_
      refine K_seq ?_
      refine B_ret ?_
      refine E_app (.inr rfl) (vres_tmp rfl rfl) (by first | exact BaseOk.refl _ | exact BaseOk.set (BaseOk.refl _) _ rfl) (by first | rfl | simp [VVal.under, VVal.underL, *]) ?_
      exact ⟨by first | (rw [bfr, decide_eq_true (by omega), decide_eq_true (by omega)]; rfl) | (rw [bfr, decide_eq_false (by omega)]; rfl) | (rw [bfr, decide_eq_false (p := 0 ≤ b ∧ b < (m : Int)) (by omega), Bool.false_and, Bool.and_false]), rfl⟩
  · try simp only [decide_eq_true_eq, decide_eq_false_iff_not, Bool.not_eq_true', Bool.not_eq_false', bne_iff_ne, beq_iff_eq, Bool.and_eq_true, Bool.or_eq_true, Bool.not_eq_true, ge_iff_le, gt_iff_lt, Int.not_le, Int.not_lt, beq_eq_false_iff_ne, bne_eq_false_iff_eq, ne_eq, Decidable.not_not, wd_zero, wd_one, wd_inj] at hg1
    refine L_off (env' := uS8n41) rfl rfl ?_
    refine L_off (env' := uS8n41) rfl rfl ?_
    refine L_op (env' := uS8n41) rfl rfl (v_pickFC (VVal.bool false) rfl rfl rfl) rfl ?_
    refine L_op (env' := uS8n41) rfl rfl (v_move (.inl rfl) rfl) rfl ?_
    refine L_off (env' := uS8n41) rfl rfl ?_
    refine L_off (env' := uS8n41) rfl rfl ?_
    refine L_off (env' := uS8n41) rfl rfl ?_
    refine L_off (env' := uS8n41) rfl rfl ?_
    refine L_off (env' := uS8n41) rfl rfl ?_
    refine L_off (env' := uS8n41) rfl rfl ?_
    refine L_op (env' := uS8n41) rfl rfl (v_pickFC (VVal.bool false) rfl rfl rfl) rfl ?_
    refine L_op (env' := uS8n41) rfl rfl (v_move (.inl rfl) rfl) rfl ?_
    refine L_off (env' := uS8n41) rfl rfl ?_
    refine L_off (env' := uS8n41) rfl rfl ?_
    refine L_off (env' := uS8n41) rfl rfl ?_
    refine L_off (env' := uS8n41) rfl rfl ?_
    refine L_off (env' := uS8n41) rfl rfl ?_
    refine L_off (env' := uS8n41) rfl rfl ?_
    refine L_op (env' := uS8n41) rfl rfl (v_pickFC (VVal.bool false) rfl rfl rfl) rfl ?_
    refine L_op (env' := uS8n41) rfl rfl (v_move (.inl rfl) rfl) rfl ?_
    refine L_off (env' := uS8n41) rfl rfl ?_
    refine L_off (env' := uS8n41) rfl rfl ?_
    refine L_off (env' := uS8n41) rfl rfl ?_
    refine L_off (env' := uS8n41) rfl rfl ?_
    refine L_off (env' := uS8n41) rfl rfl ?_
    refine L_off (env' := uS8n41) rfl rfl ?_
    refine L_off (env' := uS8n41) rfl rfl ?_
    refine L_off (env' := uS8n41) rfl rfl ?_
    refine L_off (env' := uS8n41) rfl rfl ?_
    refine L_off (env' := uS8n41) rfl rfl ?_
    refine L_op (env' := uS8n41) rfl rfl (v_pickFC (VVal.bool false) rfl rfl rfl) rfl ?_
    refine L_op (env' := uS8n41) rfl rfl (v_move (.inr rfl) rfl) rfl ?_
    refine L_nil ?_
    refine K_seq ?_
    refine B_ret ?_
    refine E_app (.inr rfl) (vres_tmp rfl rfl) (by first | exact BaseOk.refl _ | exact BaseOk.set (BaseOk.refl _) _ rfl) (by first | rfl | simp [VVal.under, VVal.underL, *]) ?_
    exact ⟨by first | (rw [bfr, decide_eq_true (by omega), decide_eq_true (by omega)]; rfl) | (rw [bfr, decide_eq_false (by omega)]; rfl) | (rw [bfr, decide_eq_false (p := 0 ≤ b ∧ b < (m : Int)) (by omega), Bool.false_and, Bool.and_false]), rfl⟩

theorem refPreds_spec {x : SW} (H : VHeap) (m : Nat) (R : Nat → Nat → Bool) (hm : m ≤ 64) (a : Int) : F (psys x) 38 [refV m R, iI a] H fun v G => v = iW (prW m R a) ∧ G = H := by
  refine F_body Tryd.func38 rfl uS8n24 rfl ?_
  refine B_seq ?_
  refine B_region ?_
  refine L_op (env' := uS8n24) rfl rfl (v_const (VVal.int .u64 0) (.inr rfl) rfl) rfl ?_
  refine L_nil ?_
  refine K_seq ?_
  refine B_seq ?_
  refine B_region ?_
  refine L_op (env' := uS8n24) rfl rfl (v_const (VVal.int .u64 0) (.inr rfl) rfl) rfl ?_
  refine L_nil ?_
  refine K_seq ?_
  refine B_seq ?_
  refine B_seq ?_
  refine B_region ?_
  refine L_op (env' := uS8n24) rfl rfl (v_const (VVal.int .i64 0) (.inr rfl) rfl) rfl ?_
  refine L_nil ?_
  refine K_seq ?_
  refine B_block ?_
  refine B_clear [false,false,true,true,true,false,false,true,true,true,true,true,true,true,true,true,true,true,true,true,true,true,true,true] (env' := uS8n24) rfl ?_
  refine B_loopE (fun (k : Nat) => m - k) (fun (k : Nat) => [(5, iW (wdP (fun i => bfr m R i a) k)), (6, iI (k : Nat))]) (fun (k : Nat) G => (k ≤ m) ∧ G = H ++ []) 0 (by rw [wdP_0]; rfl) ?_ ?_
  · refine ⟨?_, rfl⟩
    exact Nat.zero_le _
  rintro k _ ⟨hk, rfl⟩
  refine B_env (env' := uS8n24) rfl ?_
  refine B_seq ?_
  refine B_seq ?_
  refine B_region ?_
  refine L_op (env' := uS8n24) rfl rfl (v_move (.inl rfl) rfl) rfl ?_
  refine L_op (env' := uS8n24) rfl rfl (v_move (.inl rfl) rfl) rfl ?_
  refine L_op (env' := uS8n24) rfl rfl (rfl) rfl ?_
  refine L_op (env' := uS8n24) rfl rfl (rfl) rfl ?_
  refine L_op (env' := uS8n24) rfl rfl (by first | exact v_loadF rfl rfl rfl rfl (by first | exact rget (by omega) | exact rget0 (by omega) | rfl | assumption) | exact v_load rfl rfl rfl rfl (by first | exact get_app rfl rfl | exact get_out (by assumption) | assumption | (simp [*]; done)) (by first | exact rget (by omega) | exact rget0 (by omega) | rfl | assumption)) rfl ?_
  refine L_op (env' := uS8n24) rfl rfl (rfl) rfl ?_
  refine L_nil ?_
  refine K_seq ?_
  refine B_cond _ rfl (fun hc1 => ?_) (fun hc1 => ?_)
  · try simp only [decide_eq_true_eq, decide_eq_false_iff_not, Bool.not_eq_true', Bool.not_eq_false', bne_iff_ne, beq_iff_eq, Bool.and_eq_true, Bool.or_eq_true, Bool.not_eq_true, ge_iff_le, gt_iff_lt, Int.not_le, Int.not_lt, beq_eq_false_iff_ne, bne_eq_false_iff_eq, ne_eq, Decidable.not_not, wd_zero, wd_one, wd_inj] at hc1
    refine B_skip ?_
    refine K_seq ?_
    refine B_seq ?_
    refine B_block ?_
    refine B_seq ?_
    refine B_region ?_
    refine L_op (env' := uS8n24) rfl rfl (v_move (.inl rfl) rfl) rfl ?_
    refine L_op (env' := uS8n24) rfl rfl (v_move (.inl rfl) rfl) rfl ?_
    refine L_op (env' := uS8n24) rfl rfl (v_move (.inl rfl) rfl) rfl ?_
    refine L_call rfl rfl rfl (by exact refBefore_spec _ _ _ _ _) ?_
    rintro _ _ ⟨rfl, rfl⟩
    refine L_env (env' := uS8n24) rfl ?_
    refine L_nil ?_
    refine K_seq ?_
    refine B_cond _ rfl (fun hc2 => ?_) (fun hc2 => ?_)
    · try simp only [decide_eq_true_eq, decide_eq_false_iff_not, Bool.not_eq_true', Bool.not_eq_false', bne_iff_ne, beq_iff_eq, Bool.and_eq_true, Bool.or_eq_true, Bool.not_eq_true, ge_iff_le, gt_iff_lt, Int.not_le, Int.not_lt, beq_eq_false_iff_ne, bne_eq_false_iff_eq, ne_eq, Decidable.not_not, wd_zero, wd_one, wd_inj] at hc2
      refine B_region ?_
      refine L_op (env' := uS8n24) rfl rfl (v_move (.inl rfl) rfl) rfl ?_
      refine L_op (env' := uS8n24) rfl rfl (v_move (.inl rfl) rfl) rfl ?_
      refine L_op (env' := uS8n24) rfl rfl (v_shl1 rfl rfl rfl (by first | assumption | omega | (simp [*]; done) | (simp at *; omega))) rfl ?_
      refine L_op (env' := uS8n24) rfl rfl (v_orW rfl rfl rfl) rfl ?_
      refine L_op (env' := uS8n24) rfl rfl (v_move (.inr rfl) rfl) rfl ?_
      refine L_nil ?_
      refine K_blk ?_
      refine K_seq ?_
      refine B_region ?_
      refine L_op (env' := uS8n24) rfl rfl (v_move (.inl rfl) rfl) rfl ?_
      refine L_op (env' := uS8n24) rfl rfl (v_addI rfl rfl rfl (by first | assumption | omega | (simp [*]; done) | (simp at *; omega))) rfl ?_
      refine L_op (env' := uS8n24) rfl rfl (v_move (.inr rfl) rfl) rfl ?_
      refine L_nil ?_
      first
        | (have hE : wdP (fun i => bfr m R i a) k ||| 1#64 <<< (k : Int).toNat = wdP (fun i => bfr m R i a) (k + 1) := wdP_yes (P := fun i => bfr m R i a) (by assumption)); rw [hE]
        | (have hE : wdP (fun i => bfr m R i a) k = wdP (fun i => bfr m R i a) (k + 1) := wdP_no (P := fun i => bfr m R i a) (by assumption)); rw [hE]
      refine K_loop [false,false,true,true,true,false,false,true,true,true,true,true,true,true,true,true,true,true,true,true,true,true,true,true] (env' := uS8n24) rfl ⟨k + 1, ?_, rfl, ?_⟩
      · first | omega | (simp only []; omega)
      · exact ⟨by omega, rfl⟩
    · try simp only [decide_eq_true_eq, decide_eq_false_iff_not, Bool.not_eq_true', Bool.not_eq_false', bne_iff_ne, beq_iff_eq, Bool.and_eq_true, Bool.or_eq_true, Bool.not_eq_true, ge_iff_le, gt_iff_lt, Int.not_le, Int.not_lt, beq_eq_false_iff_ne, bne_eq_false_iff_eq, ne_eq, Decidable.not_not, wd_zero, wd_one, wd_inj] at hc2
      refine B_skip ?_
      refine K_blk ?_
      refine K_seq ?_
      refine B_region ?_
      refine L_op (env' := uS8n24) rfl rfl (v_move (.inl rfl) rfl) rfl ?_
      refine L_op (env' := uS8n24) rfl rfl (v_addI rfl rfl rfl (by first | assumption | omega | (simp [*]; done) | (simp at *; omega))) rfl ?_
      refine L_op (env' := uS8n24) rfl rfl (v_move (.inr rfl) rfl) rfl ?_
      refine L_nil ?_
      first
        | (have hE : wdP (fun i => bfr m R i a) k ||| 1#64 <<< (k : Int).toNat = wdP (fun i => bfr m R i a) (k + 1) := wdP_yes (P := fun i => bfr m R i a) (by assumption)); rw [hE]
        | (have hE : wdP (fun i => bfr m R i a) k = wdP (fun i => bfr m R i a) (k + 1) := wdP_no (P := fun i => bfr m R i a) (by assumption)); rw [hE]
      refine K_loop [false,false,true,true,true,false,false,true,true,true,true,true,true,true,true,true,true,true,true,true,true,true,true,true] (env' := uS8n24) rfl ⟨k + 1, ?_, rfl, ?_⟩
      · first | omega | (simp only []; omega)
      · exact ⟨by omega, rfl⟩
  · try simp only [decide_eq_true_eq, decide_eq_false_iff_not, Bool.not_eq_true', Bool.not_eq_false', bne_iff_ne, beq_iff_eq, Bool.and_eq_true, Bool.or_eq_true, Bool.not_eq_true, ge_iff_le, gt_iff_lt, Int.not_le, Int.not_lt, beq_eq_false_iff_ne, bne_eq_false_iff_eq, ne_eq, Decidable.not_not, wd_zero, wd_one, wd_inj] at hc1
    refine B_exit ?_
    refine K_seqX ?_
    refine K_loopX ?_
    refine K_blkX ?_
    refine K_seq ?_
    refine B_seq ?_
    refine B_region ?_
    refine L_op (env' := uS8n24) rfl rfl (v_move (.inl rfl) rfl) rfl ?_
    refine L_op (env' := uS8n24) rfl rfl (v_move (.inr rfl) rfl) rfl ?_
    refine L_nil ?_
    refine K_seq ?_
    refine B_ret ?_
    refine E_app (.inr rfl) (vres_tmp rfl rfl) (by first | exact BaseOk.refl _ | exact BaseOk.set (BaseOk.refl _) _ rfl) (by first | rfl | simp [VVal.under, VVal.underL, *]) ?_
    obtain rfl : k = m := by omega
    exact ⟨rfl, rfl⟩

theorem refSuccs_spec {x : SW} (H : VHeap) (m : Nat) (R : Nat → Nat → Bool) (hm : m ≤ 64) (a : Int) : F (psys x) 39 [refV m R, iI a] H fun v G => v = iW (suW m R a) ∧ G = H := by
  refine F_body Tryd.func39 rfl uS8n24 rfl ?_
  refine B_seq ?_
  refine B_region ?_
  refine L_op (env' := uS8n24) rfl rfl (v_const (VVal.int .u64 0) (.inr rfl) rfl) rfl ?_
  refine L_nil ?_
  refine K_seq ?_
  refine B_seq ?_
  refine B_region ?_
  refine L_op (env' := uS8n24) rfl rfl (v_const (VVal.int .u64 0) (.inr rfl) rfl) rfl ?_
  refine L_nil ?_
  refine K_seq ?_
  refine B_seq ?_
  refine B_seq ?_
  refine B_region ?_
  refine L_op (env' := uS8n24) rfl rfl (v_const (VVal.int .i64 0) (.inr rfl) rfl) rfl ?_
  refine L_nil ?_
  refine K_seq ?_
  refine B_block ?_
  refine B_clear [false,false,true,true,true,false,false,true,true,true,true,true,true,true,true,true,true,true,true,true,true,true,true,true] (env' := uS8n24) rfl ?_
  refine B_loopE (fun (k : Nat) => m - k) (fun (k : Nat) => [(5, iW (wdP (fun i => bfr m R a i) k)), (6, iI (k : Nat))]) (fun (k : Nat) G => (k ≤ m) ∧ G = H ++ []) 0 (by rw [wdP_0]; rfl) ?_ ?_
  · refine ⟨?_, rfl⟩
    exact Nat.zero_le _
  rintro k _ ⟨hk, rfl⟩
  refine B_env (env' := uS8n24) rfl ?_
  refine B_seq ?_
  refine B_seq ?_
  refine B_region ?_
  refine L_op (env' := uS8n24) rfl rfl (v_move (.inl rfl) rfl) rfl ?_
  refine L_op (env' := uS8n24) rfl rfl (v_move (.inl rfl) rfl) rfl ?_
  refine L_op (env' := uS8n24) rfl rfl (rfl) rfl ?_
  refine L_op (env' := uS8n24) rfl rfl (rfl) rfl ?_
  refine L_op (env' := uS8n24) rfl rfl (by first | exact v_loadF rfl rfl rfl rfl (by first | exact rget (by omega) | exact rget0 (by omega) | rfl | assumption) | exact v_load rfl rfl rfl rfl (by first | exact get_app rfl rfl | exact get_out (by assumption) | assumption | (simp [*]; done)) (by first | exact rget (by omega) | exact rget0 (by omega) | rfl | assumption)) rfl ?_
  refine L_op (env' := uS8n24) rfl rfl (rfl) rfl ?_
  refine L_nil ?_
  refine K_seq ?_
  refine B_cond _ rfl (fun hc1 => ?_) (fun hc1 => ?_)
  · try simp only [decide_eq_true_eq, decide_eq_false_iff_not, Bool.not_eq_true', Bool.not_eq_false', bne_iff_ne, beq_iff_eq, Bool.and_eq_true, Bool.or_eq_true, Bool.not_eq_true, ge_iff_le, gt_iff_lt, Int.not_le, Int.not_lt, beq_eq_false_iff_ne, bne_eq_false_iff_eq, ne_eq, Decidable.not_not, wd_zero, wd_one, wd_inj] at hc1
    refine B_skip ?_
    refine K_seq ?_
    refine B_seq ?_
    refine B_block ?_
    refine B_seq ?_
    refine B_region ?_
    refine L_op (env' := uS8n24) rfl rfl (v_move (.inl rfl) rfl) rfl ?_
    refine L_op (env' := uS8n24) rfl rfl (v_move (.inl rfl) rfl) rfl ?_
    refine L_op (env' := uS8n24) rfl rfl (v_move (.inl rfl) rfl) rfl ?_
    refine L_call rfl rfl rfl (by exact refBefore_spec _ _ _ _ _) ?_
    rintro _ _ ⟨rfl, rfl⟩
    refine L_env (env' := uS8n24) rfl ?_
    refine L_nil ?_
    refine K_seq ?_
    refine B_cond _ rfl (fun hc2 => ?_) (fun hc2 => ?_)
    · try simp only [decide_eq_true_eq, decide_eq_false_iff_not, Bool.not_eq_true', Bool.not_eq_false', bne_iff_ne, beq_iff_eq, Bool.and_eq_true, Bool.or_eq_true, Bool.not_eq_true, ge_iff_le, gt_iff_lt, Int.not_le, Int.not_lt, beq_eq_false_iff_ne, bne_eq_false_iff_eq, ne_eq, Decidable.not_not, wd_zero, wd_one, wd_inj] at hc2
      refine B_region ?_
      refine L_op (env' := uS8n24) rfl rfl (v_move (.inl rfl) rfl) rfl ?_
      refine L_op (env' := uS8n24) rfl rfl (v_move (.inl rfl) rfl) rfl ?_
      refine L_op (env' := uS8n24) rfl rfl (v_shl1 rfl rfl rfl (by first | assumption | omega | (simp [*]; done) | (simp at *; omega))) rfl ?_
      refine L_op (env' := uS8n24) rfl rfl (v_orW rfl rfl rfl) rfl ?_
      refine L_op (env' := uS8n24) rfl rfl (v_move (.inr rfl) rfl) rfl ?_
      refine L_nil ?_
      refine K_blk ?_
      refine K_seq ?_
      refine B_region ?_
      refine L_op (env' := uS8n24) rfl rfl (v_move (.inl rfl) rfl) rfl ?_
      refine L_op (env' := uS8n24) rfl rfl (v_addI rfl rfl rfl (by first | assumption | omega | (simp [*]; done) | (simp at *; omega))) rfl ?_
      refine L_op (env' := uS8n24) rfl rfl (v_move (.inr rfl) rfl) rfl ?_
      refine L_nil ?_
      first
        | (have hE : wdP (fun i => bfr m R a i) k ||| 1#64 <<< (k : Int).toNat = wdP (fun i => bfr m R a i) (k + 1) := wdP_yes (P := fun i => bfr m R a i) (by assumption)); rw [hE]
        | (have hE : wdP (fun i => bfr m R a i) k = wdP (fun i => bfr m R a i) (k + 1) := wdP_no (P := fun i => bfr m R a i) (by assumption)); rw [hE]
      refine K_loop [false,false,true,true,true,false,false,true,true,true,true,true,true,true,true,true,true,true,true,true,true,true,true,true] (env' := uS8n24) rfl ⟨k + 1, ?_, rfl, ?_⟩
      · first | omega | (simp only []; omega)
      · exact ⟨by omega, rfl⟩
    · try simp only [decide_eq_true_eq, decide_eq_false_iff_not, Bool.not_eq_true', Bool.not_eq_false', bne_iff_ne, beq_iff_eq, Bool.and_eq_true, Bool.or_eq_true, Bool.not_eq_true, ge_iff_le, gt_iff_lt, Int.not_le, Int.not_lt, beq_eq_false_iff_ne, bne_eq_false_iff_eq, ne_eq, Decidable.not_not, wd_zero, wd_one, wd_inj] at hc2
      refine B_skip ?_
      refine K_blk ?_
      refine K_seq ?_
      refine B_region ?_
      refine L_op (env' := uS8n24) rfl rfl (v_move (.inl rfl) rfl) rfl ?_
      refine L_op (env' := uS8n24) rfl rfl (v_addI rfl rfl rfl (by first | assumption | omega | (simp [*]; done) | (simp at *; omega))) rfl ?_
      refine L_op (env' := uS8n24) rfl rfl (v_move (.inr rfl) rfl) rfl ?_
      refine L_nil ?_
      first
        | (have hE : wdP (fun i => bfr m R a i) k ||| 1#64 <<< (k : Int).toNat = wdP (fun i => bfr m R a i) (k + 1) := wdP_yes (P := fun i => bfr m R a i) (by assumption)); rw [hE]
        | (have hE : wdP (fun i => bfr m R a i) k = wdP (fun i => bfr m R a i) (k + 1) := wdP_no (P := fun i => bfr m R a i) (by assumption)); rw [hE]
      refine K_loop [false,false,true,true,true,false,false,true,true,true,true,true,true,true,true,true,true,true,true,true,true,true,true,true] (env' := uS8n24) rfl ⟨k + 1, ?_, rfl, ?_⟩
      · first | omega | (simp only []; omega)
      · exact ⟨by omega, rfl⟩
  · try simp only [decide_eq_true_eq, decide_eq_false_iff_not, Bool.not_eq_true', Bool.not_eq_false', bne_iff_ne, beq_iff_eq, Bool.and_eq_true, Bool.or_eq_true, Bool.not_eq_true, ge_iff_le, gt_iff_lt, Int.not_le, Int.not_lt, beq_eq_false_iff_ne, bne_eq_false_iff_eq, ne_eq, Decidable.not_not, wd_zero, wd_one, wd_inj] at hc1
    refine B_exit ?_
    refine K_seqX ?_
    refine K_loopX ?_
    refine K_blkX ?_
    refine K_seq ?_
    refine B_seq ?_
    refine B_region ?_
    refine L_op (env' := uS8n24) rfl rfl (v_move (.inl rfl) rfl) rfl ?_
    refine L_op (env' := uS8n24) rfl rfl (v_move (.inr rfl) rfl) rfl ?_
    refine L_nil ?_
    refine K_seq ?_
    refine B_ret ?_
    refine E_app (.inr rfl) (vres_tmp rfl rfl) (by first | exact BaseOk.refl _ | exact BaseOk.set (BaseOk.refl _) _ rfl) (by first | rfl | simp [VVal.under, VVal.underL, *]) ?_
    obtain rfl : k = m := by omega
    exact ⟨rfl, rfl⟩

theorem refReady_spec {x : SW} (H : VHeap) (m : Nat) (R : Nat → Nat → Bool) (hm : m ≤ 64) (d : BitVec 64) : F (psys x) 40 [refV m R, iW d] H fun v G => v = iW (rdW m R d) ∧ G = H := by
  refine F_body Tryd.func40 rfl uS8n33 rfl ?_
  refine B_seq ?_
  refine B_region ?_
  refine L_op (env' := uS8n33) rfl rfl (v_const (VVal.int .u64 0) (.inr rfl) rfl) rfl ?_
  refine L_nil ?_
  refine K_seq ?_
  refine B_seq ?_
  refine B_region ?_
  refine L_op (env' := uS8n33) rfl rfl (v_const (VVal.int .u64 0) (.inr rfl) rfl) rfl ?_
  refine L_nil ?_
  refine K_seq ?_
  refine B_seq ?_
  refine B_seq ?_
  refine B_region ?_
  refine L_op (env' := uS8n33) rfl rfl (v_const (VVal.int .i64 0) (.inr rfl) rfl) rfl ?_
  refine L_nil ?_
  refine K_seq ?_
  refine B_block ?_
  refine B_clear [false,false,true,true,true,false,false,true,true,true,true,true,true,true,true,true,true,true,true,true,true,true,true,true,true,true,true,true,true,true,true,true,true] (env' := uS8n33) rfl ?_
  refine B_loopE (fun (k : Nat) => m - k) (fun (k : Nat) => [(5, iW (wdP (rdP m R d) k)), (6, iI (k : Nat))]) (fun (k : Nat) G => (k ≤ m) ∧ G = H ++ []) 0 (by rw [wdP_0]; rfl) ?_ ?_
  · refine ⟨?_, rfl⟩
    exact Nat.zero_le _
  rintro k _ ⟨hk, rfl⟩
  refine B_env (env' := uS8n33) rfl ?_
  refine B_seq ?_
  refine B_seq ?_
  refine B_region ?_
  refine L_op (env' := uS8n33) rfl rfl (v_move (.inl rfl) rfl) rfl ?_
  refine L_op (env' := uS8n33) rfl rfl (v_move (.inl rfl) rfl) rfl ?_
  refine L_op (env' := uS8n33) rfl rfl (rfl) rfl ?_
  refine L_op (env' := uS8n33) rfl rfl (rfl) rfl ?_
  refine L_op (env' := uS8n33) rfl rfl (by first | exact v_loadF rfl rfl rfl rfl (by first | exact rget (by omega) | exact rget0 (by omega) | rfl | assumption) | exact v_load rfl rfl rfl rfl (by first | exact get_app rfl rfl | exact get_out (by assumption) | assumption | (simp [*]; done)) (by first | exact rget (by omega) | exact rget0 (by omega) | rfl | assumption)) rfl ?_
  refine L_op (env' := uS8n33) rfl rfl (rfl) rfl ?_
  refine L_nil ?_
  refine K_seq ?_
  refine B_cond _ rfl (fun hc1 => ?_) (fun hc1 => ?_)
  · try simp only [decide_eq_true_eq, decide_eq_false_iff_not, Bool.not_eq_true', Bool.not_eq_false', bne_iff_ne, beq_iff_eq, Bool.and_eq_true, Bool.or_eq_true, Bool.not_eq_true, ge_iff_le, gt_iff_lt, Int.not_le, Int.not_lt, beq_eq_false_iff_ne, bne_eq_false_iff_eq, ne_eq, Decidable.not_not, wd_zero, wd_one, wd_inj] at hc1
    refine B_skip ?_
    refine K_seq ?_
    refine B_seq ?_
    refine B_block ?_
    refine B_seq ?_
    refine B_region ?_
    refine L_op (env' := uS8n33) rfl rfl (v_move (.inl rfl) rfl) rfl ?_
    refine L_op (env' := uS8n33) rfl rfl (v_move (.inl rfl) rfl) rfl ?_
    refine L_op (env' := uS8n33) rfl rfl (v_shrW rfl rfl rfl (by first | assumption | omega | (simp [*]; done) | (simp at *; omega))) rfl ?_
    refine L_op (env' := uS8n33) rfl rfl (v_andW (b := 1#64) rfl rfl rfl) rfl ?_
    refine L_op (env' := uS8n33) rfl rfl (rfl) rfl ?_
    refine L_op (env' := uS8n33) rfl rfl (v_move (.inl rfl) rfl) rfl ?_
    refine L_split 20 (env1 := uS8n33) (env2 := uS8n33) rfl rfl rfl (fun hg2 => ?_) (fun hg2 => ?_)
    · try simp only [decide_eq_true_eq, decide_eq_false_iff_not, Bool.not_eq_true', Bool.not_eq_false', bne_iff_ne, beq_iff_eq, Bool.and_eq_true, Bool.or_eq_true, Bool.not_eq_true, ge_iff_le, gt_iff_lt, Int.not_le, Int.not_lt, beq_eq_false_iff_ne, bne_eq_false_iff_eq, ne_eq, Decidable.not_not, wd_zero, wd_one, wd_inj] at hg2
      refine L_op (env' := uS8n33) rfl rfl (v_move (.inl rfl) rfl) rfl ?_
      refine L_op (env' := uS8n33) rfl rfl (v_move (.inl rfl) rfl) rfl ?_
      refine L_call rfl rfl rfl (by exact refPreds_spec _ _ _ hm _) ?_
      rintro _ _ ⟨rfl, rfl⟩
      refine L_env (env' := uS8n33) rfl ?_
      refine L_op (env' := uS8n33) rfl rfl (v_move (.inl rfl) rfl) rfl ?_
      refine L_op (env' := uS8n33) rfl rfl (v_andNotW rfl rfl rfl) rfl ?_
      refine L_op (env' := uS8n33) rfl rfl (rfl) rfl ?_
      refine L_op (env' := uS8n33) rfl rfl (v_pickT rfl rfl rfl) rfl ?_
      refine L_nil ?_
      refine K_seq ?_
      refine B_cond _ rfl (fun hc3 => ?_) (fun hc3 => ?_)
      · try simp only [decide_eq_true_eq, decide_eq_false_iff_not, Bool.not_eq_true', Bool.not_eq_false', bne_iff_ne, beq_iff_eq, Bool.and_eq_true, Bool.or_eq_true, Bool.not_eq_true, ge_iff_le, gt_iff_lt, Int.not_le, Int.not_lt, beq_eq_false_iff_ne, bne_eq_false_iff_eq, ne_eq, Decidable.not_not, wd_zero, wd_one, wd_inj] at hc3
        refine B_region ?_
        refine L_op (env' := uS8n33) rfl rfl (v_move (.inl rfl) rfl) rfl ?_
        refine L_op (env' := uS8n33) rfl rfl (v_move (.inl rfl) rfl) rfl ?_
        refine L_op (env' := uS8n33) rfl rfl (v_shl1 rfl rfl rfl (by first | assumption | omega | (simp [*]; done) | (simp at *; omega))) rfl ?_
        refine L_op (env' := uS8n33) rfl rfl (v_orW rfl rfl rfl) rfl ?_
        refine L_op (env' := uS8n33) rfl rfl (v_move (.inr rfl) rfl) rfl ?_
        refine L_nil ?_
        refine K_blk ?_
        refine K_seq ?_
        refine B_region ?_
        refine L_op (env' := uS8n33) rfl rfl (v_move (.inl rfl) rfl) rfl ?_
        refine L_op (env' := uS8n33) rfl rfl (v_addI rfl rfl rfl (by first | assumption | omega | (simp [*]; done) | (simp at *; omega))) rfl ?_
        refine L_op (env' := uS8n33) rfl rfl (v_move (.inr rfl) rfl) rfl ?_
        refine L_nil ?_
        first
          | (have hE : wdP (rdP m R d) k ||| 1#64 <<< (k : Int).toNat = wdP (rdP m R d) (k + 1) := wdP_yes (rdP_yes (by assumption) (by assumption))); rw [hE]
          | (have hE : wdP (rdP m R d) k = wdP (rdP m R d) (k + 1) := wdP_no (rdP_no1 (by assumption))); rw [hE]
          | (have hE : wdP (rdP m R d) k = wdP (rdP m R d) (k + 1) := wdP_no (rdP_no2 (by assumption))); rw [hE]
        refine K_loop [false,false,true,true,true,false,false,true,true,true,true,true,true,true,true,true,true,true,true,true,true,true,true,true,true,true,true,true,true,true,true,true,true] (env' := uS8n33) rfl ⟨k + 1, ?_, rfl, ?_⟩
        · first | omega | (simp only []; omega)
        · exact ⟨by omega, rfl⟩
      · try simp only [decide_eq_true_eq, decide_eq_false_iff_not, Bool.not_eq_true', Bool.not_eq_false', bne_iff_ne, beq_iff_eq, Bool.and_eq_true, Bool.or_eq_true, Bool.not_eq_true, ge_iff_le, gt_iff_lt, Int.not_le, Int.not_lt, beq_eq_false_iff_ne, bne_eq_false_iff_eq, ne_eq, Decidable.not_not, wd_zero, wd_one, wd_inj] at hc3
        refine B_skip ?_
        refine K_blk ?_
        refine K_seq ?_
        refine B_region ?_
        refine L_op (env' := uS8n33) rfl rfl (v_move (.inl rfl) rfl) rfl ?_
        refine L_op (env' := uS8n33) rfl rfl (v_addI rfl rfl rfl (by first | assumption | omega | (simp [*]; done) | (simp at *; omega))) rfl ?_
        refine L_op (env' := uS8n33) rfl rfl (v_move (.inr rfl) rfl) rfl ?_
        refine L_nil ?_
        first
          | (have hE : wdP (rdP m R d) k ||| 1#64 <<< (k : Int).toNat = wdP (rdP m R d) (k + 1) := wdP_yes (rdP_yes (by assumption) (by assumption))); rw [hE]
          | (have hE : wdP (rdP m R d) k = wdP (rdP m R d) (k + 1) := wdP_no (rdP_no1 (by assumption))); rw [hE]
          | (have hE : wdP (rdP m R d) k = wdP (rdP m R d) (k + 1) := wdP_no (rdP_no2 (by assumption))); rw [hE]
        refine K_loop [false,false,true,true,true,false,false,true,true,true,true,true,true,true,true,true,true,true,true,true,true,true,true,true,true,true,true,true,true,true,true,true,true] (env' := uS8n33) rfl ⟨k + 1, ?_, rfl, ?_⟩
        · first | omega | (simp only []; omega)
        · exact ⟨by omega, rfl⟩
    · try simp only [decide_eq_true_eq, decide_eq_false_iff_not, Bool.not_eq_true', Bool.not_eq_false', bne_iff_ne, beq_iff_eq, Bool.and_eq_true, Bool.or_eq_true, Bool.not_eq_true, ge_iff_le, gt_iff_lt, Int.not_le, Int.not_lt, beq_eq_false_iff_ne, bne_eq_false_iff_eq, ne_eq, Decidable.not_not, wd_zero, wd_one, wd_inj] at hg2
      refine L_off (env' := uS8n33) rfl rfl ?_
      refine L_off (env' := uS8n33) rfl rfl ?_
      refine L_off (env' := uS8n33) rfl rfl ?_
      refine L_off (env' := uS8n33) rfl rfl ?_
      refine L_off (env' := uS8n33) rfl rfl ?_
      refine L_off (env' := uS8n33) rfl rfl ?_
      refine L_op (env' := uS8n33) rfl rfl (v_pickFC (VVal.bool false) rfl rfl rfl) rfl ?_
      refine L_nil ?_
      refine K_seq ?_
      refine B_false rfl rfl ?_
      refine B_skip ?_
      refine K_blk ?_
      refine K_seq ?_
      refine B_region ?_
      refine L_op (env' := uS8n33) rfl rfl (v_move (.inl rfl) rfl) rfl ?_
      refine L_op (env' := uS8n33) rfl rfl (v_addI rfl rfl rfl (by first | assumption | omega | (simp [*]; done) | (simp at *; omega))) rfl ?_
      refine L_op (env' := uS8n33) rfl rfl (v_move (.inr rfl) rfl) rfl ?_
      refine L_nil ?_
      first
        | (have hE : wdP (rdP m R d) k ||| 1#64 <<< (k : Int).toNat = wdP (rdP m R d) (k + 1) := wdP_yes (rdP_yes (by assumption) (by assumption))); rw [hE]
        | (have hE : wdP (rdP m R d) k = wdP (rdP m R d) (k + 1) := wdP_no (rdP_no1 (by assumption))); rw [hE]
        | (have hE : wdP (rdP m R d) k = wdP (rdP m R d) (k + 1) := wdP_no (rdP_no2 (by assumption))); rw [hE]
      refine K_loop [false,false,true,true,true,false,false,true,true,true,true,true,true,true,true,true,true,true,true,true,true,true,true,true,true,true,true,true,true,true,true,true,true] (env' := uS8n33) rfl ⟨k + 1, ?_, rfl, ?_⟩
      · first | omega | (simp only []; omega)
      · exact ⟨by omega, rfl⟩
  · try simp only [decide_eq_true_eq, decide_eq_false_iff_not, Bool.not_eq_true', Bool.not_eq_false', bne_iff_ne, beq_iff_eq, Bool.and_eq_true, Bool.or_eq_true, Bool.not_eq_true, ge_iff_le, gt_iff_lt, Int.not_le, Int.not_lt, beq_eq_false_iff_ne, bne_eq_false_iff_eq, ne_eq, Decidable.not_not, wd_zero, wd_one, wd_inj] at hc1
    refine B_exit ?_
    refine K_seqX ?_
    refine K_loopX ?_
    refine K_blkX ?_
    refine K_seq ?_
    refine B_seq ?_
    refine B_region ?_
    refine L_op (env' := uS8n33) rfl rfl (v_move (.inl rfl) rfl) rfl ?_
    refine L_op (env' := uS8n33) rfl rfl (v_move (.inr rfl) rfl) rfl ?_
    refine L_nil ?_
    refine K_seq ?_
    refine B_ret ?_
    refine E_app (.inr rfl) (vres_tmp rfl rfl) (by first | exact BaseOk.refl _ | exact BaseOk.set (BaseOk.refl _) _ rfl) (by first | rfl | simp [VVal.under, VVal.underL, *]) ?_
    obtain rfl : k = m := by omega
    exact ⟨rfl, rfl⟩

theorem refDown_spec {x : SW} (H : VHeap) (m : Nat) (R : Nat → Nat → Bool) (hm : m ≤ 64) (d : BitVec 64) : F (psys x) 21 [refV m R, iW d] H fun v G => v = .bool (dnW m R d) ∧ G = H := by
  refine F_body Tryd.func21 rfl uS8n31 rfl ?_
  refine B_seq ?_
  refine B_region ?_
  refine L_op (env' := uS8n31) rfl rfl (v_const (VVal.bool false) (.inr rfl) rfl) rfl ?_
  refine L_nil ?_
  refine K_seq ?_
  refine B_seq ?_
  refine B_seq ?_
  refine B_region ?_
  refine L_op (env' := uS8n31) rfl rfl (v_const (VVal.int .i64 0) (.inr rfl) rfl) rfl ?_
  refine L_nil ?_
  refine K_seq ?_
  refine B_block ?_
  refine B_clear [false,false,true,true,true,false,true,true,true,true,true,true,true,true,true,true,true,true,true,true,true,true,true,true,true,true,true,true,true,true,true] (env' := uS8n31) rfl ?_
  refine B_loopE (fun (k : Nat) => 64 - k) (fun (k : Nat) => [(5, iI (k : Nat))]) (fun (k : Nat) G => (k ≤ 64 ∧ ∀ i, i < k → dnA m R d i = true) ∧ G = H ++ []) 0 rfl ?_ ?_
  · refine ⟨?_, rfl⟩
    exact ⟨Nat.zero_le _, fun i h => by omega⟩
  rintro k _ ⟨⟨hk, hall⟩, rfl⟩
  refine B_env (env' := uS8n31) rfl ?_
  refine B_seq ?_
  refine B_seq ?_
  refine B_region ?_
  refine L_op (env' := uS8n31) rfl rfl (v_move (.inl rfl) rfl) rfl ?_
  refine L_op (env' := uS8n31) rfl rfl (rfl) rfl ?_
  refine L_nil ?_
  refine K_seq ?_
  refine B_cond _ rfl (fun hc1 => ?_) (fun hc1 => ?_)
  · try simp only [decide_eq_true_eq, decide_eq_false_iff_not, Bool.not_eq_true', Bool.not_eq_false', bne_iff_ne, beq_iff_eq, Bool.and_eq_true, Bool.or_eq_true, Bool.not_eq_true, ge_iff_le, gt_iff_lt, Int.not_le, Int.not_lt, beq_eq_false_iff_ne, bne_eq_false_iff_eq, ne_eq, Decidable.not_not, wd_zero, wd_one, wd_inj] at hc1
    refine B_skip ?_
    refine K_seq ?_
    refine B_seq ?_
    refine B_block ?_
    refine B_seq ?_
    refine B_region ?_
    refine L_op (env' := uS8n31) rfl rfl (v_move (.inl rfl) rfl) rfl ?_
    refine L_op (env' := uS8n31) rfl rfl (v_move (.inl rfl) rfl) rfl ?_
    refine L_op (env' := uS8n31) rfl rfl (v_shrW rfl rfl rfl (by first | assumption | omega | (simp [*]; done) | (simp at *; omega))) rfl ?_
    refine L_op (env' := uS8n31) rfl rfl (v_andW (b := 1#64) rfl rfl rfl) rfl ?_
    refine L_op (env' := uS8n31) rfl rfl (rfl) rfl ?_
    refine L_op (env' := uS8n31) rfl rfl (v_move (.inl rfl) rfl) rfl ?_
    refine L_split 15 (env1 := uS8n31) (env2 := uS8n31) rfl rfl rfl (fun hg2 => ?_) (fun hg2 => ?_)
    · try simp only [decide_eq_true_eq, decide_eq_false_iff_not, Bool.not_eq_true', Bool.not_eq_false', bne_iff_ne, beq_iff_eq, Bool.and_eq_true, Bool.or_eq_true, Bool.not_eq_true, ge_iff_le, gt_iff_lt, Int.not_le, Int.not_lt, beq_eq_false_iff_ne, bne_eq_false_iff_eq, ne_eq, Decidable.not_not, wd_zero, wd_one, wd_inj] at hg2
      refine L_op (env' := uS8n31) rfl rfl (v_move (.inl rfl) rfl) rfl ?_
      refine L_op (env' := uS8n31) rfl rfl (v_move (.inl rfl) rfl) rfl ?_
      refine L_op (env' := uS8n31) rfl rfl (rfl) rfl ?_
      refine L_op (env' := uS8n31) rfl rfl (rfl) rfl ?_
      refine L_op (env' := uS8n31) rfl rfl (by first | exact v_loadF rfl rfl rfl rfl (by first | exact rget (by omega) | exact rget0 (by omega) | rfl | assumption) | exact v_load rfl rfl rfl rfl (by first | exact get_app rfl rfl | exact get_out (by assumption) | assumption | (simp [*]; done)) (by first | exact rget (by omega) | exact rget0 (by omega) | rfl | assumption)) rfl ?_
      refine L_op (env' := uS8n31) rfl rfl (rfl) rfl ?_
      refine L_op (env' := uS8n31) rfl rfl (v_move (.inl rfl) rfl) rfl ?_
      refine L_split 22 (env1 := uS8n31) (env2 := uS8n31) rfl rfl rfl (fun hg3 => ?_) (fun hg3 => ?_)
      · try simp only [decide_eq_true_eq, decide_eq_false_iff_not, Bool.not_eq_true', Bool.not_eq_false', bne_iff_ne, beq_iff_eq, Bool.and_eq_true, Bool.or_eq_true, Bool.not_eq_true, ge_iff_le, gt_iff_lt, Int.not_le, Int.not_lt, beq_eq_false_iff_ne, bne_eq_false_iff_eq, ne_eq, Decidable.not_not, wd_zero, wd_one, wd_inj] at hg3
        refine L_off (env' := uS8n31) rfl rfl ?_
        refine L_off (env' := uS8n31) rfl rfl ?_
        refine L_off (env' := uS8n31) rfl rfl ?_
        refine L_off (env' := uS8n31) rfl rfl ?_
        refine L_off (env' := uS8n31) rfl rfl ?_
        refine L_off (env' := uS8n31) rfl rfl ?_
        refine L_op (env' := uS8n31) rfl rfl (v_pickTC (VVal.bool true) rfl rfl rfl) rfl ?_
        refine L_op (env' := uS8n31) rfl rfl (v_pickT rfl rfl rfl) rfl ?_
        refine L_nil ?_
        refine K_seq ?_
        refine B_true rfl rfl ?_
        refine B_seq ?_
        refine B_region ?_
        refine L_op (env' := uS8n31) rfl rfl (v_const (VVal.bool false) (.inr rfl) rfl) rfl ?_
        refine L_nil ?_
        refine K_seq ?_
        refine B_ret ?_
        refine K_blkR ?_
        refine K_seqR ?_
        refine K_loopR ?_
        refine K_blkR ?_
        refine K_seqR ?_
        refine E_app (.inr rfl) (vres_tmp rfl rfl) (by first | exact BaseOk.refl _ | exact BaseOk.set (BaseOk.refl _) _ rfl) (by first | rfl | simp [VVal.under, VVal.underL, *]) ?_
        first
          | exact ⟨by rw [dnW_no (by omega) (dnA_no1 (by assumption) (by assumption))], rfl⟩
          | exact ⟨by rw [dnW_no (by omega) (dnA_no2 (by assumption) (by assumption))], rfl⟩
          | exact ⟨by rw [show dnW m R d = true from List.all_eq_true.2 fun i hi => hall i (by have := List.mem_range.1 hi; omega)], rfl⟩
      · try simp only [decide_eq_true_eq, decide_eq_false_iff_not, Bool.not_eq_true', Bool.not_eq_false', bne_iff_ne, beq_iff_eq, Bool.and_eq_true, Bool.or_eq_true, Bool.not_eq_true, ge_iff_le, gt_iff_lt, Int.not_le, Int.not_lt, beq_eq_false_iff_ne, bne_eq_false_iff_eq, ne_eq, Decidable.not_not, wd_zero, wd_one, wd_inj] at hg3
        refine L_op (env' := uS8n31) rfl rfl (v_move (.inl rfl) rfl) rfl ?_
        refine L_op (env' := uS8n31) rfl rfl (v_move (.inl rfl) rfl) rfl ?_
        refine L_call rfl rfl rfl (by exact refPreds_spec _ _ _ hm _) ?_
        rintro _ _ ⟨rfl, rfl⟩
        refine L_env (env' := uS8n31) rfl ?_
        refine L_op (env' := uS8n31) rfl rfl (v_move (.inl rfl) rfl) rfl ?_
        refine L_op (env' := uS8n31) rfl rfl (v_andNotW rfl rfl rfl) rfl ?_
        refine L_op (env' := uS8n31) rfl rfl (rfl) rfl ?_
        refine L_op (env' := uS8n31) rfl rfl (v_pickF rfl rfl rfl) rfl ?_
        refine L_op (env' := uS8n31) rfl rfl (v_pickT rfl rfl rfl) rfl ?_
        refine L_nil ?_
        refine K_seq ?_
        refine B_cond _ rfl (fun hc4 => ?_) (fun hc4 => ?_)
        · try simp only [decide_eq_true_eq, decide_eq_false_iff_not, Bool.not_eq_true', Bool.not_eq_false', bne_iff_ne, beq_iff_eq, Bool.and_eq_true, Bool.or_eq_true, Bool.not_eq_true, ge_iff_le, gt_iff_lt, Int.not_le, Int.not_lt, beq_eq_false_iff_ne, bne_eq_false_iff_eq, ne_eq, Decidable.not_not, wd_zero, wd_one, wd_inj] at hc4
          refine B_seq ?_
          refine B_region ?_
          refine L_op (env' := uS8n31) rfl rfl (v_const (VVal.bool false) (.inr rfl) rfl) rfl ?_
          refine L_nil ?_
          refine K_seq ?_
          refine B_ret ?_
          refine K_blkR ?_
          refine K_seqR ?_
          refine K_loopR ?_
          refine K_blkR ?_
          refine K_seqR ?_
          refine E_app (.inr rfl) (vres_tmp rfl rfl) (by first | exact BaseOk.refl _ | exact BaseOk.set (BaseOk.refl _) _ rfl) (by first | rfl | simp [VVal.under, VVal.underL, *]) ?_
          first
            | exact ⟨by rw [dnW_no (by omega) (dnA_no1 (by assumption) (by assumption))], rfl⟩
            | exact ⟨by rw [dnW_no (by omega) (dnA_no2 (by assumption) (by assumption))], rfl⟩
            | exact ⟨by rw [show dnW m R d = true from List.all_eq_true.2 fun i hi => hall i (by have := List.mem_range.1 hi; omega)], rfl⟩
        · try simp only [decide_eq_true_eq, decide_eq_false_iff_not, Bool.not_eq_true', Bool.not_eq_false', bne_iff_ne, beq_iff_eq, Bool.and_eq_true, Bool.or_eq_true, Bool.not_eq_true, ge_iff_le, gt_iff_lt, Int.not_le, Int.not_lt, beq_eq_false_iff_ne, bne_eq_false_iff_eq, ne_eq, Decidable.not_not, wd_zero, wd_one, wd_inj] at hc4
          refine B_skip ?_
          refine K_blk ?_
          refine K_seq ?_
          refine B_region ?_
          refine L_op (env' := uS8n31) rfl rfl (v_move (.inl rfl) rfl) rfl ?_
          refine L_op (env' := uS8n31) rfl rfl (v_addI rfl rfl rfl (by first | assumption | omega | (simp [*]; done) | (simp at *; omega))) rfl ?_
          refine L_op (env' := uS8n31) rfl rfl (v_move (.inr rfl) rfl) rfl ?_
          refine L_nil ?_
          refine K_loop [false,false,true,true,true,false,true,true,true,true,true,true,true,true,true,true,true,true,true,true,true,true,true,true,true,true,true,true,true,true,true] (env' := uS8n31) rfl ⟨k + 1, ?_, rfl, ?_⟩
          · first | omega | (simp only []; omega)
          · exact ⟨⟨by omega, all_up hall (by first | exact dnA_yes1 (by assumption) | exact dnA_yes2 (by assumption) (by assumption))⟩, rfl⟩
    · try simp only [decide_eq_true_eq, decide_eq_false_iff_not, Bool.not_eq_true', Bool.not_eq_false', bne_iff_ne, beq_iff_eq, Bool.and_eq_true, Bool.or_eq_true, Bool.not_eq_true, ge_iff_le, gt_iff_lt, Int.not_le, Int.not_lt, beq_eq_false_iff_ne, bne_eq_false_iff_eq, ne_eq, Decidable.not_not, wd_zero, wd_one, wd_inj] at hg2
      refine L_off (env' := uS8n31) rfl rfl ?_
      refine L_off (env' := uS8n31) rfl rfl ?_
      refine L_off (env' := uS8n31) rfl rfl ?_
      refine L_off (env' := uS8n31) rfl rfl ?_
      refine L_off (env' := uS8n31) rfl rfl ?_
      refine L_off (env' := uS8n31) rfl rfl ?_
      refine L_off (env' := uS8n31) rfl rfl ?_
      refine L_off (env' := uS8n31) rfl rfl ?_
      refine L_off (env' := uS8n31) rfl rfl ?_
      refine L_off (env' := uS8n31) rfl rfl ?_
      refine L_off (env' := uS8n31) rfl rfl ?_
      refine L_off (env' := uS8n31) rfl rfl ?_
      refine L_off (env' := uS8n31) rfl rfl ?_
      refine L_off (env' := uS8n31) rfl rfl ?_
      refine L_op (env' := uS8n31) rfl rfl (v_pickFC (VVal.bool false) rfl rfl rfl) rfl ?_
      refine L_nil ?_
      refine K_seq ?_
      refine B_false rfl rfl ?_
      refine B_skip ?_
      refine K_blk ?_
      refine K_seq ?_
      refine B_region ?_
      refine L_op (env' := uS8n31) rfl rfl (v_move (.inl rfl) rfl) rfl ?_
      refine L_op (env' := uS8n31) rfl rfl (v_addI rfl rfl rfl (by first | assumption | omega | (simp [*]; done) | (simp at *; omega))) rfl ?_
      refine L_op (env' := uS8n31) rfl rfl (v_move (.inr rfl) rfl) rfl ?_
      refine L_nil ?_
      refine K_loop [false,false,true,true,true,false,true,true,true,true,true,true,true,true,true,true,true,true,true,true,true,true,true,true,true,true,true,true,true,true,true] (env' := uS8n31) rfl ⟨k + 1, ?_, rfl, ?_⟩
      · first | omega | (simp only []; omega)
      · exact ⟨⟨by omega, all_up hall (by first | exact dnA_yes1 (by assumption) | exact dnA_yes2 (by assumption) (by assumption))⟩, rfl⟩
  · try simp only [decide_eq_true_eq, decide_eq_false_iff_not, Bool.not_eq_true', Bool.not_eq_false', bne_iff_ne, beq_iff_eq, Bool.and_eq_true, Bool.or_eq_true, Bool.not_eq_true, ge_iff_le, gt_iff_lt, Int.not_le, Int.not_lt, beq_eq_false_iff_ne, bne_eq_false_iff_eq, ne_eq, Decidable.not_not, wd_zero, wd_one, wd_inj] at hc1
    refine B_exit ?_
    refine K_seqX ?_
    refine K_loopX ?_
    refine K_blkX ?_
    refine K_seq ?_
    refine B_seq ?_
    refine B_region ?_
    refine L_op (env' := uS8n31) rfl rfl (v_const (VVal.bool true) (.inr rfl) rfl) rfl ?_
    refine L_nil ?_
    refine K_seq ?_
    refine B_ret ?_
    refine E_app (.inr rfl) (vres_tmp rfl rfl) (by first | exact BaseOk.refl _ | exact BaseOk.set (BaseOk.refl _) _ rfl) (by first | rfl | simp [VVal.under, VVal.underL, *]) ?_
    first
      | exact ⟨by rw [dnW_no (by omega) (dnA_no1 (by assumption) (by assumption))], rfl⟩
      | exact ⟨by rw [dnW_no (by omega) (dnA_no2 (by assumption) (by assumption))], rfl⟩
      | exact ⟨by rw [show dnW m R d = true from List.all_eq_true.2 fun i hi => hall i (by have := List.mem_range.1 hi; omega)], rfl⟩

theorem refCovers_spec {x : SW} (H : VHeap) (m : Nat) (R : Nat → Nat → Bool) (hm : m ≤ 64) : F (psys x) 41 [refV m R] H fun v G => v = fzP (cvL m R) ∧ G = H := by
  refine F_body Tryd.func41 rfl uS8n76 rfl ?_
  refine B_seq ?_
  refine B_region ?_
  refine L_op (env' := uS8n76) rfl rfl (v_const (VVal.slice none 0 0 true 0) (.inr rfl) rfl) rfl ?_
  refine L_nil ?_
  refine K_seq ?_
  refine B_seq ?_
  refine B_region ?_
  refine L_op (env' := uS8n76) rfl rfl (v_const (VVal.slice none 0 0 true 0) (.inr rfl) rfl) rfl ?_
  refine L_nil ?_
  refine K_seq ?_
  refine B_seq ?_
  refine B_seq ?_
  refine B_region ?_
  refine L_op (env' := uS8n76) rfl rfl (v_const (VVal.int .i64 0) (.inr rfl) rfl) rfl ?_
  refine L_nil ?_
  refine K_seq ?_
  refine B_block ?_
  refine B_clear (false :: true :: true :: false :: false :: true :: true :: true :: true :: true :: true :: true :: true :: true :: true :: true :: true :: true :: true :: true :: true :: true :: true :: true :: true :: true :: true :: true :: true :: true :: true :: true :: true :: true :: true :: true :: true :: true :: true :: true :: true :: true :: true :: true :: true :: true :: true :: true :: true :: true :: true :: true :: true :: true :: true :: true :: true :: true :: true :: true :: true :: true :: true :: true :: true :: true :: true :: true :: true :: true :: true :: true :: true :: true :: true :: true :: []) (env' := uS8n76) rfl ?_
  refine B_loopE (fun (⟨a, lv⟩ : Nat × VVal) => m - a) (fun (⟨a, lv⟩ : Nat × VVal) => [(3, lv), (4, iI (a : Nat))]) (fun (⟨a, lv⟩ : Nat × VVal) G => (a ≤ m) ∧ ∃ X, G = H ++ X ∧ LV H.length 2 X lv ((cvTo m R a).flatMap enP) (cvTo m R a).length) ⟨0, _⟩ rfl ?_ ?_
  · refine ⟨?_, ⟨_, rfl, LV.nil _ _ _⟩⟩
    exact Nat.zero_le _
  rintro ⟨a, lv⟩ _ ⟨ha, ⟨X, rfl, hl⟩⟩
  refine B_env (env' := uS8n76) rfl ?_
  refine B_seq ?_
  refine B_seq ?_
  refine B_region ?_
  refine L_op (env' := uS8n76) rfl rfl (v_move (.inl rfl) rfl) rfl ?_
  refine L_op (env' := uS8n76) rfl rfl (v_move (.inl rfl) rfl) rfl ?_
  refine L_op (env' := uS8n76) rfl rfl (rfl) rfl ?_
  refine L_op (env' := uS8n76) rfl rfl (rfl) rfl ?_
  refine L_op (env' := uS8n76) rfl rfl (by first | exact v_loadF rfl rfl rfl rfl (by first | exact rget (by omega) | exact rget0 (by omega) | rfl | assumption) | exact v_load rfl rfl rfl rfl (by first | exact get_app rfl rfl | exact get_out (by assumption) | assumption | (simp [*]; done)) (by first | exact rget (by omega) | exact rget0 (by omega) | rfl | assumption)) rfl ?_
  refine L_op (env' := uS8n76) rfl rfl (rfl) rfl ?_
  refine L_nil ?_
  refine K_seq ?_
  refine B_cond _ rfl (fun hc1 => ?_) (fun hc1 => ?_)
  · try simp only [decide_eq_true_eq, decide_eq_false_iff_not, Bool.not_eq_true', Bool.not_eq_false', bne_iff_ne, beq_iff_eq, Bool.and_eq_true, Bool.or_eq_true, Bool.not_eq_true, ge_iff_le, gt_iff_lt, Int.not_le, Int.not_lt, beq_eq_false_iff_ne, bne_eq_false_iff_eq, ne_eq, Decidable.not_not, wd_zero, wd_one, wd_inj] at hc1
    refine B_skip ?_
    refine K_seq ?_
    refine B_seq ?_
    refine B_block ?_
    refine B_seq ?_
    refine B_region ?_
    refine L_op (env' := uS8n76) rfl rfl (v_const (VVal.int .i64 0) (.inr rfl) rfl) rfl ?_
    refine L_nil ?_
    refine K_seq ?_
    refine B_block ?_
    refine B_clear (false :: true :: true :: false :: false :: false :: true :: true :: true :: true :: true :: true :: true :: true :: true :: true :: true :: true :: true :: true :: true :: true :: true :: true :: true :: true :: true :: true :: true :: true :: true :: true :: true :: true :: true :: true :: true :: true :: true :: true :: true :: true :: true :: true :: true :: true :: true :: true :: true :: true :: true :: true :: true :: true :: true :: true :: true :: true :: true :: true :: true :: true :: true :: true :: true :: true :: true :: true :: true :: true :: true :: true :: true :: true :: true :: true :: []) (env' := uS8n76) rfl ?_
    refine B_loopE (fun (⟨b, lv⟩ : Nat × VVal) => m - b) (fun (⟨b, lv⟩ : Nat × VVal) => [(3, lv), (5, iI (b : Nat))]) (fun (⟨b, lv⟩ : Nat × VVal) G => (b ≤ m) ∧ ∃ X, G = H ++ X ∧ LV H.length 2 X lv ((cvTo m R a ++ cvRow m R a b).flatMap enP) (cvTo m R a ++ cvRow m R a b).length) ⟨0, _⟩ rfl ?_ ?_
    · refine ⟨?_, ⟨_, rfl, by rw [cvRow_0, List.append_nil]; exact hl⟩⟩
      exact Nat.zero_le _
    rintro ⟨b, lv⟩ _ ⟨hb, ⟨X, rfl, hl⟩⟩
    refine B_env (env' := uS8n76) rfl ?_
    refine B_seq ?_
    refine B_seq ?_
    refine B_region ?_
    refine L_op (env' := uS8n76) rfl rfl (v_move (.inl rfl) rfl) rfl ?_
    refine L_op (env' := uS8n76) rfl rfl (v_move (.inl rfl) rfl) rfl ?_
    refine L_op (env' := uS8n76) rfl rfl (rfl) rfl ?_
    refine L_op (env' := uS8n76) rfl rfl (rfl) rfl ?_
    refine L_op (env' := uS8n76) rfl rfl (by first | exact v_loadF rfl rfl rfl rfl (by first | exact rget (by omega) | exact rget0 (by omega) | rfl | assumption) | exact v_load rfl rfl rfl rfl (by first | exact get_app rfl rfl | exact get_out (by assumption) | assumption | (simp [*]; done)) (by first | exact rget (by omega) | exact rget0 (by omega) | rfl | assumption)) rfl ?_
    refine L_op (env' := uS8n76) rfl rfl (rfl) rfl ?_
    refine L_nil ?_
    refine K_seq ?_
    refine B_cond _ rfl (fun hc2 => ?_) (fun hc2 => ?_)
    · try simp only [decide_eq_true_eq, decide_eq_false_iff_not, Bool.not_eq_true', Bool.not_eq_false', bne_iff_ne, beq_iff_eq, Bool.and_eq_true, Bool.or_eq_true, Bool.not_eq_true, ge_iff_le, gt_iff_lt, Int.not_le, Int.not_lt, beq_eq_false_iff_ne, bne_eq_false_iff_eq, ne_eq, Decidable.not_not, wd_zero, wd_one, wd_inj] at hc2
      refine B_skip ?_
      refine K_seq ?_
      refine B_seq ?_
      refine B_block ?_
      refine B_seq ?_
      refine B_region ?_
      refine L_op (env' := uS8n76) rfl rfl (v_move (.inl rfl) rfl) rfl ?_
      refine L_op (env' := uS8n76) rfl rfl (rfl) rfl ?_
      refine L_op (env' := uS8n76) rfl rfl (rfl) rfl ?_
      refine L_op (env' := uS8n76) rfl rfl (by first | exact v_loadF rfl rfl rfl rfl (by first | exact rget (by omega) | exact rget0 (by omega) | rfl | assumption) | exact v_load rfl rfl rfl rfl (by first | exact get_app rfl rfl | exact get_out (by assumption) | assumption | (simp [*]; done)) (by first | exact rget (by omega) | exact rget0 (by omega) | rfl | assumption)) rfl ?_
      refine L_op (env' := uS8n76) rfl rfl (v_move (.inl rfl) rfl) rfl ?_
      refine L_op (env' := uS8n76) rfl rfl (by first | exact v_idxF rfl rfl rfl rfl rfl rfl rfl (by first | assumption | omega | (simp [*]; done) | (simp at *; omega)) | exact v_idx rfl rfl rfl rfl rfl rfl rfl (by first | assumption | omega | (simp [*]; done) | (simp at *; omega))) rfl ?_
      refine L_op (env' := uS8n76) rfl rfl (by first | exact v_loadF rfl rfl rfl rfl (by first | exact rget (by omega) | exact rget0 (by omega) | rfl | assumption) | exact v_load rfl rfl rfl rfl (by first | exact get_app rfl rfl | exact get_out (by assumption) | assumption | (simp [*]; done)) (by first | exact rget (by omega) | exact rget0 (by omega) | rfl | assumption)) rfl ?_
      refine L_op (env' := uS8n76) rfl rfl (v_move (.inl rfl) rfl) rfl ?_
      refine L_op (env' := uS8n76) rfl rfl (by first | exact v_idxF rfl rfl rfl rfl rfl rfl rfl (by first | assumption | omega | (simp [*]; done) | (simp at *; omega)) | exact v_idx rfl rfl rfl rfl rfl rfl rfl (by first | assumption | omega | (simp [*]; done) | (simp at *; omega))) rfl ?_
      refine L_op (env' := uS8n76) rfl rfl (by first | exact v_loadF rfl rfl rfl rfl (by first | exact rget (by omega) | exact rget0 (by omega) | rfl | assumption) | exact v_load rfl rfl rfl rfl (by first | exact get_app rfl rfl | exact get_out (by assumption) | assumption | (simp [*]; done)) (by first | exact rget (by omega) | exact rget0 (by omega) | rfl | assumption)) rfl ?_
      refine L_op (env' := uS8n76) rfl rfl (v_move (.inr rfl) rfl) rfl ?_
      refine L_nil ?_
      refine K_seq ?_
      refine B_seq ?_
      refine B_seq ?_
      refine B_region ?_
      refine L_op (env' := uS8n76) rfl rfl (v_const (VVal.int .i64 0) (.inr rfl) rfl) rfl ?_
      refine L_nil ?_
      refine K_seq ?_
      refine B_block ?_
      refine B_clear (false :: true :: true :: false :: false :: false :: false :: false :: true :: true :: true :: true :: true :: true :: true :: true :: true :: true :: true :: true :: true :: true :: true :: true :: true :: true :: true :: true :: true :: true :: true :: true :: true :: true :: true :: true :: true :: true :: true :: true :: true :: true :: true :: true :: true :: true :: true :: true :: true :: true :: true :: true :: true :: true :: true :: true :: true :: true :: true :: true :: true :: true :: true :: true :: true :: true :: true :: true :: true :: true :: true :: true :: true :: true :: true :: true :: []) (env' := uS8n76) rfl ?_
      refine B_loopE (fun (⟨k, t⟩ : Nat × Bool) => m - k) (fun (⟨k, t⟩ : Nat × Bool) => [(6, .bool t), (7, iI (k : Nat))]) (fun (⟨k, t⟩ : Nat × Bool) G => (k ≤ m ∧ t = cvB m R a b k) ∧ G = H ++ X) ⟨0, _⟩ rfl ?_ ?_
      · refine ⟨?_, rfl⟩
        exact ⟨Nat.zero_le _, by rw [cvB_0]; rfl⟩
      rintro ⟨k, t⟩ _ ⟨⟨hk, ht⟩, rfl⟩
      refine B_env (env' := uS8n76) rfl ?_
      refine B_seq ?_
      refine B_seq ?_
      refine B_region ?_
      refine L_op (env' := uS8n76) rfl rfl (v_move (.inl rfl) rfl) rfl ?_
      refine L_op (env' := uS8n76) rfl rfl (v_move (.inl rfl) rfl) rfl ?_
      refine L_op (env' := uS8n76) rfl rfl (rfl) rfl ?_
      refine L_op (env' := uS8n76) rfl rfl (rfl) rfl ?_
      refine L_op (env' := uS8n76) rfl rfl (by first | exact v_loadF rfl rfl rfl rfl (by first | exact rget (by omega) | exact rget0 (by omega) | rfl | assumption) | exact v_load rfl rfl rfl rfl (by first | exact get_app rfl rfl | exact get_out (by assumption) | assumption | (simp [*]; done)) (by first | exact rget (by omega) | exact rget0 (by omega) | rfl | assumption)) rfl ?_
      refine L_op (env' := uS8n76) rfl rfl (rfl) rfl ?_
      refine L_op (env' := uS8n76) rfl rfl (v_move (.inl rfl) rfl) rfl ?_
      refine L_split 40 (env1 := uS8n76) (env2 := uS8n76) rfl rfl rfl (fun hg3 => ?_) (fun hg3 => ?_)
      · try simp only [decide_eq_true_eq, decide_eq_false_iff_not, Bool.not_eq_true', Bool.not_eq_false', bne_iff_ne, beq_iff_eq, Bool.and_eq_true, Bool.or_eq_true, Bool.not_eq_true, ge_iff_le, gt_iff_lt, Int.not_le, Int.not_lt, beq_eq_false_iff_ne, bne_eq_false_iff_eq, ne_eq, Decidable.not_not, wd_zero, wd_one, wd_inj] at hg3
        refine L_op (env' := uS8n76) rfl rfl (v_move (.inl rfl) rfl) rfl ?_
        refine L_op (env' := uS8n76) rfl rfl (v_pickT rfl rfl rfl) rfl ?_
        refine L_nil ?_
        refine K_seq ?_
        refine B_cond _ rfl (fun hc4 => ?_) (fun hc4 => ?_)
        · try simp only [decide_eq_true_eq, decide_eq_false_iff_not, Bool.not_eq_true', Bool.not_eq_false', bne_iff_ne, beq_iff_eq, Bool.and_eq_true, Bool.or_eq_true, Bool.not_eq_true, ge_iff_le, gt_iff_lt, Int.not_le, Int.not_lt, beq_eq_false_iff_ne, bne_eq_false_iff_eq, ne_eq, Decidable.not_not, wd_zero, wd_one, wd_inj] at hc4
          refine B_skip ?_
          refine K_seq ?_
          refine B_seq ?_
          refine B_block ?_
          refine B_region ?_
          refine L_op (env' := uS8n76) rfl rfl (v_move (.inl rfl) rfl) rfl ?_
          refine L_op (env' := uS8n76) rfl rfl (rfl) rfl ?_
          refine L_op (env' := uS8n76) rfl rfl (rfl) rfl ?_
          refine L_op (env' := uS8n76) rfl rfl (by first | exact v_loadF rfl rfl rfl rfl (by first | exact rget (by omega) | exact rget0 (by omega) | rfl | assumption) | exact v_load rfl rfl rfl rfl (by first | exact get_app rfl rfl | exact get_out (by assumption) | assumption | (simp [*]; done)) (by first | exact rget (by omega) | exact rget0 (by omega) | rfl | assumption)) rfl ?_
          refine L_op (env' := uS8n76) rfl rfl (v_move (.inl rfl) rfl) rfl ?_
          refine L_op (env' := uS8n76) rfl rfl (by first | exact v_idxF rfl rfl rfl rfl rfl rfl rfl (by first | assumption | omega | (simp [*]; done) | (simp at *; omega)) | exact v_idx rfl rfl rfl rfl rfl rfl rfl (by first | assumption | omega | (simp [*]; done) | (simp at *; omega))) rfl ?_
          refine L_op (env' := uS8n76) rfl rfl (by first | exact v_loadF rfl rfl rfl rfl (by first | exact rget (by omega) | exact rget0 (by omega) | rfl | assumption) | exact v_load rfl rfl rfl rfl (by first | exact get_app rfl rfl | exact get_out (by assumption) | assumption | (simp [*]; done)) (by first | exact rget (by omega) | exact rget0 (by omega) | rfl | assumption)) rfl ?_
          refine L_op (env' := uS8n76) rfl rfl (v_move (.inl rfl) rfl) rfl ?_
          refine L_op (env' := uS8n76) rfl rfl (by first | exact v_idxF rfl rfl rfl rfl rfl rfl rfl (by first | assumption | omega | (simp [*]; done) | (simp at *; omega)) | exact v_idx rfl rfl rfl rfl rfl rfl rfl (by first | assumption | omega | (simp [*]; done) | (simp at *; omega))) rfl ?_
          refine L_op (env' := uS8n76) rfl rfl (by first | exact v_loadF rfl rfl rfl rfl (by first | exact rget (by omega) | exact rget0 (by omega) | rfl | assumption) | exact v_load rfl rfl rfl rfl (by first | exact get_app rfl rfl | exact get_out (by assumption) | assumption | (simp [*]; done)) (by first | exact rget (by omega) | exact rget0 (by omega) | rfl | assumption)) rfl ?_
          refine L_op (env' := uS8n76) rfl rfl (v_move (.inl rfl) rfl) rfl ?_
          refine L_split 55 (env1 := uS8n76) (env2 := uS8n76) rfl rfl rfl (fun hg5 => ?_) (fun hg5 => ?_)
          · try simp only [decide_eq_true_eq, decide_eq_false_iff_not, Bool.not_eq_true', Bool.not_eq_false', bne_iff_ne, beq_iff_eq, Bool.and_eq_true, Bool.or_eq_true, Bool.not_eq_true, ge_iff_le, gt_iff_lt, Int.not_le, Int.not_lt, beq_eq_false_iff_ne, bne_eq_false_iff_eq, ne_eq, Decidable.not_not, wd_zero, wd_one, wd_inj] at hg5
            refine L_op (env' := uS8n76) rfl rfl (v_move (.inl rfl) rfl) rfl ?_
            refine L_op (env' := uS8n76) rfl rfl (rfl) rfl ?_
            refine L_op (env' := uS8n76) rfl rfl (rfl) rfl ?_
            refine L_op (env' := uS8n76) rfl rfl (by first | exact v_loadF rfl rfl rfl rfl (by first | exact rget (by omega) | exact rget0 (by omega) | rfl | assumption) | exact v_load rfl rfl rfl rfl (by first | exact get_app rfl rfl | exact get_out (by assumption) | assumption | (simp [*]; done)) (by first | exact rget (by omega) | exact rget0 (by omega) | rfl | assumption)) rfl ?_
            refine L_op (env' := uS8n76) rfl rfl (v_move (.inl rfl) rfl) rfl ?_
            refine L_op (env' := uS8n76) rfl rfl (by first | exact v_idxF rfl rfl rfl rfl rfl rfl rfl (by first | assumption | omega | (simp [*]; done) | (simp at *; omega)) | exact v_idx rfl rfl rfl rfl rfl rfl rfl (by first | assumption | omega | (simp [*]; done) | (simp at *; omega))) rfl ?_
            refine L_op (env' := uS8n76) rfl rfl (by first | exact v_loadF rfl rfl rfl rfl (by first | exact rget (by omega) | exact rget0 (by omega) | rfl | assumption) | exact v_load rfl rfl rfl rfl (by first | exact get_app rfl rfl | exact get_out (by assumption) | assumption | (simp [*]; done)) (by first | exact rget (by omega) | exact rget0 (by omega) | rfl | assumption)) rfl ?_
            refine L_op (env' := uS8n76) rfl rfl (v_move (.inl rfl) rfl) rfl ?_
            refine L_op (env' := uS8n76) rfl rfl (by first | exact v_idxF rfl rfl rfl rfl rfl rfl rfl (by first | assumption | omega | (simp [*]; done) | (simp at *; omega)) | exact v_idx rfl rfl rfl rfl rfl rfl rfl (by first | assumption | omega | (simp [*]; done) | (simp at *; omega))) rfl ?_
            refine L_op (env' := uS8n76) rfl rfl (by first | exact v_loadF rfl rfl rfl rfl (by first | exact rget (by omega) | exact rget0 (by omega) | rfl | assumption) | exact v_load rfl rfl rfl rfl (by first | exact get_app rfl rfl | exact get_out (by assumption) | assumption | (simp [*]; done)) (by first | exact rget (by omega) | exact rget0 (by omega) | rfl | assumption)) rfl ?_
            refine L_op (env' := uS8n76) rfl rfl (v_pickT rfl rfl rfl) rfl ?_
            refine L_op (env' := uS8n76) rfl rfl (rfl) rfl ?_
            refine L_op (env' := uS8n76) rfl rfl (v_move (.inr rfl) rfl) rfl ?_
            refine L_nil ?_
            refine K_blk ?_
            refine K_seq ?_
            refine B_region ?_
            refine L_op (env' := uS8n76) rfl rfl (v_move (.inl rfl) rfl) rfl ?_
            refine L_op (env' := uS8n76) rfl rfl (v_addI rfl rfl rfl (by first | assumption | omega | (simp [*]; done) | (simp at *; omega))) rfl ?_
            refine L_op (env' := uS8n76) rfl rfl (v_move (.inr rfl) rfl) rfl ?_
            refine L_nil ?_
            have htt : cvB m R a b k = true := by rw [← ht]; assumption
            refine K_loop (false :: true :: true :: false :: false :: false :: false :: false :: true :: true :: true :: true :: true :: true :: true :: true :: true :: true :: true :: true :: true :: true :: true :: true :: true :: true :: true :: true :: true :: true :: true :: true :: true :: true :: true :: true :: true :: true :: true :: true :: true :: true :: true :: true :: true :: true :: true :: true :: true :: true :: true :: true :: true :: true :: true :: true :: true :: true :: true :: true :: true :: true :: true :: true :: true :: true :: true :: true :: true :: true :: true :: true :: true :: true :: true :: true :: []) (env' := uS8n76) rfl ⟨⟨k + 1, _⟩, ?_, rfl, ?_⟩
            · first | omega | (simp only []; omega)
            · exact ⟨⟨by omega, by rw [cvB_step htt]; first | (rw [show R a k = true from by assumption]; simp) | (rw [show R a k = false from by assumption]; rfl)⟩, rfl⟩
          · try simp only [decide_eq_true_eq, decide_eq_false_iff_not, Bool.not_eq_true', Bool.not_eq_false', bne_iff_ne, beq_iff_eq, Bool.and_eq_true, Bool.or_eq_true, Bool.not_eq_true, ge_iff_le, gt_iff_lt, Int.not_le, Int.not_lt, beq_eq_false_iff_ne, bne_eq_false_iff_eq, ne_eq, Decidable.not_not, wd_zero, wd_one, wd_inj] at hg5
            refine L_off (env' := uS8n76) rfl rfl ?_
            refine L_off (env' := uS8n76) rfl rfl ?_
            refine L_off (env' := uS8n76) rfl rfl ?_
            refine L_off (env' := uS8n76) rfl rfl ?_
            refine L_off (env' := uS8n76) rfl rfl ?_
            refine L_off (env' := uS8n76) rfl rfl ?_
            refine L_off (env' := uS8n76) rfl rfl ?_
            refine L_off (env' := uS8n76) rfl rfl ?_
            refine L_off (env' := uS8n76) rfl rfl ?_
            refine L_off (env' := uS8n76) rfl rfl ?_
            refine L_op (env' := uS8n76) rfl rfl (v_pickFC (VVal.bool false) rfl rfl rfl) rfl ?_
            refine L_op (env' := uS8n76) rfl rfl (rfl) rfl ?_
            refine L_op (env' := uS8n76) rfl rfl (v_move (.inr rfl) rfl) rfl ?_
            refine L_nil ?_
            refine K_blk ?_
            refine K_seq ?_
            refine B_region ?_
            refine L_op (env' := uS8n76) rfl rfl (v_move (.inl rfl) rfl) rfl ?_
            refine L_op (env' := uS8n76) rfl rfl (v_addI rfl rfl rfl (by first | assumption | omega | (simp [*]; done) | (simp at *; omega))) rfl ?_
            refine L_op (env' := uS8n76) rfl rfl (v_move (.inr rfl) rfl) rfl ?_
            refine L_nil ?_
            have htt : cvB m R a b k = true := by rw [← ht]; assumption
            refine K_loop (false :: true :: true :: false :: false :: false :: false :: false :: true :: true :: true :: true :: true :: true :: true :: true :: true :: true :: true :: true :: true :: true :: true :: true :: true :: true :: true :: true :: true :: true :: true :: true :: true :: true :: true :: true :: true :: true :: true :: true :: true :: true :: true :: true :: true :: true :: true :: true :: true :: true :: true :: true :: true :: true :: true :: true :: true :: true :: true :: true :: true :: true :: true :: true :: true :: true :: true :: true :: true :: true :: true :: true :: true :: true :: true :: true :: []) (env' := uS8n76) rfl ⟨⟨k + 1, _⟩, ?_, rfl, ?_⟩
            · first | omega | (simp only []; omega)
            · exact ⟨⟨by omega, by rw [cvB_step htt]; first | (rw [show R a k = true from by assumption]; simp) | (rw [show R a k = false from by assumption]; rfl)⟩, rfl⟩
        · try simp only [decide_eq_true_eq, decide_eq_false_iff_not, Bool.not_eq_true', Bool.not_eq_false', bne_iff_ne, beq_iff_eq, Bool.and_eq_true, Bool.or_eq_true, Bool.not_eq_true, ge_iff_le, gt_iff_lt, Int.not_le, Int.not_lt, beq_eq_false_iff_ne, bne_eq_false_iff_eq, ne_eq, Decidable.not_not, wd_zero, wd_one, wd_inj] at hc4
          refine B_exit ?_
          refine K_seqX ?_
          refine K_loopX ?_
          refine K_blkX ?_
          refine K_seq ?_
          refine B_seq ?_
          refine B_region ?_
          refine L_op (env' := uS8n76) rfl rfl (v_move (.inl rfl) rfl) rfl ?_
          refine L_nil ?_
          refine K_seq ?_
          refine B_cond _ rfl (fun hc6 => ?_) (fun hc6 => ?_)
          · try simp only [decide_eq_true_eq, decide_eq_false_iff_not, Bool.not_eq_true', Bool.not_eq_false', bne_iff_ne, beq_iff_eq, Bool.and_eq_true, Bool.or_eq_true, Bool.not_eq_true, ge_iff_le, gt_iff_lt, Int.not_le, Int.not_lt, beq_eq_false_iff_ne, bne_eq_false_iff_eq, ne_eq, Decidable.not_not, wd_zero, wd_one, wd_inj] at hc6
            refine B_region ?_
            refine L_op (env' := uS8n76) rfl rfl (v_move (.inl rfl) rfl) rfl ?_
            refine L_op (env' := uS8n76) rfl rfl (v_move (.inl rfl) rfl) rfl ?_
            refine L_op (env' := uS8n76) rfl rfl (v_move (.inl rfl) rfl) rfl ?_
            refine L_op (env' := uS8n76) rfl rfl (rfl) rfl ?_
            refine L_op (env' := uS8n76) rfl rfl (v_buildSlice rfl rfl (by decide) rfl) rfl ?_
            refine L_opX rfl rfl (v_appX rfl rfl rfl rfl rfl rfl rfl hl rfl rfl (by decide) (by have := @cv_bound m R a b (by omega) hm (by omega); have := @cvRow_len m R a b; rw [List.length_append]; show (_ + _ + 1) * 16 ≤ _ ∧ _ + _ + 1 ≤ _; omega) (by decide)) ?_
            rintro _ _ ⟨Y1, rfl, rfl, hY1, hY2, hY3⟩
            refine L_env (env' := uS8n76) rfl ?_
            refine L_op (env' := uS8n76) rfl rfl (v_move (.inr rfl) rfl) rfl ?_
            refine L_nil ?_
            refine K_blk ?_
            refine K_seq ?_
            refine B_region ?_
            refine L_op (env' := uS8n76) rfl rfl (v_move (.inl rfl) rfl) rfl ?_
            refine L_op (env' := uS8n76) rfl rfl (v_addI rfl rfl rfl (by first | assumption | omega | (simp [*]; done) | (simp at *; omega))) rfl ?_
            refine L_op (env' := uS8n76) rfl rfl (v_move (.inr rfl) rfl) rfl ?_
            refine L_nil ?_
            have hcv : cvB m R a b m = t := cv_done hk ht (by first | exact .inl (by omega) | exact .inr (by assumption))
            refine K_loop (false :: true :: true :: false :: false :: false :: true :: true :: true :: true :: true :: true :: true :: true :: true :: true :: true :: true :: true :: true :: true :: true :: true :: true :: true :: true :: true :: true :: true :: true :: true :: true :: true :: true :: true :: true :: true :: true :: true :: true :: true :: true :: true :: true :: true :: true :: true :: true :: true :: true :: true :: true :: true :: true :: true :: true :: true :: true :: true :: true :: true :: true :: true :: true :: true :: true :: true :: true :: true :: true :: true :: true :: true :: true :: true :: true :: []) (env' := uS8n76) rfl ⟨⟨b + 1, _⟩, ?_, rfl, ?_⟩
            · first | omega | (simp only []; omega)
            · first | exact ⟨by omega, _, rfl, by rw [cvRow_yes (hcv.trans (by assumption)), ← List.append_assoc]; exact LV.pair hY3⟩ | exact ⟨by omega, _, rfl, by rw [cvRow_no (hcv.trans (by assumption))]; exact hl⟩
          · try simp only [decide_eq_true_eq, decide_eq_false_iff_not, Bool.not_eq_true', Bool.not_eq_false', bne_iff_ne, beq_iff_eq, Bool.and_eq_true, Bool.or_eq_true, Bool.not_eq_true, ge_iff_le, gt_iff_lt, Int.not_le, Int.not_lt, beq_eq_false_iff_ne, bne_eq_false_iff_eq, ne_eq, Decidable.not_not, wd_zero, wd_one, wd_inj] at hc6
            refine B_skip ?_
            refine K_blk ?_
            refine K_seq ?_
            refine B_region ?_
            refine L_op (env' := uS8n76) rfl rfl (v_move (.inl rfl) rfl) rfl ?_
            refine L_op (env' := uS8n76) rfl rfl (v_addI rfl rfl rfl (by first | assumption | omega | (simp [*]; done) | (simp at *; omega))) rfl ?_
            refine L_op (env' := uS8n76) rfl rfl (v_move (.inr rfl) rfl) rfl ?_
            refine L_nil ?_
            have hcv : cvB m R a b m = t := cv_done hk ht (by first | exact .inl (by omega) | exact .inr (by assumption))
            refine K_loop (false :: true :: true :: false :: false :: false :: true :: true :: true :: true :: true :: true :: true :: true :: true :: true :: true :: true :: true :: true :: true :: true :: true :: true :: true :: true :: true :: true :: true :: true :: true :: true :: true :: true :: true :: true :: true :: true :: true :: true :: true :: true :: true :: true :: true :: true :: true :: true :: true :: true :: true :: true :: true :: true :: true :: true :: true :: true :: true :: true :: true :: true :: true :: true :: true :: true :: true :: true :: true :: true :: true :: true :: true :: true :: true :: true :: []) (env' := uS8n76) rfl ⟨⟨b + 1, _⟩, ?_, rfl, ?_⟩
            · first | omega | (simp only []; omega)
            · first | exact ⟨by omega, _, rfl, by rw [cvRow_yes (hcv.trans (by assumption)), ← List.append_assoc]; exact LV.pair hY3⟩ | exact ⟨by omega, _, rfl, by rw [cvRow_no (hcv.trans (by assumption))]; exact hl⟩
      · try simp only [decide_eq_true_eq, decide_eq_false_iff_not, Bool.not_eq_true', Bool.not_eq_false', bne_iff_ne, beq_iff_eq, Bool.and_eq_true, Bool.or_eq_true, Bool.not_eq_true, ge_iff_le, gt_iff_lt, Int.not_le, Int.not_lt, beq_eq_false_iff_ne, bne_eq_false_iff_eq, ne_eq, Decidable.not_not, wd_zero, wd_one, wd_inj] at hg3
        refine L_off (env' := uS8n76) rfl rfl ?_
        refine L_op (env' := uS8n76) rfl rfl (v_pickFC (VVal.bool false) rfl rfl rfl) rfl ?_
        refine L_nil ?_
        refine K_seq ?_
        refine B_false rfl rfl ?_
        refine B_exit ?_
        refine K_seqX ?_
        refine K_loopX ?_
        refine K_blkX ?_
        refine K_seq ?_
        refine B_seq ?_
        refine B_region ?_
        refine L_op (env' := uS8n76) rfl rfl (v_move (.inl rfl) rfl) rfl ?_
        refine L_nil ?_
        refine K_seq ?_
        refine B_cond _ rfl (fun hc7 => ?_) (fun hc7 => ?_)
        · try simp only [decide_eq_true_eq, decide_eq_false_iff_not, Bool.not_eq_true', Bool.not_eq_false', bne_iff_ne, beq_iff_eq, Bool.and_eq_true, Bool.or_eq_true, Bool.not_eq_true, ge_iff_le, gt_iff_lt, Int.not_le, Int.not_lt, beq_eq_false_iff_ne, bne_eq_false_iff_eq, ne_eq, Decidable.not_not, wd_zero, wd_one, wd_inj] at hc7
          refine B_region ?_
          refine L_op (env' := uS8n76) rfl rfl (v_move (.inl rfl) rfl) rfl ?_
          refine L_op (env' := uS8n76) rfl rfl (v_move (.inl rfl) rfl) rfl ?_
          refine L_op (env' := uS8n76) rfl rfl (v_move (.inl rfl) rfl) rfl ?_
          refine L_op (env' := uS8n76) rfl rfl (rfl) rfl ?_
          refine L_op (env' := uS8n76) rfl rfl (v_buildSlice rfl rfl (by decide) rfl) rfl ?_
          refine L_opX rfl rfl (v_appX rfl rfl rfl rfl rfl rfl rfl hl rfl rfl (by decide) (by have := @cv_bound m R a b (by omega) hm (by omega); have := @cvRow_len m R a b; rw [List.length_append]; show (_ + _ + 1) * 16 ≤ _ ∧ _ + _ + 1 ≤ _; omega) (by decide)) ?_
          rintro _ _ ⟨Y1, rfl, rfl, hY1, hY2, hY3⟩
          refine L_env (env' := uS8n76) rfl ?_
          refine L_op (env' := uS8n76) rfl rfl (v_move (.inr rfl) rfl) rfl ?_
          refine L_nil ?_
          refine K_blk ?_
          refine K_seq ?_
          refine B_region ?_
          refine L_op (env' := uS8n76) rfl rfl (v_move (.inl rfl) rfl) rfl ?_
          refine L_op (env' := uS8n76) rfl rfl (v_addI rfl rfl rfl (by first | assumption | omega | (simp [*]; done) | (simp at *; omega))) rfl ?_
          refine L_op (env' := uS8n76) rfl rfl (v_move (.inr rfl) rfl) rfl ?_
          refine L_nil ?_
          have hcv : cvB m R a b m = t := cv_done hk ht (by first | exact .inl (by omega) | exact .inr (by assumption))
          refine K_loop (false :: true :: true :: false :: false :: false :: true :: true :: true :: true :: true :: true :: true :: true :: true :: true :: true :: true :: true :: true :: true :: true :: true :: true :: true :: true :: true :: true :: true :: true :: true :: true :: true :: true :: true :: true :: true :: true :: true :: true :: true :: true :: true :: true :: true :: true :: true :: true :: true :: true :: true :: true :: true :: true :: true :: true :: true :: true :: true :: true :: true :: true :: true :: true :: true :: true :: true :: true :: true :: true :: true :: true :: true :: true :: true :: true :: []) (env' := uS8n76) rfl ⟨⟨b + 1, _⟩, ?_, rfl, ?_⟩
          · first | omega | (simp only []; omega)
          · first | exact ⟨by omega, _, rfl, by rw [cvRow_yes (hcv.trans (by assumption)), ← List.append_assoc]; exact LV.pair hY3⟩ | exact ⟨by omega, _, rfl, by rw [cvRow_no (hcv.trans (by assumption))]; exact hl⟩
        · try simp only [decide_eq_true_eq, decide_eq_false_iff_not, Bool.not_eq_true', Bool.not_eq_false', bne_iff_ne, beq_iff_eq, Bool.and_eq_true, Bool.or_eq_true, Bool.not_eq_true, ge_iff_le, gt_iff_lt, Int.not_le, Int.not_lt, beq_eq_false_iff_ne, bne_eq_false_iff_eq, ne_eq, Decidable.not_not, wd_zero, wd_one, wd_inj] at hc7
          refine B_skip ?_
          refine K_blk ?_
          refine K_seq ?_
          refine B_region ?_
          refine L_op (env' := uS8n76) rfl rfl (v_move (.inl rfl) rfl) rfl ?_
          refine L_op (env' := uS8n76) rfl rfl (v_addI rfl rfl rfl (by first | assumption | omega | (simp [*]; done) | (simp at *; omega))) rfl ?_
          refine L_op (env' := uS8n76) rfl rfl (v_move (.inr rfl) rfl) rfl ?_
          refine L_nil ?_
          have hcv : cvB m R a b m = t := cv_done hk ht (by first | exact .inl (by omega) | exact .inr (by assumption))
          refine K_loop (false :: true :: true :: false :: false :: false :: true :: true :: true :: true :: true :: true :: true :: true :: true :: true :: true :: true :: true :: true :: true :: true :: true :: true :: true :: true :: true :: true :: true :: true :: true :: true :: true :: true :: true :: true :: true :: true :: true :: true :: true :: true :: true :: true :: true :: true :: true :: true :: true :: true :: true :: true :: true :: true :: true :: true :: true :: true :: true :: true :: true :: true :: true :: true :: true :: true :: true :: true :: true :: true :: true :: true :: true :: true :: true :: true :: []) (env' := uS8n76) rfl ⟨⟨b + 1, _⟩, ?_, rfl, ?_⟩
          · first | omega | (simp only []; omega)
          · first | exact ⟨by omega, _, rfl, by rw [cvRow_yes (hcv.trans (by assumption)), ← List.append_assoc]; exact LV.pair hY3⟩ | exact ⟨by omega, _, rfl, by rw [cvRow_no (hcv.trans (by assumption))]; exact hl⟩
    · try simp only [decide_eq_true_eq, decide_eq_false_iff_not, Bool.not_eq_true', Bool.not_eq_false', bne_iff_ne, beq_iff_eq, Bool.and_eq_true, Bool.or_eq_true, Bool.not_eq_true, ge_iff_le, gt_iff_lt, Int.not_le, Int.not_lt, beq_eq_false_iff_ne, bne_eq_false_iff_eq, ne_eq, Decidable.not_not, wd_zero, wd_one, wd_inj] at hc2
      refine B_exit ?_
      refine K_seqX ?_
      refine K_loopX ?_
      refine K_blkX ?_
      refine K_blk ?_
      refine K_seq ?_
      refine B_region ?_
      refine L_op (env' := uS8n76) rfl rfl (v_move (.inl rfl) rfl) rfl ?_
      refine L_op (env' := uS8n76) rfl rfl (v_addI rfl rfl rfl (by first | assumption | omega | (simp [*]; done) | (simp at *; omega))) rfl ?_
      refine L_op (env' := uS8n76) rfl rfl (v_move (.inr rfl) rfl) rfl ?_
      refine L_nil ?_
      refine K_loop (false :: true :: true :: false :: false :: true :: true :: true :: true :: true :: true :: true :: true :: true :: true :: true :: true :: true :: true :: true :: true :: true :: true :: true :: true :: true :: true :: true :: true :: true :: true :: true :: true :: true :: true :: true :: true :: true :: true :: true :: true :: true :: true :: true :: true :: true :: true :: true :: true :: true :: true :: true :: true :: true :: true :: true :: true :: true :: true :: true :: true :: true :: true :: true :: true :: true :: true :: true :: true :: true :: true :: true :: true :: true :: true :: true :: []) (env' := uS8n76) rfl ⟨⟨a + 1, _⟩, ?_, rfl, ?_⟩
      · first | omega | (simp only []; omega)
      · exact ⟨by omega, _, rfl, LV.rowEnd hl (by omega)⟩
  · try simp only [decide_eq_true_eq, decide_eq_false_iff_not, Bool.not_eq_true', Bool.not_eq_false', bne_iff_ne, beq_iff_eq, Bool.and_eq_true, Bool.or_eq_true, Bool.not_eq_true, ge_iff_le, gt_iff_lt, Int.not_le, Int.not_lt, beq_eq_false_iff_ne, bne_eq_false_iff_eq, ne_eq, Decidable.not_not, wd_zero, wd_one, wd_inj] at hc1
    refine B_exit ?_
    refine K_seqX ?_
    refine K_loopX ?_
    refine K_blkX ?_
    refine K_seq ?_
    refine B_seq ?_
    refine B_region ?_
    refine L_op (env' := uS8n76) rfl rfl (v_move (.inl rfl) rfl) rfl ?_
    refine L_op (env' := uS8n76) rfl rfl (v_move (.inr rfl) rfl) rfl ?_
    refine L_nil ?_
    refine K_seq ?_
    refine B_ret ?_
    refine E_gh (.inr rfl) (vres_tmp rfl rfl) (Gh.ansLV (BaseOk.refl _) hl (under_flatP _ _)) ?_
    obtain rfl : a = m := by omega
    exact ⟨rfl, rfl⟩
end Go.Proofs.YteocbhgdmpdklaaDoor.VT
