/- the reference's Least: walk -/
import Derived.Test.YtpekleeidllllaaDoorS9
set_option autoImplicit false
set_option linter.unusedVariables false
set_option linter.unusedSimpArgs false
set_option maxHeartbeats 4000000
set_option maxRecDepth 100000
namespace Go.Proofs.YtpekleeidllllaaDoor.VT
open Go Go.V Go.RowKit

abbrev uS10n36 {a0 a1 a2 a3 a4 a5 a6 a7 a8 a9 a10 a11 a12 a13 a14 a15 a16 a17 a18 a19 a20 a21 a22 a23 a24 a25 a26 a27 a28 a29 a30 a31 a32 a33 a34 a35 : VVal} : VEnv := a0 :: a1 :: a2 :: a3 :: a4 :: a5 :: a6 :: a7 :: a8 :: a9 :: a10 :: a11 :: a12 :: a13 :: a14 :: a15 :: a16 :: a17 :: a18 :: a19 :: a20 :: a21 :: a22 :: a23 :: a24 :: a25 :: a26 :: a27 :: a28 :: a29 :: a30 :: a31 :: a32 :: a33 :: a34 :: a35 :: []

theorem full_row {w : BitVec 64} {l : List (BitVec 64)} : msk ((w :: l).drop 1) = msk l := rfl
theorem freeR {rows : List (BitVec 64)} {i u : Nat} (hu : u < 64) (hi : i < rows.length) : fullB (1#64 <<< u :: (rows.take i ++ rows.drop (i + 1))) 0#64 = fullB (rows.eraseIdx i) (1#64 <<< u) := by
  rw [Bool.eq_iff_iff, full0, fullB_iff, mat_cons, ← List.eraseIdx_eq_take_drop_succ]
  constructor
  · rintro ⟨v, h1, h2⟩
    rw [shl_bit, Bool.and_eq_true, decide_eq_true_eq] at h1
    rw [← h1.1]; exact h2
  · intro h; exact ⟨u, by rw [shl_bit]; simp [hu], h⟩
/-- the places that are free, up to u -/
def frT (rows : List (BitVec 64)) (i u : Nat) : BitVec 64 := wdP (fun v => (rows.getD i 0).getLsbD v && fullB (rows.eraseIdx i) (1#64 <<< v)) u
theorem frT_all {rows : List (BitVec 64)} {i : Nat} : frT rows i 64 = frW rows i := word_ext fun v hv => by
  unfold frT
  rw [wdP_bit hv, decide_eq_true hv, Bool.true_and, Bool.eq_iff_iff, Bool.and_eq_true, frW_bit, fullB_iff]
theorem refFull_12 {x : SW} (H : VHeap) (rows : List (BitVec 64)) (h : rows.length ≤ 12) : F (psys x) 31 [fzW rows] H fun v G => v = .bool (fullB rows 0#64) ∧ G = H := by
  have := refFull_spec (x := x) H rows (by omega)
  rw [decide_eq_true h, Bool.true_and] at this; exact this
theorem getD_tail {l : List (BitVec 64)} (h : 0 < l.length) : ∃ w m, l = w :: m := by
  cases l with
  | nil => simp at h
  | cons w m => exact ⟨w, m, rfl⟩

theorem refLeast_spec {x : SW} (H : VHeap) (rows : List (BitVec 64)) (h62 : rows.length ≤ 1000000) : F (psys x) 11 [fzW rows] H fun v G => v = leV rows ∧ G = H := by
  refine F_body Tryd.func11 rfl uS10n36 rfl ?_
  refine B_seq ?_
  refine B_region ?_
  refine L_op (env' := uS10n36) rfl rfl (v_const (VVal.slice none 0 0 true 0) (.inr rfl) rfl) rfl ?_
  refine L_op (env' := uS10n36) rfl rfl (v_const (VVal.bool false) (.inr rfl) rfl) rfl ?_
  refine L_nil ?_
  refine K_seq ?_
  refine B_seq ?_
  refine B_seq ?_
  refine B_region ?_
  refine L_op (env' := uS10n36) rfl rfl (v_move (.inl rfl) rfl) rfl ?_
  refine L_call rfl rfl rfl (by exact refFull_spec _ rows h62) ?_
  rintro _ _ ⟨rfl, rfl⟩
  refine L_env (env' := uS10n36) rfl ?_
  refine L_op (env' := uS10n36) rfl rfl (rfl) rfl ?_
  refine L_nil ?_
  refine K_seq ?_
  refine B_cond _ rfl (fun hc1 => ?_) (fun hc1 => ?_)
  · try simp only [decide_eq_true_eq, decide_eq_false_iff_not, Bool.not_eq_true', Bool.not_eq_false', bne_iff_ne, beq_iff_eq, Bool.and_eq_true, Bool.or_eq_true, Bool.not_eq_true, ge_iff_le, gt_iff_lt, Int.not_le, Int.not_lt, beq_eq_false_iff_ne, bne_eq_false_iff_eq, ne_eq, Decidable.not_not, wd_zero, wd_one, wd_inj] at hc1
    refine B_seq ?_
    refine B_region ?_
    refine L_op (env' := uS10n36) rfl rfl (v_const (VVal.slice none 0 0 true 0) (.inr rfl) rfl) rfl ?_
    refine L_op (env' := uS10n36) rfl rfl (v_const (VVal.bool false) (.inr rfl) rfl) rfl ?_
    refine L_nil ?_
    refine K_seq ?_
    refine B_gh (Gh.freezeNil 2 (es' := 1) rfl rfl) ?_
    refine B_ret ?_
    refine K_seqR ?_
    refine E_app (.inr rfl) (vres_tmp2 rfl rfl rfl) (by first | exact BaseOk.refl _ | exact BaseOk.set (BaseOk.refl _) _ rfl) (by first | rfl | simp [VVal.under, VVal.underL, mapN_under, *]) ?_
    first
      | exact ⟨by rw [leV, if_neg (fun e => by rw [decide_eq_true e.1, e.2] at hc1; cases hc1)]; rfl, rfl⟩
      | (obtain rfl : r = [] := List.eq_nil_of_length_eq_zero (by omega)); exact ⟨by rw [leV, if_pos hc1, hlst]; simp [lst], rfl⟩
  · try simp only [decide_eq_true_eq, decide_eq_false_iff_not, Bool.not_eq_true', Bool.not_eq_false', bne_iff_ne, beq_iff_eq, Bool.and_eq_true, Bool.or_eq_true, Bool.not_eq_true, ge_iff_le, gt_iff_lt, Int.not_le, Int.not_lt, beq_eq_false_iff_ne, bne_eq_false_iff_eq, ne_eq, Decidable.not_not, wd_zero, wd_one, wd_inj] at hc1
    refine B_skip ?_
    refine K_seq ?_
    refine B_seq ?_
    refine B_region ?_
    refine L_op (env' := uS10n36) rfl rfl (v_const (VVal.slice none 0 0 true 0) (.inr rfl) rfl) rfl ?_
    refine L_nil ?_
    refine K_seq ?_
    refine B_seq ?_
    refine B_block ?_
    refine B_clear [false,true,true,true,false,true,true,true,true,true,true,true,true,true,true,true,true,true,true,true,true,true,true,true,true,true,true,true,true,true,true,true,true,true,true,true] (env' := uS10n36) rfl ?_
    refine B_loopE (fun (⟨r, ds, lv⟩ : List (BitVec 64) × List Nat × VVal) => r.length) (fun (⟨r, ds, lv⟩ : List (BitVec 64) × List Nat × VVal) => [(0, fzW r), (4, lv)]) (fun (⟨r, ds, lv⟩ : List (BitVec 64) × List Nat × VVal) G => (fullB r 0#64 = true ∧ r.length ≤ 12 ∧ ds.length + r.length = rows.length ∧ lst rows 0#64 = ds ++ lst r 0#64) ∧ ∃ X, G = H ++ X ∧ LV H.length 1 X lv (ds.map iN) ds.length) ⟨rows, [], _⟩ rfl ?_ ?_
    · refine ⟨?_, ⟨_, rfl, LV.nil _ _ _⟩⟩
      exact ⟨hc1.2, hc1.1, by simp, by simp⟩
    rintro ⟨r, ds, lv⟩ _ ⟨⟨hfr, hr12, hdl, hlst⟩, ⟨X, rfl, hl⟩⟩
    refine B_env (env' := uS10n36) rfl ?_
    refine B_seq ?_
    refine B_seq ?_
    refine B_region ?_
    refine L_op (env' := uS10n36) rfl rfl (v_move (.inl rfl) rfl) rfl ?_
    refine L_op (env' := uS10n36) rfl rfl (rfl) rfl ?_
    refine L_op (env' := uS10n36) rfl rfl (rfl) rfl ?_
    refine L_nil ?_
    refine K_seq ?_
    refine B_cond _ rfl (fun hc2 => ?_) (fun hc2 => ?_)
    · try simp only [decide_eq_true_eq, decide_eq_false_iff_not, Bool.not_eq_true', Bool.not_eq_false', bne_iff_ne, beq_iff_eq, Bool.and_eq_true, Bool.or_eq_true, Bool.not_eq_true, ge_iff_le, gt_iff_lt, Int.not_le, Int.not_lt, beq_eq_false_iff_ne, bne_eq_false_iff_eq, ne_eq, Decidable.not_not, wd_zero, wd_one, wd_inj] at hc2
      refine B_skip ?_
      refine K_seq ?_
      refine B_block ?_
      refine B_seq ?_
      obtain ⟨w, m, rfl⟩ := getD_tail (l := r) (by omega)
      obtain ⟨u0, hu0, hw0, hf0⟩ := first_ex hfr
      refine B_region ?_
      refine L_op (env' := uS10n36) rfl rfl (v_const (VVal.int .i64 0) (.inr rfl) rfl) rfl ?_
      refine L_nil ?_
      refine K_seq ?_
      refine B_seq ?_
      refine B_block ?_
      refine B_clear [false,true,true,true,false,false,true,true,true,true,true,true,true,true,true,true,true,true,true,true,true,true,true,true,true,true,true,true,true,true,true,true,true,true,true,true] (env' := uS10n36) rfl ?_
      refine B_loopE (fun (u : Nat) => 64 - u) (fun (u : Nat) => [(5, iI (u : Nat))]) (fun (u : Nat) G => (u ≤ u0 ∧ ∀ v, v < u → w.getLsbD v = true → fullB (msk m (1#64 <<< v)) 0#64 = false) ∧ G = H ++ X) 0 rfl ?_ ?_
      · refine ⟨?_, rfl⟩
        exact ⟨Nat.zero_le _, fun v h => by omega⟩
      rintro u _ ⟨⟨hu, hno⟩, rfl⟩
      refine B_env (env' := uS10n36) rfl ?_
      refine B_seq ?_
      refine B_seq ?_
      refine B_region ?_
      refine L_op (env' := uS10n36) rfl rfl (v_move (.inl rfl) rfl) rfl ?_
      refine L_op (env' := uS10n36) rfl rfl (by first | exact v_idxF rfl rfl rfl rfl rfl rfl rfl (by first | assumption | omega | (simp [*]; done) | (simp at *; omega)) | exact v_idx rfl rfl rfl rfl rfl rfl rfl (by first | assumption | omega | (simp [*]; done) | (simp at *; omega))) rfl ?_
      refine L_op (env' := uS10n36) rfl rfl (by first | exact v_loadF rfl rfl rfl rfl (by first | exact fget (α := BitVec 64) (n := 0) 0 (by omega) | rfl) | exact v_load rfl rfl rfl rfl (by first | exact get_app rfl rfl | exact get_out (by assumption) | assumption | (simp [*]; done)) (by first | exact fget (α := BitVec 64) (n := 0) 0 (by omega) | rfl)) rfl ?_
      refine L_op (env' := uS10n36) rfl rfl (v_move (.inl rfl) rfl) rfl ?_
      refine L_op (env' := uS10n36) rfl rfl (v_shrW rfl rfl rfl (by first | assumption | omega | (simp [*]; done) | (simp at *; omega))) rfl ?_
      refine L_op (env' := uS10n36) rfl rfl (v_andW (b := 1#64) rfl rfl rfl) rfl ?_
      refine L_op (env' := uS10n36) rfl rfl (rfl) rfl ?_
      refine L_op (env' := uS10n36) rfl rfl (v_move (.inl rfl) rfl) rfl ?_
      refine L_split 19 (env1 := uS10n36) (env2 := uS10n36) rfl rfl rfl (fun hg3 => ?_) (fun hg3 => ?_)
      · try simp only [decide_eq_true_eq, decide_eq_false_iff_not, Bool.not_eq_true', Bool.not_eq_false', bne_iff_ne, beq_iff_eq, Bool.and_eq_true, Bool.or_eq_true, Bool.not_eq_true, ge_iff_le, gt_iff_lt, Int.not_le, Int.not_lt, beq_eq_false_iff_ne, bne_eq_false_iff_eq, ne_eq, Decidable.not_not, wd_zero, wd_one, wd_inj] at hg3
        refine L_off (env' := uS10n36) rfl rfl ?_
        refine L_off (env' := uS10n36) rfl rfl ?_
        refine L_off (env' := uS10n36) rfl rfl ?_
        refine L_off (env' := uS10n36) rfl rfl ?_
        refine L_off (env' := uS10n36) rfl rfl ?_
        refine L_op (env' := uS10n36) rfl rfl (v_pickTC (VVal.bool true) rfl rfl rfl) rfl ?_
        refine L_nil ?_
        refine K_seq ?_
        refine B_true rfl rfl ?_
        refine B_skip ?_
        refine K_seq ?_
        refine B_block ?_
        refine B_region ?_
        refine L_op (env' := uS10n36) rfl rfl (v_move (.inl rfl) rfl) rfl ?_
        refine L_op (env' := uS10n36) rfl rfl (v_addI rfl rfl rfl (by first | assumption | omega | (simp [*]; done) | (simp at *; omega))) rfl ?_
        refine L_op (env' := uS10n36) rfl rfl (v_move (.inr rfl) rfl) rfl ?_
        refine L_nil ?_
        refine K_blk ?_
        refine K_loop [false,true,true,true,false,false,true,true,true,true,true,true,true,true,true,true,true,true,true,true,true,true,true,true,true,true,true,true,true,true,true,true,true,true,true,true] (env' := uS10n36) rfl ⟨u + 1, ?_, rfl, ?_⟩
        · first | omega | (simp only []; omega)
        · first | exact ⟨⟨Nat.lt_of_le_of_ne hu (fun e => by subst e; rw [sh0.1 (by assumption)] at hw0; cases hw0), fun v hv hb => by by_cases e : v = u; (subst e; rw [sh0.1 (by assumption)] at hb; cases hb); exact hno v (by omega) hb⟩, rfl⟩ | exact ⟨⟨Nat.lt_of_le_of_ne hu (fun e => by subst e; exact absurd hf0 (not_of_f (by assumption))), fun v hv hb => by by_cases e : v = u; (subst e; assumption); exact hno v (by omega) hb⟩, rfl⟩
      · try simp only [decide_eq_true_eq, decide_eq_false_iff_not, Bool.not_eq_true', Bool.not_eq_false', bne_iff_ne, beq_iff_eq, Bool.and_eq_true, Bool.or_eq_true, Bool.not_eq_true, ge_iff_le, gt_iff_lt, Int.not_le, Int.not_lt, beq_eq_false_iff_ne, bne_eq_false_iff_eq, ne_eq, Decidable.not_not, wd_zero, wd_one, wd_inj] at hg3
        refine L_op (env' := uS10n36) rfl rfl (v_move (.inl rfl) rfl) rfl ?_
        refine L_op (env' := uS10n36) rfl rfl (v_move (.inl rfl) rfl) rfl ?_
        refine L_call rfl rfl rfl (by exact given_spec _ (w :: m) u (Nat.le_trans (show (w :: m).length ≤ 12 from hr12) (by decide))) ?_
        rintro _ _ ⟨rfl, rfl⟩
        refine L_env (env' := uS10n36) rfl ?_
        refine L_call rfl rfl rfl (by exact refFull_12 _ (msk m (1#64 <<< u)) (by rw [msk_len]; simp only [List.length_cons] at hr12; omega)) ?_
        rintro _ _ ⟨rfl, rfl⟩
        refine L_env (env' := uS10n36) rfl ?_
        refine L_op (env' := uS10n36) rfl rfl (rfl) rfl ?_
        refine L_op (env' := uS10n36) rfl rfl (v_pickF rfl rfl rfl) rfl ?_
        refine L_nil ?_
        refine K_seq ?_
        refine B_cond _ rfl (fun hc4 => ?_) (fun hc4 => ?_)
        · try simp only [decide_eq_true_eq, decide_eq_false_iff_not, Bool.not_eq_true', Bool.not_eq_false', bne_iff_ne, beq_iff_eq, Bool.and_eq_true, Bool.or_eq_true, Bool.not_eq_true, ge_iff_le, gt_iff_lt, Int.not_le, Int.not_lt, beq_eq_false_iff_ne, bne_eq_false_iff_eq, ne_eq, Decidable.not_not, wd_zero, wd_one, wd_inj] at hc4
          refine B_skip ?_
          refine K_seq ?_
          refine B_block ?_
          refine B_region ?_
          refine L_op (env' := uS10n36) rfl rfl (v_move (.inl rfl) rfl) rfl ?_
          refine L_op (env' := uS10n36) rfl rfl (v_addI rfl rfl rfl (by first | assumption | omega | (simp [*]; done) | (simp at *; omega))) rfl ?_
          refine L_op (env' := uS10n36) rfl rfl (v_move (.inr rfl) rfl) rfl ?_
          refine L_nil ?_
          refine K_blk ?_
          refine K_loop [false,true,true,true,false,false,true,true,true,true,true,true,true,true,true,true,true,true,true,true,true,true,true,true,true,true,true,true,true,true,true,true,true,true,true,true] (env' := uS10n36) rfl ⟨u + 1, ?_, rfl, ?_⟩
          · first | omega | (simp only []; omega)
          · first | exact ⟨⟨Nat.lt_of_le_of_ne hu (fun e => by subst e; rw [sh0.1 (by assumption)] at hw0; cases hw0), fun v hv hb => by by_cases e : v = u; (subst e; rw [sh0.1 (by assumption)] at hb; cases hb); exact hno v (by omega) hb⟩, rfl⟩ | exact ⟨⟨Nat.lt_of_le_of_ne hu (fun e => by subst e; exact absurd hf0 (not_of_f (by assumption))), fun v hv hb => by by_cases e : v = u; (subst e; assumption); exact hno v (by omega) hb⟩, rfl⟩
        · try simp only [decide_eq_true_eq, decide_eq_false_iff_not, Bool.not_eq_true', Bool.not_eq_false', bne_iff_ne, beq_iff_eq, Bool.and_eq_true, Bool.or_eq_true, Bool.not_eq_true, ge_iff_le, gt_iff_lt, Int.not_le, Int.not_lt, beq_eq_false_iff_ne, bne_eq_false_iff_eq, ne_eq, Decidable.not_not, wd_zero, wd_one, wd_inj] at hc4
          refine B_exit ?_
          refine K_seqX ?_
          refine K_loopX ?_
          refine K_blkX ?_
          refine K_seq ?_
          refine B_seq ?_
          have hbit : w.getLsbD u = true := sh_not0 (by assumption)
          have hfu : fullB (msk m (1#64 <<< u)) 0#64 = true := by assumption
          simp only [List.length_cons] at hr12 hdl
          refine B_region ?_
          refine L_op (env' := uS10n36) rfl rfl (v_move (.inl rfl) rfl) rfl ?_
          refine L_op (env' := uS10n36) rfl rfl (v_move (.inl rfl) rfl) rfl ?_
          refine L_op (env' := uS10n36) rfl rfl (v_buildSlice rfl rfl (by decide) rfl) rfl ?_
          refine L_opX rfl rfl (v_appX rfl rfl rfl rfl rfl rfl rfl hl rfl rfl (by decide) (by show (ds.length + 1) * 8 ≤ _ ∧ ds.length + 1 ≤ _; omega) (by decide)) ?_
          rintro _ _ ⟨Y1, rfl, rfl, hY1, hY2, hY3⟩
          refine L_env (env' := uS10n36) rfl ?_
          refine L_op (env' := uS10n36) rfl rfl (v_move (.inr rfl) rfl) rfl ?_
          refine L_nil ?_
          refine K_seq ?_
          refine B_region ?_
          refine L_op (env' := uS10n36) rfl rfl (v_move (.inl rfl) rfl) rfl ?_
          refine L_op (env' := uS10n36) rfl rfl (v_move (.inl rfl) rfl) rfl ?_
          refine L_call rfl rfl rfl (by exact given_spec _ (w :: m) u (Nat.le_trans (show (w :: m).length ≤ 12 from hr12) (by decide))) ?_
          rintro _ _ ⟨rfl, rfl⟩
          refine L_env (env' := uS10n36) rfl ?_
          refine L_op (env' := uS10n36) rfl rfl (v_move (.inr rfl) rfl) rfl ?_
          refine L_nil ?_
          refine K_blk ?_
          refine K_loop [false,true,true,true,false,true,true,true,true,true,true,true,true,true,true,true,true,true,true,true,true,true,true,true,true,true,true,true,true,true,true,true,true,true,true,true] (env' := uS10n36) rfl ⟨⟨msk m (1#64 <<< u), ds ++ [u], _⟩, ?_, rfl, ?_⟩
          · show (msk m (1#64 <<< u)).length < (w :: m).length; rw [msk_len]; simp
          · exact ⟨⟨hfu, by rw [msk_len]; omega, by rw [List.length_append, msk_len]; show ds.length + 1 + m.length = _; omega, hlst.trans ((congrArg (ds ++ ·) (lst_first (by omega) hbit hfu hno)).trans (by simp))⟩, _, rfl, by rw [List.length_append]; exact LV.appN hY3⟩
    · try simp only [decide_eq_true_eq, decide_eq_false_iff_not, Bool.not_eq_true', Bool.not_eq_false', bne_iff_ne, beq_iff_eq, Bool.and_eq_true, Bool.or_eq_true, Bool.not_eq_true, ge_iff_le, gt_iff_lt, Int.not_le, Int.not_lt, beq_eq_false_iff_ne, bne_eq_false_iff_eq, ne_eq, Decidable.not_not, wd_zero, wd_one, wd_inj] at hc2
      refine B_exit ?_
      refine K_seqX ?_
      refine K_loopX ?_
      refine K_blkX ?_
      refine K_seq ?_
      refine B_seq ?_
      refine B_region ?_
      refine L_op (env' := uS10n36) rfl rfl (v_move (.inl rfl) rfl) rfl ?_
      refine L_op (env' := uS10n36) rfl rfl (v_move (.inr rfl) rfl) rfl ?_
      refine L_op (env' := uS10n36) rfl rfl (v_const (VVal.bool true) (.inr rfl) rfl) rfl ?_
      refine L_nil ?_
      refine K_seq ?_
      refine B_ghLV (env' := uS10n36) 2 hl rfl rfl fun X2 _ _ => ?_
      refine B_ret ?_
      refine E_app (.inr rfl) (vres_tmp2 rfl rfl rfl) (by first | exact BaseOk.refl _ | exact BaseOk.set (BaseOk.refl _) _ rfl) (by first | rfl | simp [VVal.under, VVal.underL, mapN_under, *]) ?_
      first
        | exact ⟨by rw [leV, if_neg (fun e => by rw [decide_eq_true e.1, e.2] at hc1; cases hc1)]; rfl, rfl⟩
        | (obtain rfl : r = [] := List.eq_nil_of_length_eq_zero (by omega)); exact ⟨by rw [leV, if_pos hc1, hlst]; simp [lst], rfl⟩
end Go.Proofs.YtpekleeidllllaaDoor.VT
