/- the reference's Free: walk -/
import Derived.Test.YtpekleeidllllaaDoorS10
set_option autoImplicit false
set_option linter.unusedVariables false
set_option linter.unusedSimpArgs false
set_option maxHeartbeats 4000000
set_option maxRecDepth 100000
namespace Go.Proofs.YtpekleeidllllaaDoor.VT
open Go Go.V Go.RowKit

abbrev uS11n54 {a0 a1 a2 a3 a4 a5 a6 a7 a8 a9 a10 a11 a12 a13 a14 a15 a16 a17 a18 a19 a20 a21 a22 a23 a24 a25 a26 a27 a28 a29 a30 a31 a32 a33 a34 a35 a36 a37 a38 a39 a40 a41 a42 a43 a44 a45 a46 a47 a48 a49 a50 a51 a52 a53 : VVal} : VEnv := a0 :: a1 :: a2 :: a3 :: a4 :: a5 :: a6 :: a7 :: a8 :: a9 :: a10 :: a11 :: a12 :: a13 :: a14 :: a15 :: a16 :: a17 :: a18 :: a19 :: a20 :: a21 :: a22 :: a23 :: a24 :: a25 :: a26 :: a27 :: a28 :: a29 :: a30 :: a31 :: a32 :: a33 :: a34 :: a35 :: a36 :: a37 :: a38 :: a39 :: a40 :: a41 :: a42 :: a43 :: a44 :: a45 :: a46 :: a47 :: a48 :: a49 :: a50 :: a51 :: a52 :: a53 :: []

theorem refFree_spec {x : SW} (H : VHeap) (l : List (BitVec 64)) (i : Int) (h62 : l.length ≤ 1000000) : F (psys x) 16 [fzW l, iI i] H fun v G => v = iW (freeV l i) ∧ G = H := by
  refine F_body Tryd.func16 rfl uS11n54 rfl ?_
  refine B_seq ?_
  refine B_region ?_
  refine L_op (env' := uS11n54) rfl rfl (v_const (VVal.int .u64 0) (.inr rfl) rfl) rfl ?_
  refine L_nil ?_
  refine K_seq ?_
  refine B_seq ?_
  refine B_seq ?_
  refine B_region ?_
  refine L_op (env' := uS11n54) rfl rfl (v_move (.inl rfl) rfl) rfl ?_
  refine L_op (env' := uS11n54) rfl rfl (rfl) rfl ?_
  refine L_op (env' := uS11n54) rfl rfl (rfl) rfl ?_
  refine L_op (env' := uS11n54) rfl rfl (v_move (.inl rfl) rfl) rfl ?_
  refine L_split 11 (env1 := uS11n54) (env2 := uS11n54) rfl rfl rfl (fun hg1 => ?_) (fun hg1 => ?_)
  · try simp only [decide_eq_true_eq, decide_eq_false_iff_not, Bool.not_eq_true', Bool.not_eq_false', bne_iff_ne, beq_iff_eq, Bool.and_eq_true, Bool.or_eq_true, Bool.not_eq_true, ge_iff_le, gt_iff_lt, Int.not_le, Int.not_lt, beq_eq_false_iff_ne, bne_eq_false_iff_eq, ne_eq, Decidable.not_not, wd_zero, wd_one, wd_inj] at hg1
    refine L_off (env' := uS11n54) rfl rfl ?_
    refine L_off (env' := uS11n54) rfl rfl ?_
    refine L_op (env' := uS11n54) rfl rfl (v_pickTC (VVal.bool true) rfl rfl rfl) rfl ?_
    refine L_op (env' := uS11n54) rfl rfl (v_move (.inl rfl) rfl) rfl ?_
    refine L_off (env' := uS11n54) rfl rfl ?_
    refine L_off (env' := uS11n54) rfl rfl ?_
    refine L_off (env' := uS11n54) rfl rfl ?_
    refine L_off (env' := uS11n54) rfl rfl ?_
    refine L_op (env' := uS11n54) rfl rfl (v_pickTC (VVal.bool true) rfl rfl rfl) rfl ?_
    refine L_nil ?_
    refine K_seq ?_
    refine B_true rfl rfl ?_
    refine B_seq ?_
    refine B_region ?_
    refine L_op (env' := uS11n54) rfl rfl (v_const (VVal.int .u64 0) (.inr rfl) rfl) rfl ?_
    refine L_nil ?_
    refine K_seq ?_
    refine B_ret ?_
    refine K_seqR ?_
    refine E_app (.inr rfl) (vres_tmp rfl rfl) (by first | exact BaseOk.refl _ | exact BaseOk.set (BaseOk.refl _) _ rfl) (by first | rfl | simp [VVal.under, VVal.underL, *]) ?_
    first
      | exact ⟨by rw [freeV, if_neg (by omega)]; rfl, rfl⟩
      | (obtain rfl : u = 64 := by omega); exact ⟨by rw [freeV, if_pos (by omega), frT_all], rfl⟩
  · try simp only [decide_eq_true_eq, decide_eq_false_iff_not, Bool.not_eq_true', Bool.not_eq_false', bne_iff_ne, beq_iff_eq, Bool.and_eq_true, Bool.or_eq_true, Bool.not_eq_true, ge_iff_le, gt_iff_lt, Int.not_le, Int.not_lt, beq_eq_false_iff_ne, bne_eq_false_iff_eq, ne_eq, Decidable.not_not, wd_zero, wd_one, wd_inj] at hg1
    refine L_op (env' := uS11n54) rfl rfl (v_move (.inl rfl) rfl) rfl ?_
    refine L_op (env' := uS11n54) rfl rfl (rfl) rfl ?_
    refine L_op (env' := uS11n54) rfl rfl (v_pickF rfl rfl rfl) rfl ?_
    refine L_op (env' := uS11n54) rfl rfl (v_move (.inl rfl) rfl) rfl ?_
    refine L_split 15 (env1 := uS11n54) (env2 := uS11n54) rfl rfl rfl (fun hg2 => ?_) (fun hg2 => ?_)
    · try simp only [decide_eq_true_eq, decide_eq_false_iff_not, Bool.not_eq_true', Bool.not_eq_false', bne_iff_ne, beq_iff_eq, Bool.and_eq_true, Bool.or_eq_true, Bool.not_eq_true, ge_iff_le, gt_iff_lt, Int.not_le, Int.not_lt, beq_eq_false_iff_ne, bne_eq_false_iff_eq, ne_eq, Decidable.not_not, wd_zero, wd_one, wd_inj] at hg2
      refine L_off (env' := uS11n54) rfl rfl ?_
      refine L_off (env' := uS11n54) rfl rfl ?_
      refine L_off (env' := uS11n54) rfl rfl ?_
      refine L_off (env' := uS11n54) rfl rfl ?_
      refine L_op (env' := uS11n54) rfl rfl (v_pickTC (VVal.bool true) rfl rfl rfl) rfl ?_
      refine L_nil ?_
      refine K_seq ?_
      refine B_true rfl rfl ?_
      refine B_seq ?_
      refine B_region ?_
      refine L_op (env' := uS11n54) rfl rfl (v_const (VVal.int .u64 0) (.inr rfl) rfl) rfl ?_
      refine L_nil ?_
      refine K_seq ?_
      refine B_ret ?_
      refine K_seqR ?_
      refine E_app (.inr rfl) (vres_tmp rfl rfl) (by first | exact BaseOk.refl _ | exact BaseOk.set (BaseOk.refl _) _ rfl) (by first | rfl | simp [VVal.under, VVal.underL, *]) ?_
      first
        | exact ⟨by rw [freeV, if_neg (by omega)]; rfl, rfl⟩
        | (obtain rfl : u = 64 := by omega); exact ⟨by rw [freeV, if_pos (by omega), frT_all], rfl⟩
    · try simp only [decide_eq_true_eq, decide_eq_false_iff_not, Bool.not_eq_true', Bool.not_eq_false', bne_iff_ne, beq_iff_eq, Bool.and_eq_true, Bool.or_eq_true, Bool.not_eq_true, ge_iff_le, gt_iff_lt, Int.not_le, Int.not_lt, beq_eq_false_iff_ne, bne_eq_false_iff_eq, ne_eq, Decidable.not_not, wd_zero, wd_one, wd_inj] at hg2
      refine L_op (env' := uS11n54) rfl rfl (v_move (.inl rfl) rfl) rfl ?_
      refine L_op (env' := uS11n54) rfl rfl (v_move (.inl rfl) rfl) rfl ?_
      refine L_op (env' := uS11n54) rfl rfl (rfl) rfl ?_
      refine L_op (env' := uS11n54) rfl rfl (rfl) rfl ?_
      refine L_op (env' := uS11n54) rfl rfl (v_pickF rfl rfl rfl) rfl ?_
      refine L_nil ?_
      refine K_seq ?_
      refine B_cond _ rfl (fun hc3 => ?_) (fun hc3 => ?_)
      · try simp only [decide_eq_true_eq, decide_eq_false_iff_not, Bool.not_eq_true', Bool.not_eq_false', bne_iff_ne, beq_iff_eq, Bool.and_eq_true, Bool.or_eq_true, Bool.not_eq_true, ge_iff_le, gt_iff_lt, Int.not_le, Int.not_lt, beq_eq_false_iff_ne, bne_eq_false_iff_eq, ne_eq, Decidable.not_not, wd_zero, wd_one, wd_inj] at hc3
        refine B_seq ?_
        refine B_region ?_
        refine L_op (env' := uS11n54) rfl rfl (v_const (VVal.int .u64 0) (.inr rfl) rfl) rfl ?_
        refine L_nil ?_
        refine K_seq ?_
        refine B_ret ?_
        refine K_seqR ?_
        refine E_app (.inr rfl) (vres_tmp rfl rfl) (by first | exact BaseOk.refl _ | exact BaseOk.set (BaseOk.refl _) _ rfl) (by first | rfl | simp [VVal.under, VVal.underL, *]) ?_
        first
          | exact ⟨by rw [freeV, if_neg (by omega)]; rfl, rfl⟩
          | (obtain rfl : u = 64 := by omega); exact ⟨by rw [freeV, if_pos (by omega), frT_all], rfl⟩
      · try simp only [decide_eq_true_eq, decide_eq_false_iff_not, Bool.not_eq_true', Bool.not_eq_false', bne_iff_ne, beq_iff_eq, Bool.and_eq_true, Bool.or_eq_true, Bool.not_eq_true, ge_iff_le, gt_iff_lt, Int.not_le, Int.not_lt, beq_eq_false_iff_ne, bne_eq_false_iff_eq, ne_eq, Decidable.not_not, wd_zero, wd_one, wd_inj] at hc3
        refine B_skip ?_
        refine K_seq ?_
        refine B_seq ?_
        refine B_region ?_
        refine L_op (env' := uS11n54) rfl rfl (v_const (VVal.int .u64 0) (.inr rfl) rfl) rfl ?_
        refine L_nil ?_
        refine K_seq ?_
        refine B_seq ?_
        refine B_seq ?_
        refine B_region ?_
        refine L_op (env' := uS11n54) rfl rfl (v_const (VVal.int .i64 0) (.inr rfl) rfl) rfl ?_
        refine L_nil ?_
        refine K_seq ?_
        refine B_block ?_
        refine B_clear [false,false,true,true,true,false,false,true,true,true,true,true,true,true,true,true,true,true,true,true,true,true,true,true,true,true,true,true,true,true,true,true,true,true,true,true,true,true,true,true,true,true,true,true,true,true,true,true,true,true,true,true,true,true] (env' := uS11n54) rfl ?_
        refine B_loopE (fun (u : Nat) => 64 - u) (fun (u : Nat) => [(5, iW (frT l i.toNat u)), (6, iI (u : Nat))]) (fun (u : Nat) G => (u ≤ 64) ∧ ∃ X, G = H ++ X) 0 (by rw [show frT l i.toNat 0 = 0#64 from wdP_0 _]; rfl) ?_ ?_
        · refine ⟨?_, ⟨_, rfl⟩⟩
          exact Nat.zero_le _
        rintro u _ ⟨hu, ⟨X, rfl⟩⟩
        refine B_env (env' := uS11n54) rfl ?_
        refine B_seq ?_
        refine B_seq ?_
        refine B_region ?_
        refine L_op (env' := uS11n54) rfl rfl (v_move (.inl rfl) rfl) rfl ?_
        refine L_op (env' := uS11n54) rfl rfl (rfl) rfl ?_
        refine L_nil ?_
        refine K_seq ?_
        refine B_cond _ rfl (fun hc4 => ?_) (fun hc4 => ?_)
        · try simp only [decide_eq_true_eq, decide_eq_false_iff_not, Bool.not_eq_true', Bool.not_eq_false', bne_iff_ne, beq_iff_eq, Bool.and_eq_true, Bool.or_eq_true, Bool.not_eq_true, ge_iff_le, gt_iff_lt, Int.not_le, Int.not_lt, beq_eq_false_iff_ne, bne_eq_false_iff_eq, ne_eq, Decidable.not_not, wd_zero, wd_one, wd_inj] at hc4
          refine B_skip ?_
          refine K_seq ?_
          refine B_seq ?_
          refine B_block ?_
          refine B_seq ?_
          refine B_region ?_
          refine L_op (env' := uS11n54) rfl rfl (v_move (.inl rfl) rfl) rfl ?_
          refine L_op (env' := uS11n54) rfl rfl (v_move (.inl rfl) rfl) rfl ?_
          refine L_op (env' := uS11n54) rfl rfl (by first | exact v_idxF rfl rfl rfl rfl rfl rfl rfl (by first | assumption | omega | (simp [*]; done) | (simp at *; omega)) | exact v_idx rfl rfl rfl rfl rfl rfl rfl (by first | assumption | omega | (simp [*]; done) | (simp at *; omega))) rfl ?_
          refine L_op (env' := uS11n54) rfl rfl (by first | exact v_loadF rfl rfl rfl rfl (by first | rfl | assumption | exact fget (α := BitVec 64) 0 (by omega) | exact fget (α := Int) 0 (by omega) | exact fget0 (α := BitVec 64) 0 (by omega) | exact fget0 (α := Int) 0 (by omega) | exact fget (α := Bool) false (by omega) | exact fget0 (α := Bool) false (by omega) | (simp [*]; done)) | exact v_load rfl rfl rfl rfl (by first | exact get_app rfl rfl | exact get_out (by assumption) | assumption | (simp [*]; done)) (by first | rfl | assumption | exact fget (α := BitVec 64) 0 (by omega) | exact fget (α := Int) 0 (by omega) | exact fget0 (α := BitVec 64) 0 (by omega) | exact fget0 (α := Int) 0 (by omega) | exact fget (α := Bool) false (by omega) | exact fget0 (α := Bool) false (by omega) | (simp [*]; done))) rfl ?_
          refine L_op (env' := uS11n54) rfl rfl (v_move (.inl rfl) rfl) rfl ?_
          refine L_op (env' := uS11n54) rfl rfl (v_shrW rfl rfl rfl (by first | assumption | omega | (simp [*]; done) | (simp at *; omega))) rfl ?_
          refine L_op (env' := uS11n54) rfl rfl (v_andW (b := 1#64) rfl rfl rfl) rfl ?_
          refine L_op (env' := uS11n54) rfl rfl (rfl) rfl ?_
          refine L_nil ?_
          refine K_seq ?_
          refine B_cond _ rfl (fun hc5 => ?_) (fun hc5 => ?_)
          · try simp only [decide_eq_true_eq, decide_eq_false_iff_not, Bool.not_eq_true', Bool.not_eq_false', bne_iff_ne, beq_iff_eq, Bool.and_eq_true, Bool.or_eq_true, Bool.not_eq_true, ge_iff_le, gt_iff_lt, Int.not_le, Int.not_lt, beq_eq_false_iff_ne, bne_eq_false_iff_eq, ne_eq, Decidable.not_not, wd_zero, wd_one, wd_inj] at hc5
            refine B_seq ?_
            refine B_region ?_
            refine L_op (env' := uS11n54) rfl rfl (v_move (.inl rfl) rfl) rfl ?_
            refine L_op (env' := uS11n54) rfl rfl (v_shl1 rfl rfl rfl (by first | assumption | omega | (simp [*]; done) | (simp at *; omega))) rfl ?_
            refine L_op (env' := uS11n54) rfl rfl (v_buildSlice rfl rfl (by decide) rfl) rfl ?_
            refine L_op (env' := uS11n54) rfl rfl (v_move (.inr rfl) rfl) rfl ?_
            refine L_nil ?_
            refine K_seq ?_
            refine B_seq ?_
            refine B_region ?_
            refine L_op (env' := uS11n54) rfl rfl (v_move (.inl rfl) rfl) rfl ?_
            refine L_op (env' := uS11n54) rfl rfl (v_move (.inl rfl) rfl) rfl ?_
            refine L_op (env' := uS11n54) rfl rfl (v_move (.inl rfl) rfl) rfl ?_
            refine L_op (env' := uS11n54) rfl rfl (v_wHi (k := i.toNat) rfl rfl rfl rfl rfl rfl (show iI i = .int .i64 ((i.toNat : Nat) : Int) by rw [Int.toNat_of_nonneg (by omega)]) (by omega)) rfl ?_
            refine L_opX rfl rfl (v_appO2 (n := 1) (k := (l.take i.toNat).length) (cs := [iW (1#64 <<< u)]) rfl rfl rfl rfl rfl rfl get_end rfl rfl (by rw [List.length_map]; exact (Nat.mul_one _).symm) (mapW_one _) (by decide) (by rw [List.length_take]; show (1 + min i.toNat l.length) * 8 ≤ _ ∧ _; omega)) ?_
            rintro _ _ ⟨Z, b, ex, rfl, rfl, hZ⟩
            refine L_env (env' := uS11n54) rfl ?_
            refine L_op (env' := uS11n54) rfl rfl (v_move (.inr rfl) rfl) rfl ?_
            refine L_nil ?_
            refine K_seq ?_
            refine B_seq ?_
            refine B_region ?_
            refine L_op (env' := uS11n54) rfl rfl (v_move (.inl rfl) rfl) rfl ?_
            refine L_op (env' := uS11n54) rfl rfl (v_move (.inl rfl) rfl) rfl ?_
            refine L_op (env' := uS11n54) rfl rfl (v_move (.inl rfl) rfl) rfl ?_
            refine L_op (env' := uS11n54) rfl rfl (v_addI rfl rfl rfl (by first | assumption | omega | (simp [*]; done) | (simp at *; omega))) rfl ?_
            refine L_op (env' := uS11n54) rfl rfl (v_wLo (k := i.toNat + 1) rfl rfl rfl rfl rfl rfl (show iI (i + 1) = .int .i64 ((i.toNat + 1 : Nat) : Int) by rw [show ((i.toNat + 1 : Nat) : Int) = i + 1 by omega]) (by omega)) rfl ?_
            refine L_opX rfl rfl (v_appO2 (n := 1 + (l.take i.toNat).length) (k := (l.drop (i.toNat + 1)).length) (cs := [iW (1#64 <<< u)] ++ (l.take i.toNat).map iW) rfl rfl rfl rfl rfl rfl hZ (by rw [List.length_append, List.length_map]; exact (Nat.mul_one _).symm) rfl (by rw [List.length_map]; exact (Nat.mul_one _).symm) (mapW_one _) (by decide) (by rw [List.length_take, List.length_drop]; show (1 + min i.toNat l.length + (l.length - (i.toNat + 1))) * 8 ≤ _ ∧ _; omega)) ?_
            rintro _ _ ⟨Z2, b2, ex2, rfl, rfl, hZ2⟩
            refine L_env (env' := uS11n54) rfl ?_
            refine L_op (env' := uS11n54) rfl rfl (v_move (.inr rfl) rfl) rfl ?_
            refine L_nil ?_
            refine K_seq ?_
            refine B_seq ?_
            refine B_region ?_
            refine L_op (env' := uS11n54) rfl rfl (v_move (.inl rfl) rfl) rfl ?_
            have hlen : 1 + (l.take i.toNat).length + (l.drop (i.toNat + 1)).length = (1#64 <<< u :: (l.take i.toNat ++ l.drop (i.toNat + 1))).length := by rw [List.length_cons, List.length_append]; omega
            have hcs : [iW (1#64 <<< u)] ++ (l.take i.toNat).map iW ++ (l.drop (i.toNat + 1)).map iW = (1#64 <<< u :: (l.take i.toNat ++ l.drop (i.toNat + 1))).map iW := by rw [List.map_cons, List.map_append]; rfl
            rw [hcs] at hZ2
            rw [hlen]
            refine L_gh (Gh.freezeL (l := (1#64 <<< u :: (l.take i.toNat ++ l.drop (i.toNat + 1))).map iW) 47 b2 rfl hZ2 mapW_all (Nat.le_refl _) rfl) ?_
            refine L_call rfl rfl rfl (by exact refFull_12 _ (1#64 <<< u :: (l.take i.toNat ++ l.drop (i.toNat + 1))) (by rw [List.length_cons, List.length_append, List.length_take, List.length_drop]; omega)) ?_
            rintro v _ ⟨hv, rfl⟩; obtain rfl : v = .bool (fullB (l.eraseIdx i.toNat) (1#64 <<< u)) := hv.trans (by rw [freeR (by omega) (by omega)])
            refine L_env (env' := uS11n54) rfl ?_
            refine L_nil ?_
            refine K_seq ?_
            refine B_cond _ rfl (fun hc6 => ?_) (fun hc6 => ?_)
            · try simp only [decide_eq_true_eq, decide_eq_false_iff_not, Bool.not_eq_true', Bool.not_eq_false', bne_iff_ne, beq_iff_eq, Bool.and_eq_true, Bool.or_eq_true, Bool.not_eq_true, ge_iff_le, gt_iff_lt, Int.not_le, Int.not_lt, beq_eq_false_iff_ne, bne_eq_false_iff_eq, ne_eq, Decidable.not_not, wd_zero, wd_one, wd_inj] at hc6
              refine B_region ?_
              refine L_op (env' := uS11n54) rfl rfl (v_move (.inl rfl) rfl) rfl ?_
              refine L_op (env' := uS11n54) rfl rfl (v_move (.inl rfl) rfl) rfl ?_
              refine L_op (env' := uS11n54) rfl rfl (v_shl1 rfl rfl rfl (by first | assumption | omega | (simp [*]; done) | (simp at *; omega))) rfl ?_
              refine L_op (env' := uS11n54) rfl rfl (v_orW rfl rfl rfl) rfl ?_
              refine L_op (env' := uS11n54) rfl rfl (v_move (.inr rfl) rfl) rfl ?_
              refine L_nil ?_
              refine K_blk ?_
              refine K_seq ?_
              refine B_region ?_
              refine L_op (env' := uS11n54) rfl rfl (v_move (.inl rfl) rfl) rfl ?_
              refine L_op (env' := uS11n54) rfl rfl (v_addI rfl rfl rfl (by first | assumption | omega | (simp [*]; done) | (simp at *; omega))) rfl ?_
              refine L_op (env' := uS11n54) rfl rfl (v_move (.inr rfl) rfl) rfl ?_
              refine L_nil ?_
              first
                | (have hE : frT l i.toNat u ||| 1#64 <<< (u : Int).toNat = frT l i.toNat (u + 1) := wdP_yes (P := (fun v => (l.getD i.toNat 0).getLsbD v && fullB (l.eraseIdx i.toNat) (1#64 <<< v))) (by simp only [Bool.and_eq_true]; exact ⟨sh1.1 (by assumption), by assumption⟩)); rw [hE]
                | (have hE : frT l i.toNat u = frT l i.toNat (u + 1) := wdP_no (P := (fun v => (l.getD i.toNat 0).getLsbD v && fullB (l.eraseIdx i.toNat) (1#64 <<< v))) (by simp only [Bool.and_eq_false_iff]; exact .inr (by assumption))); rw [hE]
                | (have hE : frT l i.toNat u = frT l i.toNat (u + 1) := wdP_no (P := (fun v => (l.getD i.toNat 0).getLsbD v && fullB (l.eraseIdx i.toNat) (1#64 <<< v))) (by simp only [Bool.and_eq_false_iff]; exact .inl (sh1n.1 (by assumption)))); rw [hE]
              refine K_loop [false,false,true,true,true,false,false,true,true,true,true,true,true,true,true,true,true,true,true,true,true,true,true,true,true,true,true,true,true,true,true,true,true,true,true,true,true,true,true,true,true,true,true,true,true,true,true,true,true,true,true,true,true,true] (env' := uS11n54) rfl ⟨u + 1, ?_, rfl, ?_⟩
              · first | omega | (simp only []; omega)
              · exact ⟨by omega, _, rfl⟩
            · try simp only [decide_eq_true_eq, decide_eq_false_iff_not, Bool.not_eq_true', Bool.not_eq_false', bne_iff_ne, beq_iff_eq, Bool.and_eq_true, Bool.or_eq_true, Bool.not_eq_true, ge_iff_le, gt_iff_lt, Int.not_le, Int.not_lt, beq_eq_false_iff_ne, bne_eq_false_iff_eq, ne_eq, Decidable.not_not, wd_zero, wd_one, wd_inj] at hc6
              refine B_skip ?_
              refine K_blk ?_
              refine K_seq ?_
              refine B_region ?_
              refine L_op (env' := uS11n54) rfl rfl (v_move (.inl rfl) rfl) rfl ?_
              refine L_op (env' := uS11n54) rfl rfl (v_addI rfl rfl rfl (by first | assumption | omega | (simp [*]; done) | (simp at *; omega))) rfl ?_
              refine L_op (env' := uS11n54) rfl rfl (v_move (.inr rfl) rfl) rfl ?_
              refine L_nil ?_
              first
                | (have hE : frT l i.toNat u ||| 1#64 <<< (u : Int).toNat = frT l i.toNat (u + 1) := wdP_yes (P := (fun v => (l.getD i.toNat 0).getLsbD v && fullB (l.eraseIdx i.toNat) (1#64 <<< v))) (by simp only [Bool.and_eq_true]; exact ⟨sh1.1 (by assumption), by assumption⟩)); rw [hE]
                | (have hE : frT l i.toNat u = frT l i.toNat (u + 1) := wdP_no (P := (fun v => (l.getD i.toNat 0).getLsbD v && fullB (l.eraseIdx i.toNat) (1#64 <<< v))) (by simp only [Bool.and_eq_false_iff]; exact .inr (by assumption))); rw [hE]
                | (have hE : frT l i.toNat u = frT l i.toNat (u + 1) := wdP_no (P := (fun v => (l.getD i.toNat 0).getLsbD v && fullB (l.eraseIdx i.toNat) (1#64 <<< v))) (by simp only [Bool.and_eq_false_iff]; exact .inl (sh1n.1 (by assumption)))); rw [hE]
              refine K_loop [false,false,true,true,true,false,false,true,true,true,true,true,true,true,true,true,true,true,true,true,true,true,true,true,true,true,true,true,true,true,true,true,true,true,true,true,true,true,true,true,true,true,true,true,true,true,true,true,true,true,true,true,true,true] (env' := uS11n54) rfl ⟨u + 1, ?_, rfl, ?_⟩
              · first | omega | (simp only []; omega)
              · exact ⟨by omega, _, rfl⟩
          · try simp only [decide_eq_true_eq, decide_eq_false_iff_not, Bool.not_eq_true', Bool.not_eq_false', bne_iff_ne, beq_iff_eq, Bool.and_eq_true, Bool.or_eq_true, Bool.not_eq_true, ge_iff_le, gt_iff_lt, Int.not_le, Int.not_lt, beq_eq_false_iff_ne, bne_eq_false_iff_eq, ne_eq, Decidable.not_not, wd_zero, wd_one, wd_inj] at hc5
            refine B_skip ?_
            refine K_blk ?_
            refine K_seq ?_
            refine B_region ?_
            refine L_op (env' := uS11n54) rfl rfl (v_move (.inl rfl) rfl) rfl ?_
            refine L_op (env' := uS11n54) rfl rfl (v_addI rfl rfl rfl (by first | assumption | omega | (simp [*]; done) | (simp at *; omega))) rfl ?_
            refine L_op (env' := uS11n54) rfl rfl (v_move (.inr rfl) rfl) rfl ?_
            refine L_nil ?_
            first
              | (have hE : frT l i.toNat u ||| 1#64 <<< (u : Int).toNat = frT l i.toNat (u + 1) := wdP_yes (P := (fun v => (l.getD i.toNat 0).getLsbD v && fullB (l.eraseIdx i.toNat) (1#64 <<< v))) (by simp only [Bool.and_eq_true]; exact ⟨sh1.1 (by assumption), by assumption⟩)); rw [hE]
              | (have hE : frT l i.toNat u = frT l i.toNat (u + 1) := wdP_no (P := (fun v => (l.getD i.toNat 0).getLsbD v && fullB (l.eraseIdx i.toNat) (1#64 <<< v))) (by simp only [Bool.and_eq_false_iff]; exact .inr (by assumption))); rw [hE]
              | (have hE : frT l i.toNat u = frT l i.toNat (u + 1) := wdP_no (P := (fun v => (l.getD i.toNat 0).getLsbD v && fullB (l.eraseIdx i.toNat) (1#64 <<< v))) (by simp only [Bool.and_eq_false_iff]; exact .inl (sh1n.1 (by assumption)))); rw [hE]
            refine K_loop [false,false,true,true,true,false,false,true,true,true,true,true,true,true,true,true,true,true,true,true,true,true,true,true,true,true,true,true,true,true,true,true,true,true,true,true,true,true,true,true,true,true,true,true,true,true,true,true,true,true,true,true,true,true] (env' := uS11n54) rfl ⟨u + 1, ?_, rfl, ?_⟩
            · first | omega | (simp only []; omega)
            · exact ⟨by omega, _, rfl⟩
        · try simp only [decide_eq_true_eq, decide_eq_false_iff_not, Bool.not_eq_true', Bool.not_eq_false', bne_iff_ne, beq_iff_eq, Bool.and_eq_true, Bool.or_eq_true, Bool.not_eq_true, ge_iff_le, gt_iff_lt, Int.not_le, Int.not_lt, beq_eq_false_iff_ne, bne_eq_false_iff_eq, ne_eq, Decidable.not_not, wd_zero, wd_one, wd_inj] at hc4
          refine B_exit ?_
          refine K_seqX ?_
          refine K_loopX ?_
          refine K_blkX ?_
          refine K_seq ?_
          refine B_seq ?_
          refine B_region ?_
          refine L_op (env' := uS11n54) rfl rfl (v_move (.inl rfl) rfl) rfl ?_
          refine L_op (env' := uS11n54) rfl rfl (v_move (.inr rfl) rfl) rfl ?_
          refine L_nil ?_
          refine K_seq ?_
          refine B_ret ?_
          refine E_app (.inr rfl) (vres_tmp rfl rfl) (by first | exact BaseOk.refl _ | exact BaseOk.set (BaseOk.refl _) _ rfl) (by first | rfl | simp [VVal.under, VVal.underL, *]) ?_
          first
            | exact ⟨by rw [freeV, if_neg (by omega)]; rfl, rfl⟩
            | (obtain rfl : u = 64 := by omega); exact ⟨by rw [freeV, if_pos (by omega), frT_all], rfl⟩
end Go.Proofs.YtpekleeidllllaaDoor.VT
