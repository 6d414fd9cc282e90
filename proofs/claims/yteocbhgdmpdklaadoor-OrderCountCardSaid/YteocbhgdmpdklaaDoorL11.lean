/- OrderCount: the law -/
import Derived.Test.YteocbhgdmpdklaaDoorR1
import Derived.Test.YteocbhgdmpdklaaDoorS11
set_option autoImplicit false
set_option linter.unusedVariables false
set_option linter.unusedSimpArgs false
set_option maxHeartbeats 4000000
set_option maxRecDepth 100000
namespace Go.Proofs.YteocbhgdmpdklaaDoor.VT
open Go Go.V Go.RowKit

abbrev uL11n35 {a0 a1 a2 a3 a4 a5 a6 a7 a8 a9 a10 a11 a12 a13 a14 a15 a16 a17 a18 a19 a20 a21 a22 a23 a24 a25 a26 a27 a28 a29 a30 a31 a32 a33 a34 : VVal} : VEnv := a0 :: a1 :: a2 :: a3 :: a4 :: a5 :: a6 :: a7 :: a8 :: a9 :: a10 :: a11 :: a12 :: a13 :: a14 :: a15 :: a16 :: a17 :: a18 :: a19 :: a20 :: a21 :: a22 :: a23 :: a24 :: a25 :: a26 :: a27 :: a28 :: a29 :: a30 :: a31 :: a32 :: a33 :: a34 :: []

theorem OrderCount_no {x : SW} (H : VHeap) (N A B : Int) (pairs : List (Int × Int)) (w : BitVec 64) (pr : List Int) (most : BitVec 64) (hl : pairs.length * 16 ≤ 140737488355328) (e : Int) (h1 : newV N pairs = .tuple [.ptr none, iI e]) (h2 : refNewV N pairs = .tuple [.ptr none, iI e]) : F (psys x) 6 [.agg [iI N, fzP pairs, iI A, iI B, iW w, fzI pr, iW most]] H fun v G => v = .bool true ∧ G = H := by
  refine F_body Tryd.func6 rfl uL11n35 rfl ?_
  refine B_seq ?_
  refine B_region ?_
  refine L_op (env' := uL11n35) rfl rfl (v_boxT rfl rfl rfl) rfl ?_
  refine L_op (env' := uL11n35) rfl rfl (v_const (VVal.bool false) (.inr rfl) rfl) rfl ?_
  refine L_nil ?_
  refine K_seq ?_
  refine B_seq ?_
  refine B_region ?_
  refine L_op (env' := uL11n35) rfl rfl (by first | exact v_loadFA rfl rfl rfl rfl (by first | rfl | assumption | exact fget (α := BitVec 64) 0 (by omega) | exact fget (α := Int) 0 (by omega) | exact fget0 (α := BitVec 64) 0 (by omega) | exact fget0 (α := Int) 0 (by omega) | exact fget (α := Bool) false (by omega) | exact fget0 (α := Bool) false (by omega) | (simp [*]; done)) | exact v_loadA rfl rfl rfl rfl (by first | exact get_app rfl rfl | exact get_out (by assumption) | assumption | (simp [*]; done)) (by first | rfl | assumption | exact fget (α := BitVec 64) 0 (by omega) | exact fget (α := Int) 0 (by omega) | exact fget0 (α := BitVec 64) 0 (by omega) | exact fget0 (α := Int) 0 (by omega) | exact fget (α := Bool) false (by omega) | exact fget0 (α := Bool) false (by omega) | (simp [*]; done))) rfl ?_
  refine L_call rfl rfl rfl (by exact both_no _ _ _ _ _ _ _ _ hl _ h1 h2) ?_
  rintro _ _ ⟨rfl, rfl⟩
  refine L_env (env' := uL11n35) rfl ?_
  refine L_op (env' := uL11n35) rfl rfl (v_move (.inl rfl) rfl) rfl ?_
  refine L_op (env' := uL11n35) rfl rfl (rfl) rfl ?_
  refine L_op (env' := uL11n35) rfl rfl (rfl) rfl ?_
  refine L_op (env' := uL11n35) rfl rfl (rfl) rfl ?_
  refine L_op (env' := uL11n35) rfl rfl (v_move (.inr rfl) rfl) rfl ?_
  refine L_op (env' := uL11n35) rfl rfl (v_move (.inr rfl) rfl) rfl ?_
  refine L_op (env' := uL11n35) rfl rfl (v_move (.inr rfl) rfl) rfl ?_
  refine L_nil ?_
  refine K_seq ?_
  refine B_seq ?_
  refine B_seq ?_
  refine B_region ?_
  refine L_op (env' := uL11n35) rfl rfl (v_move (.inl rfl) rfl) rfl ?_
  refine L_op (env' := uL11n35) rfl rfl (rfl) rfl ?_
  refine L_op (env' := uL11n35) rfl rfl (v_move (.inl rfl) rfl) rfl ?_
  refine L_op (env' := uL11n35) rfl rfl (v_move (.inl rfl) rfl) rfl ?_
  refine L_op (env' := uL11n35) rfl rfl (rfl) rfl ?_
  refine L_op (env' := uL11n35) rfl rfl (v_pickF rfl rfl rfl) rfl ?_
  refine L_nil ?_
  refine K_seq ?_
  refine B_true rfl rfl ?_
  refine B_seq ?_
  refine B_region ?_
  refine L_op (env' := uL11n35) rfl rfl (v_move (.inl rfl) rfl) rfl ?_
  refine L_op (env' := uL11n35) rfl rfl (v_move (.inr rfl) rfl) rfl ?_
  refine L_nil ?_
  refine K_seq ?_
  refine B_ret ?_
  refine K_seqR ?_
  refine E_app (.inr rfl) (vres_tmp rfl rfl) (by first | exact BaseOk.refl _ | exact BaseOk.set (BaseOk.refl _) _ rfl) (by simp [VVal.underL, VVal.under, VBlk.under, rows_under, fz_under, rows_under, fz_underI, fzP_under, under_mapW, under_mapI, under_flatP, under_repW, *]) ?_
  exact ⟨rfl, rfl⟩

theorem OrderCount_yes {x : SW} (H : VHeap) (N A B : Int) (pairs : List (Int × Int)) (w : BitVec 64) (pr : List Int) (most : BitVec 64) (hl : pairs.length * 16 ≤ 140737488355328) (m : Nat) (hN : N = m) (ho : Ord m (rch pairs m) (preL pairs m) (sucL pairs m)) (h1 : newV N pairs = .tuple [ordV (preL pairs m) (sucL pairs m), iI 0]) (h2 : refNewV N pairs = .tuple [refV m (rch pairs m), iI 0]) : F (psys x) 6 [.agg [iI N, fzP pairs, iI A, iI B, iW w, fzI pr, iW most]] H fun v G => v = .bool true ∧ G = H := by
  subst hN
  have hm := ho.le
  have hpl := ho.pl
  refine F_body Tryd.func6 rfl uL11n35 rfl ?_
  refine B_seq ?_
  refine B_region ?_
  refine L_op (env' := uL11n35) rfl rfl (v_boxT rfl rfl rfl) rfl ?_
  refine L_op (env' := uL11n35) rfl rfl (v_const (VVal.bool false) (.inr rfl) rfl) rfl ?_
  refine L_nil ?_
  refine K_seq ?_
  refine B_seq ?_
  refine B_region ?_
  refine L_op (env' := uL11n35) rfl rfl (by first | exact v_loadFA rfl rfl rfl rfl (by first | rfl | assumption | exact fget (α := BitVec 64) 0 (by omega) | exact fget (α := Int) 0 (by omega) | exact fget0 (α := BitVec 64) 0 (by omega) | exact fget0 (α := Int) 0 (by omega) | exact fget (α := Bool) false (by omega) | exact fget0 (α := Bool) false (by omega) | (simp [*]; done)) | exact v_loadA rfl rfl rfl rfl (by first | exact get_app rfl rfl | exact get_out (by assumption) | assumption | (simp [*]; done)) (by first | rfl | assumption | exact fget (α := BitVec 64) 0 (by omega) | exact fget (α := Int) 0 (by omega) | exact fget0 (α := BitVec 64) 0 (by omega) | exact fget0 (α := Int) 0 (by omega) | exact fget (α := Bool) false (by omega) | exact fget0 (α := Bool) false (by omega) | (simp [*]; done))) rfl ?_
  refine L_call rfl rfl rfl (by exact both_yes _ _ _ _ _ _ _ _ hl _ _ _ _ h1 h2) ?_
  rintro _ _ ⟨rfl, rfl⟩
  refine L_env (env' := uL11n35) rfl ?_
  refine L_op (env' := uL11n35) rfl rfl (v_move (.inl rfl) rfl) rfl ?_
  refine L_op (env' := uL11n35) rfl rfl (rfl) rfl ?_
  refine L_op (env' := uL11n35) rfl rfl (rfl) rfl ?_
  refine L_op (env' := uL11n35) rfl rfl (rfl) rfl ?_
  refine L_op (env' := uL11n35) rfl rfl (v_move (.inr rfl) rfl) rfl ?_
  refine L_op (env' := uL11n35) rfl rfl (v_move (.inr rfl) rfl) rfl ?_
  refine L_op (env' := uL11n35) rfl rfl (v_move (.inr rfl) rfl) rfl ?_
  refine L_nil ?_
  refine K_seq ?_
  refine B_seq ?_
  refine B_seq ?_
  refine B_region ?_
  refine L_op (env' := uL11n35) rfl rfl (v_move (.inl rfl) rfl) rfl ?_
  refine L_op (env' := uL11n35) rfl rfl (rfl) rfl ?_
  refine L_op (env' := uL11n35) rfl rfl (v_move (.inl rfl) rfl) rfl ?_
  refine L_op (env' := uL11n35) rfl rfl (v_move (.inl rfl) rfl) rfl ?_
  refine L_op (env' := uL11n35) rfl rfl (rfl) rfl ?_
  refine L_op (env' := uL11n35) rfl rfl (v_pickF rfl rfl rfl) rfl ?_
  refine L_nil ?_
  refine K_seq ?_
  refine B_false rfl rfl ?_
  refine B_skip ?_
  refine K_seq ?_
  refine B_seq ?_
  refine B_region ?_
  refine L_op (env' := uL11n35) rfl rfl (rfl) rfl ?_
  refine L_op (env' := uL11n35) rfl rfl (by first | exact v_loadF rfl rfl rfl rfl (by first | rfl | assumption | exact fget (α := BitVec 64) 0 (by omega) | exact fget (α := Int) 0 (by omega) | exact fget0 (α := BitVec 64) 0 (by omega) | exact fget0 (α := Int) 0 (by omega) | exact fget (α := Bool) false (by omega) | exact fget0 (α := Bool) false (by omega) | (simp [*]; done)) | exact v_load rfl rfl rfl rfl (by first | exact get_app rfl rfl | exact get_out (by assumption) | assumption | (simp [*]; done)) (by first | rfl | assumption | exact fget (α := BitVec 64) 0 (by omega) | exact fget (α := Int) 0 (by omega) | exact fget0 (α := BitVec 64) 0 (by omega) | exact fget0 (α := Int) 0 (by omega) | exact fget (α := Bool) false (by omega) | exact fget0 (α := Bool) false (by omega) | (simp [*]; done))) rfl ?_
  refine L_op (env' := uL11n35) rfl rfl (v_move (.inr rfl) rfl) rfl ?_
  refine L_nil ?_
  refine K_seq ?_
  refine B_seq ?_
  refine B_seq ?_
  refine B_region ?_
  refine L_op (env' := uL11n35) rfl rfl (v_move (.inl rfl) rfl) rfl ?_
  refine L_op (env' := uL11n35) rfl rfl (rfl) rfl ?_
  refine L_nil ?_
  refine K_seq ?_
  refine B_cond _ rfl (fun hc1 => ?_) (fun hc1 => ?_)
  · try simp only [decide_eq_true_eq, decide_eq_false_iff_not, Bool.not_eq_true', Bool.not_eq_false', bne_iff_ne, beq_iff_eq, Bool.and_eq_true, Bool.or_eq_true, Bool.not_eq_true, ge_iff_le, gt_iff_lt, Int.not_le, Int.not_lt, beq_eq_false_iff_ne, bne_eq_false_iff_eq, ne_eq, Decidable.not_not, wd_zero, wd_one, wd_inj] at hc1
    refine B_region ?_
    refine L_op (env' := uL11n35) rfl rfl (v_const (iW 4096#64) (.inr rfl) rfl) rfl ?_
    refine L_nil ?_
    refine K_seq ?_
    refine B_seq ?_
    refine B_draw [0, 1, 3, 4, 5, 6, 7, 8, 2, 9, 10, 11] #[0, 0, 3, 0, 0, 16, 48, 112, 0, 511, 1023, 2047] (by kernel_rfl) (by kernel_rfl) (by kernel_rfl) ?_
    refine O_op (env' := uL11n35) (c := .calm) rfl rfl rfl (v_move (.inl rfl) rfl) rfl rfl rfl ?_
    refine O_op (env' := uL11n35) (c := .calm) rfl rfl rfl (v_move (.inl rfl) rfl) rfl rfl rfl ?_
    refine O_op (env' := uL11n35) (c := .calm) rfl rfl rfl (v_move (.inl rfl) rfl) rfl rfl rfl ?_
    refine O_op (env' := uL11n35) (c := .calm) rfl rfl rfl (v_move (.inl rfl) rfl) rfl rfl rfl ?_
    refine O_op (env' := uL11n35) (c := .calm) rfl rfl rfl (rfl) rfl rfl rfl ?_
    refine O_op (env' := uL11n35) (c := .calm) rfl rfl rfl (rfl) rfl rfl rfl ?_
    refine O_opI (env' := uL11n35) (x := .look _ _) rfl rfl rfl (by first | exact v_loadF rfl rfl rfl rfl (by first | rfl | assumption | exact fget (α := BitVec 64) 0 (by omega) | exact fget (α := Int) 0 (by omega) | exact fget0 (α := BitVec 64) 0 (by omega) | exact fget0 (α := Int) 0 (by omega) | exact fget (α := Bool) false (by omega) | exact fget0 (α := Bool) false (by omega) | (simp [*]; done)) | exact v_load rfl rfl rfl rfl (by first | exact get_app rfl rfl | exact get_out (by assumption) | assumption | (simp [*]; done)) (by first | rfl | assumption | exact fget (α := BitVec 64) 0 (by omega) | exact fget (α := Int) 0 (by omega) | exact fget0 (α := BitVec 64) 0 (by omega) | exact fget0 (α := Int) 0 (by omega) | exact fget (α := Bool) false (by omega) | exact fget0 (α := Bool) false (by omega) | (simp [*]; done))) rfl rfl rfl ?_
    refine O_op (env' := uL11n35) (c := .calm) rfl rfl rfl (v_move (.inl rfl) rfl) rfl rfl rfl ?_
    refine O_call (env' := uL11n35) rfl rfl rfl rfl rfl (by exact Count_spec _ _ _ (by omega) _ (by first | decide | omega)) (by first | exact Nat.le_refl _ | simp) rfl rfl ?_
    refine O_call (env' := uL11n35) rfl rfl rfl rfl rfl (by exact refCount_spec _ _ hm _ hm _ 0#64 _ _ rfl) (by first | exact Nat.le_refl _ | simp) rfl rfl ?_
    refine O_op (env' := uL11n35) (c := .calm) rfl rfl rfl (v_is true rfl (by rw [cntR_congr ho.rd, ho.pl]; simp)) rfl rfl rfl ?_
    refine O_op (env' := uL11n35) (c := .calm) rfl rfl rfl (v_move (.inr rfl) rfl) rfl rfl rfl ?_
    refine O_nil [_] (by rfl) (And.intro (And.intro (by first | exact v_loadF rfl rfl rfl rfl (by first | rfl | assumption | exact fget (α := BitVec 64) 0 (by omega) | exact fget (α := Int) 0 (by omega) | exact fget0 (α := BitVec 64) 0 (by omega) | exact fget0 (α := Int) 0 (by omega) | exact fget (α := Bool) false (by omega) | exact fget0 (α := Bool) false (by omega) | (simp [*]; done)) | exact v_load rfl rfl rfl rfl (by first | exact get_app rfl rfl | exact get_out (by assumption) | assumption | (simp [*]; done)) (by first | rfl | assumption | exact fget (α := BitVec 64) 0 (by omega) | exact fget (α := Int) 0 (by omega) | exact fget0 (α := BitVec 64) 0 (by omega) | exact fget0 (α := Int) 0 (by omega) | exact fget (α := Bool) false (by omega) | exact fget0 (α := Bool) false (by omega) | (simp [*]; done))) (by first | exact v_loadF rfl rfl rfl rfl (by first | rfl | assumption | exact fget (α := BitVec 64) 0 (by omega) | exact fget (α := Int) 0 (by omega) | exact fget0 (α := BitVec 64) 0 (by omega) | exact fget0 (α := Int) 0 (by omega) | exact fget (α := Bool) false (by omega) | exact fget0 (α := Bool) false (by omega) | (simp [*]; done)) | exact v_load rfl rfl rfl rfl (by first | exact get_app rfl rfl | exact get_out (by assumption) | assumption | (simp [*]; done)) (by first | rfl | assumption | exact fget (α := BitVec 64) 0 (by omega) | exact fget (α := Int) 0 (by omega) | exact fget0 (α := BitVec 64) 0 (by omega) | exact fget0 (α := Int) 0 (by omega) | exact fget (α := Bool) false (by omega) | exact fget0 (α := Bool) false (by omega) | (simp [*]; done)))) trivial) ?_
    refine K_seq ?_
    refine B_ret ?_
    refine E_app (.inr rfl) (vres_tmp rfl rfl) (by first | exact BaseOk.refl _ | exact BaseOk.set (BaseOk.refl _) _ rfl) (by simp [VVal.underL, VVal.under, VBlk.under, rows_under, fz_under, rows_under, fz_underI, fzP_under, under_mapW, under_mapI, under_flatP, under_repW, *]) ?_
    exact ⟨rfl, rfl⟩
  · try simp only [decide_eq_true_eq, decide_eq_false_iff_not, Bool.not_eq_true', Bool.not_eq_false', bne_iff_ne, beq_iff_eq, Bool.and_eq_true, Bool.or_eq_true, Bool.not_eq_true, ge_iff_le, gt_iff_lt, Int.not_le, Int.not_lt, beq_eq_false_iff_ne, bne_eq_false_iff_eq, ne_eq, Decidable.not_not, wd_zero, wd_one, wd_inj] at hc1
    refine B_skip ?_
    refine K_seq ?_
    refine B_seq ?_
    refine B_draw [0, 1, 3, 4, 5, 6, 7, 8, 2, 9, 10, 11] #[0, 0, 3, 0, 0, 16, 48, 112, 0, 511, 1023, 2047] (by kernel_rfl) (by kernel_rfl) (by kernel_rfl) ?_
    refine O_op (env' := uL11n35) (c := .calm) rfl rfl rfl (v_move (.inl rfl) rfl) rfl rfl rfl ?_
    refine O_op (env' := uL11n35) (c := .calm) rfl rfl rfl (v_move (.inl rfl) rfl) rfl rfl rfl ?_
    refine O_op (env' := uL11n35) (c := .calm) rfl rfl rfl (v_move (.inl rfl) rfl) rfl rfl rfl ?_
    refine O_op (env' := uL11n35) (c := .calm) rfl rfl rfl (v_move (.inl rfl) rfl) rfl rfl rfl ?_
    refine O_op (env' := uL11n35) (c := .calm) rfl rfl rfl (rfl) rfl rfl rfl ?_
    refine O_op (env' := uL11n35) (c := .calm) rfl rfl rfl (rfl) rfl rfl rfl ?_
    refine O_opI (env' := uL11n35) (x := .look _ _) rfl rfl rfl (by first | exact v_loadF rfl rfl rfl rfl (by first | rfl | assumption | exact fget (α := BitVec 64) 0 (by omega) | exact fget (α := Int) 0 (by omega) | exact fget0 (α := BitVec 64) 0 (by omega) | exact fget0 (α := Int) 0 (by omega) | exact fget (α := Bool) false (by omega) | exact fget0 (α := Bool) false (by omega) | (simp [*]; done)) | exact v_load rfl rfl rfl rfl (by first | exact get_app rfl rfl | exact get_out (by assumption) | assumption | (simp [*]; done)) (by first | rfl | assumption | exact fget (α := BitVec 64) 0 (by omega) | exact fget (α := Int) 0 (by omega) | exact fget0 (α := BitVec 64) 0 (by omega) | exact fget0 (α := Int) 0 (by omega) | exact fget (α := Bool) false (by omega) | exact fget0 (α := Bool) false (by omega) | (simp [*]; done))) rfl rfl rfl ?_
    refine O_op (env' := uL11n35) (c := .calm) rfl rfl rfl (v_move (.inl rfl) rfl) rfl rfl rfl ?_
    refine O_call (env' := uL11n35) rfl rfl rfl rfl rfl (by exact Count_spec _ _ _ (by omega) _ (by first | decide | omega)) (by first | exact Nat.le_refl _ | simp) rfl rfl ?_
    refine O_call (env' := uL11n35) rfl rfl rfl rfl rfl (by exact refCount_spec _ _ hm _ hm _ 0#64 _ _ rfl) (by first | exact Nat.le_refl _ | simp) rfl rfl ?_
    refine O_op (env' := uL11n35) (c := .calm) rfl rfl rfl (v_is true rfl (by rw [cntR_congr ho.rd, ho.pl]; simp)) rfl rfl rfl ?_
    refine O_op (env' := uL11n35) (c := .calm) rfl rfl rfl (v_move (.inr rfl) rfl) rfl rfl rfl ?_
    refine O_nil [_] (by rfl) (And.intro (And.intro (by first | exact v_loadF rfl rfl rfl rfl (by first | rfl | assumption | exact fget (α := BitVec 64) 0 (by omega) | exact fget (α := Int) 0 (by omega) | exact fget0 (α := BitVec 64) 0 (by omega) | exact fget0 (α := Int) 0 (by omega) | exact fget (α := Bool) false (by omega) | exact fget0 (α := Bool) false (by omega) | (simp [*]; done)) | exact v_load rfl rfl rfl rfl (by first | exact get_app rfl rfl | exact get_out (by assumption) | assumption | (simp [*]; done)) (by first | rfl | assumption | exact fget (α := BitVec 64) 0 (by omega) | exact fget (α := Int) 0 (by omega) | exact fget0 (α := BitVec 64) 0 (by omega) | exact fget0 (α := Int) 0 (by omega) | exact fget (α := Bool) false (by omega) | exact fget0 (α := Bool) false (by omega) | (simp [*]; done))) (by first | exact v_loadF rfl rfl rfl rfl (by first | rfl | assumption | exact fget (α := BitVec 64) 0 (by omega) | exact fget (α := Int) 0 (by omega) | exact fget0 (α := BitVec 64) 0 (by omega) | exact fget0 (α := Int) 0 (by omega) | exact fget (α := Bool) false (by omega) | exact fget0 (α := Bool) false (by omega) | (simp [*]; done)) | exact v_load rfl rfl rfl rfl (by first | exact get_app rfl rfl | exact get_out (by assumption) | assumption | (simp [*]; done)) (by first | rfl | assumption | exact fget (α := BitVec 64) 0 (by omega) | exact fget (α := Int) 0 (by omega) | exact fget0 (α := BitVec 64) 0 (by omega) | exact fget0 (α := Int) 0 (by omega) | exact fget (α := Bool) false (by omega) | exact fget0 (α := Bool) false (by omega) | (simp [*]; done)))) trivial) ?_
    refine K_seq ?_
    refine B_ret ?_
    refine E_app (.inr rfl) (vres_tmp rfl rfl) (by first | exact BaseOk.refl _ | exact BaseOk.set (BaseOk.refl _) _ rfl) (by simp [VVal.underL, VVal.under, VBlk.under, rows_under, fz_under, rows_under, fz_underI, fzP_under, under_mapW, under_mapI, under_flatP, under_repW, *]) ?_
    exact ⟨rfl, rfl⟩

theorem OrderCount_law {x : SW} (N : Int) (pairs : List (Int × Int)) (A B : Int) (w : BitVec 64) (pr : List Int) (most : BitVec 64) (hl : pairs.length * 16 ≤ 140737488351232) : F (psys x) 6 [.agg [iI N, fzP pairs, iI A, iI B, iW w, fzI pr, iW most]] [] fun v G => v = .bool true := by
  have hl : pairs.length * 16 ≤ 140737488355328 := by omega
  rcases new_cases N pairs with ⟨e, h1, h2⟩ | ⟨m, hN, ho, h1, h2⟩
  · exact (OrderCount_no [] N A B pairs w pr most hl e h1 h2).mono fun v G h => h.1
  · exact (OrderCount_yes [] N A B pairs w pr most hl m hN ho h1 h2).mono fun v G h => h.1
end Go.Proofs.YteocbhgdmpdklaaDoor.VT
