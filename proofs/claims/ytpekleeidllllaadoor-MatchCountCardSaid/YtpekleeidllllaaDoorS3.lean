/- matchings: size, full; walks -/
import Derived.Test.YtpekleeidllllaaDoorS2
set_option autoImplicit false
set_option linter.unusedVariables false
set_option linter.unusedSimpArgs false
set_option maxHeartbeats 4000000
set_option maxRecDepth 100000
namespace Go.Proofs.YtpekleeidllllaaDoor.VT
open Go Go.V Go.RowKit

abbrev uS3n8 {a0 a1 a2 a3 a4 a5 a6 a7 : VVal} : VEnv := a0 :: a1 :: a2 :: a3 :: a4 :: a5 :: a6 :: a7 :: []
abbrev uS3n22 {a0 a1 a2 a3 a4 a5 a6 a7 a8 a9 a10 a11 a12 a13 a14 a15 a16 a17 a18 a19 a20 a21 : VVal} : VEnv := a0 :: a1 :: a2 :: a3 :: a4 :: a5 :: a6 :: a7 :: a8 :: a9 :: a10 :: a11 :: a12 :: a13 :: a14 :: a15 :: a16 :: a17 :: a18 :: a19 :: a20 :: a21 :: []
abbrev uS3n27 {a0 a1 a2 a3 a4 a5 a6 a7 a8 a9 a10 a11 a12 a13 a14 a15 a16 a17 a18 a19 a20 a21 a22 a23 a24 a25 a26 : VVal} : VEnv := a0 :: a1 :: a2 :: a3 :: a4 :: a5 :: a6 :: a7 :: a8 :: a9 :: a10 :: a11 :: a12 :: a13 :: a14 :: a15 :: a16 :: a17 :: a18 :: a19 :: a20 :: a21 :: a22 :: a23 :: a24 :: a25 :: a26 :: []

theorem grow_spec {x : SW} (p q : Nat) (rows : List (BitVec 64)) (hpq : p ≠ q) (h62 : rows.length < 4611686018427387904) : ∀ (n : Nat) (H : VHeap) (row : Int) (O : List Int) (S : BitVec 64), H[p]? = some (mtB rows O) → H[q]? = some (seB S) → 0 ≤ row → row < rows.length → Gok rows O → 64 - come 64 S < n → F (psys x) 53 [.ptr (some (p, 0)), iI row, .ptr (some (q, 0))] H fun v G => v = .bool (grw rows n row (O, S)).1 ∧ G = mtH H p q rows (grw rows n row (O, S)).2
  | 0, _, _, _, _, _, _, _, _, _, h => absurd h (by omega)
  | n + 1, H, row, O, S, hp, hq, h0, h1, hO, hm => grow_s p q n rows hpq (fun H row O S a b c d e f => grow_spec p q rows hpq h62 n H row O S a b c d e f) H row O S hp hq h0 h1 hO hm h62
theorem grow_at {x : SW} (H : VHeap) (rows : List (BitVec 64)) (O : List Int) (row : Int) (h0 : 0 ≤ row) (h1 : row < rows.length) (hO : Gok rows O) (h62 : rows.length < 4611686018427387904) : F (psys x) 53 [.ptr (some (H.length + 0, 0)), iI row, .ptr (some (H.length + 1, 0))] (H ++ [mtB rows O, seB 0#64]) fun v G => v = .bool (grw rows 65 row (O, 0#64)).1 ∧ G = H ++ [mtB rows (grw rows 65 row (O, 0#64)).2.1, seB (grw rows 65 row (O, 0#64)).2.2] := by
  have := grow_spec (x := x) (H.length + 0) (H.length + 1) rows (by omega) h62 65 (H ++ [mtB rows O, seB 0#64]) row O 0#64 (get_app rfl rfl) (get_app rfl rfl) h0 h1 hO (by rw [come_0]; omega)
  unfold mtH at this
  rw [set_app rfl, set_app rfl] at this
  exact this
theorem mtB_under {n : Nat} {rows : List (BitVec 64)} {O : List Int} : (mtB rows O).under n = true := by
  show VVal.underL n (fzW rows :: O.map iI) = true
  simp [VVal.underL, fzW_under, mapI_under]
/-- a slice without places, row by row -/
def mskT (l : List (BitVec 64)) (t : BitVec 64) (k : Nat) : List (BitVec 64) := msk (l.take k) t ++ l.drop k
theorem beq_nat {a b : Nat} : ((a : Int) == (b : Int)) = (a == b) := Bool.eq_iff_iff.2 (by rw [beq_iff_eq, beq_iff_eq]; omega)
theorem mskT_len {l : List (BitVec 64)} {t : BitVec 64} {k : Nat} : (mskT l t k).length = l.length := by
  unfold mskT; rw [List.length_append, msk_len, List.length_take, List.length_drop]; omega
theorem mskT_0 {l : List (BitVec 64)} {t : BitVec 64} : mskT l t 0 = l := by unfold mskT msk; simp
theorem mskT_all {l : List (BitVec 64)} {t : BitVec 64} : mskT l t l.length = msk l t := by unfold mskT; simp
theorem mskT_get {l : List (BitVec 64)} {t : BitVec 64} {k : Nat} (h : k < l.length) : (mskT l t k).getD k 0 = l.getD k 0 := by
  unfold mskT
  rw [List.getD_eq_getElem?_getD, List.getElem?_append_right (by rw [msk_len, List.length_take]; omega), msk_len, List.length_take, Nat.min_eq_left (by omega), Nat.sub_self, List.getElem?_drop, Nat.add_zero, List.getD_eq_getElem?_getD]
theorem mskT_set {l : List (BitVec 64)} {t : BitVec 64} {k : Nat} (h : k < l.length) : (mskT l t k).set k (l.getD k 0 &&& ~~~t) = mskT l t (k + 1) := by
  unfold mskT
  rw [List.set_append_right _ _ (by rw [msk_len, List.length_take]; omega), msk_len, List.length_take, Nat.min_eq_left (by omega), Nat.sub_self, List.take_succ_eq_append_getElem h, List.drop_eq_getElem_cons h, List.getD_eq_getElem?_getD, List.getElem?_eq_getElem h]
  show msk (l.take k) t ++ ((l[k] &&& ~~~t) :: l.drop (k + 1)) = _
  unfold msk
  rw [List.map_append, List.append_assoc]; rfl
theorem splice_w {l : List (BitVec 64)} {k : Nat} {w : BitVec 64} (h : k < l.length) : splice (l.map iW) (0 + k * 1) [iW w] = (l.set k w).map iW := by
  rw [show 0 + k * 1 = k by omega]
  unfold splice
  rw [List.map_set, List.set_eq_take_append_cons_drop, if_pos (by rw [List.length_map]; exact h)]; simp

theorem size_spec {x : SW} (H : VHeap) (rows : List (BitVec 64)) (h62 : rows.length < 4611686018427387904) : F (psys x) 33 [fzW rows] H fun v G => v = iI (szN rows : Nat) ∧ G = H := by
  refine F_body Tryd.func33 rfl uS3n22 rfl ?_
  refine B_seq ?_
  refine B_region ?_
  refine L_op (env' := uS3n22) rfl rfl (v_const (VVal.int .i64 0) (.inr rfl) rfl) rfl ?_
  refine L_nil ?_
  refine K_seq ?_
  refine B_seq ?_
  refine B_region ?_
  refine L_op (env' := uS3n22) rfl rfl (v_move (.inl rfl) rfl) rfl ?_
  refine L_op (env' := uS3n22) rfl rfl (rfl) rfl ?_
  refine L_op (env' := uS3n22) rfl rfl (v_boxT rfl rfl rfl) rfl ?_
  refine L_op (env' := uS3n22) rfl rfl (v_move (.inr rfl) rfl) rfl ?_
  refine L_op (env' := uS3n22) rfl rfl (v_const (VVal.int .i64 0) (.inr rfl) rfl) rfl ?_
  refine L_nil ?_
  refine K_seq ?_
  refine B_seq ?_
  refine B_seq ?_
  refine B_region ?_
  refine L_op (env' := uS3n22) rfl rfl (v_move (.inl rfl) rfl) rfl ?_
  refine L_op (env' := uS3n22) rfl rfl (rfl) rfl ?_
  refine L_op (env' := uS3n22) rfl rfl (v_const (VVal.int .i64 0) (.inl rfl) rfl) rfl ?_
  refine L_nil ?_
  refine K_seq ?_
  refine B_block ?_
  refine B_clear [true,true,true,false,false,true,true,true,true,true,true,false,false,true,true,true,true,true,true,true,true,true] (env' := uS3n22) rfl ?_
  refine B_loopE (fun (k : Nat) => rows.length - k) (fun (k : Nat) => [(4, iI ((szO rows k).2 : Nat)), (12, iI (k : Nat))]) (fun (k : Nat) G => (k ≤ rows.length) ∧ G = H ++ [mtB rows (szO rows k).1]) 0 rfl ?_ ?_
  · refine ⟨?_, rfl⟩
    exact Nat.zero_le _
  rintro k _ ⟨hk, rfl⟩
  refine B_env (env' := uS3n22) rfl ?_
  refine B_seq ?_
  refine B_region ?_
  refine L_op (env' := uS3n22) rfl rfl (rfl) rfl ?_
  refine L_nil ?_
  refine K_seq ?_
  refine B_seq ?_
  refine B_cond _ rfl (fun hc1 => ?_) (fun hc1 => ?_)
  · try simp only [decide_eq_true_eq, decide_eq_false_iff_not, Bool.not_eq_true', Bool.not_eq_false', bne_iff_ne, beq_iff_eq, Bool.and_eq_true, Bool.or_eq_true, Bool.not_eq_true, ge_iff_le, gt_iff_lt, Int.not_le, Int.not_lt, beq_eq_false_iff_ne, bne_eq_false_iff_eq, ne_eq, Decidable.not_not, wd_zero, wd_one, wd_inj] at hc1
    refine B_skip ?_
    refine K_seq ?_
    refine B_seq ?_
    refine B_block ?_
    refine B_seq ?_
    refine B_region ?_
    refine L_op (env' := uS3n22) rfl rfl (v_move (.inl rfl) rfl) rfl ?_
    refine L_op (env' := uS3n22) rfl rfl (v_move (.inr rfl) rfl) rfl ?_
    refine L_nil ?_
    refine K_seq ?_
    refine B_seq ?_
    refine B_region ?_
    refine L_op (env' := uS3n22) rfl rfl (v_alloc rfl rfl) rfl ?_
    refine L_op (env' := uS3n22) rfl rfl (v_storeC (VVal.int .u64 0) rfl rfl rfl rfl rfl rfl rfl (by first | exact get_app rfl rfl | exact get_out (by assumption) | assumption | (simp [*]; done)) (by first | exact Nat.le_of_ble_eq_true rfl | (simp only [List.length_map, List.length_cons, List.length_nil]; omega) | omega | (simp; done) | (simp; omega)) (by first | exact set_app rfl | exact set_out (lt_of_get (by assumption)) | rfl)) rfl ?_
    refine L_nil ?_
    refine K_seq ?_
    refine B_seq ?_
    refine B_region ?_
    refine L_op (env' := uS3n22) rfl rfl (v_move (.inl rfl) rfl) rfl ?_
    refine L_op (env' := uS3n22) rfl rfl (v_move (.inl rfl) rfl) rfl ?_
    refine L_call rfl rfl rfl (by exact grow_at H rows (szO rows k).1 k (by omega) (by omega) (szO_ok (by omega)) h62) ?_
    rintro _ _ ⟨rfl, rfl⟩
    refine L_env (env' := uS3n22) rfl ?_
    refine L_nil ?_
    refine K_seq ?_
    refine B_cond _ rfl (fun hc2 => ?_) (fun hc2 => ?_)
    · try simp only [decide_eq_true_eq, decide_eq_false_iff_not, Bool.not_eq_true', Bool.not_eq_false', bne_iff_ne, beq_iff_eq, Bool.and_eq_true, Bool.or_eq_true, Bool.not_eq_true, ge_iff_le, gt_iff_lt, Int.not_le, Int.not_lt, beq_eq_false_iff_ne, bne_eq_false_iff_eq, ne_eq, Decidable.not_not, wd_zero, wd_one, wd_inj] at hc2
      refine B_region ?_
      refine L_op (env' := uS3n22) rfl rfl (v_move (.inl rfl) rfl) rfl ?_
      refine L_op (env' := uS3n22) rfl rfl (v_addI rfl rfl rfl (by have := @szO_le rows k; omega)) rfl ?_
      refine L_op (env' := uS3n22) rfl rfl (v_move (.inr rfl) rfl) rfl ?_
      refine L_nil ?_
      refine K_blk ?_
      refine K_seq ?_
      refine B_region ?_
      refine L_op (env' := uS3n22) rfl rfl (v_addI rfl rfl rfl (by first | assumption | omega | (simp [*]; done) | (simp at *; omega))) rfl ?_
      refine L_op (env' := uS3n22) rfl rfl (v_move (.inl rfl) rfl) rfl ?_
      refine L_nil ?_
      first
        | (have hE : (((szO rows k).2 : Nat) : Int) + 1 = ((szO rows (k + 1)).2 : Nat) := by rw [szO, if_pos (by assumption)]; rfl); rw [hE]
        | (have hE : (szO rows k).2 = (szO rows (k + 1)).2 := by rw [szO]; simp only; rw [if_neg (not_of_f (by assumption))]); rw [hE]
      refine K_loopG [true,true,true,false,false,true,true,true,true,true,true,false,false,true,true,true,true,true,true,true,true,true] (env' := uS3n22) rfl (Gh.dropTo (L := [mtB rows (szO rows (k + 1)).1]) (X := [seB _]) 1 rfl (BaseOk.refl _) (by first | (simp [VVal.underL, VVal.under, fzW_under]; done) | (simp [VVal.underL, VVal.under, fzW_under]; omega)) (by simp [mtB_under])) ⟨k + 1, ?_, rfl, ?_⟩
      · first | omega | (simp only []; omega)
      · exact ⟨by omega, rfl⟩
    · try simp only [decide_eq_true_eq, decide_eq_false_iff_not, Bool.not_eq_true', Bool.not_eq_false', bne_iff_ne, beq_iff_eq, Bool.and_eq_true, Bool.or_eq_true, Bool.not_eq_true, ge_iff_le, gt_iff_lt, Int.not_le, Int.not_lt, beq_eq_false_iff_ne, bne_eq_false_iff_eq, ne_eq, Decidable.not_not, wd_zero, wd_one, wd_inj] at hc2
      refine B_skip ?_
      refine K_blk ?_
      refine K_seq ?_
      refine B_region ?_
      refine L_op (env' := uS3n22) rfl rfl (v_addI rfl rfl rfl (by first | assumption | omega | (simp [*]; done) | (simp at *; omega))) rfl ?_
      refine L_op (env' := uS3n22) rfl rfl (v_move (.inl rfl) rfl) rfl ?_
      refine L_nil ?_
      first
        | (have hE : (((szO rows k).2 : Nat) : Int) + 1 = ((szO rows (k + 1)).2 : Nat) := by rw [szO, if_pos (by assumption)]; rfl); rw [hE]
        | (have hE : (szO rows k).2 = (szO rows (k + 1)).2 := by rw [szO]; simp only; rw [if_neg (not_of_f (by assumption))]); rw [hE]
      refine K_loopG [true,true,true,false,false,true,true,true,true,true,true,false,false,true,true,true,true,true,true,true,true,true] (env' := uS3n22) rfl (Gh.dropTo (L := [mtB rows (szO rows (k + 1)).1]) (X := [seB _]) 1 rfl (BaseOk.refl _) (by first | (simp [VVal.underL, VVal.under, fzW_under]; done) | (simp [VVal.underL, VVal.under, fzW_under]; omega)) (by simp [mtB_under])) ⟨k + 1, ?_, rfl, ?_⟩
      · first | omega | (simp only []; omega)
      · exact ⟨by omega, rfl⟩
  · try simp only [decide_eq_true_eq, decide_eq_false_iff_not, Bool.not_eq_true', Bool.not_eq_false', bne_iff_ne, beq_iff_eq, Bool.and_eq_true, Bool.or_eq_true, Bool.not_eq_true, ge_iff_le, gt_iff_lt, Int.not_le, Int.not_lt, beq_eq_false_iff_ne, bne_eq_false_iff_eq, ne_eq, Decidable.not_not, wd_zero, wd_one, wd_inj] at hc1
    refine B_exit ?_
    refine K_seqX ?_
    refine K_loopX ?_
    refine K_blkX ?_
    refine K_seq ?_
    refine B_seq ?_
    refine B_region ?_
    refine L_op (env' := uS3n22) rfl rfl (v_move (.inl rfl) rfl) rfl ?_
    refine L_op (env' := uS3n22) rfl rfl (v_move (.inr rfl) rfl) rfl ?_
    refine L_nil ?_
    refine K_seq ?_
    refine B_ret ?_
    refine E_app (.inr rfl) (vres_tmp rfl rfl) (by first | exact BaseOk.refl _ | exact BaseOk.set (BaseOk.refl _) _ rfl) (by first | rfl | simp [VVal.under, VVal.underL, fzW_under, *]) ?_
    obtain rfl : k = rows.length := by omega
    exact ⟨rfl, rfl⟩

theorem size_m {x : SW} {n : Nat} (H : VHeap) (l : List (BitVec 64)) (t : BitVec 64) (hn : n = (msk l t).length) (h62 : (msk l t).length < 4611686018427387904) : F (psys x) 33 [.fsl ((msk l t).map iW) n 1 false] H fun v G => v = iI (szN (msk l t) : Nat) ∧ G = H := by
  subst hn; exact size_spec H (msk l t) h62

theorem Clone_nil {x : SW} (H : VHeap) : F (psys x) 36 [.slice none 0 0 true 0] H fun v G => v = .fsl [] 0 1 false ∧ G = H := by
  refine F_body Tryd.func36 rfl uS3n8 rfl ?_
  refine B_seq ?_
  refine B_region ?_
  refine L_op (env' := uS3n8) rfl rfl (v_const (VVal.slice none 0 0 true 0) (.inr rfl) rfl) rfl ?_
  refine L_nil ?_
  refine K_seq ?_
  refine B_seq ?_
  refine B_seq ?_
  refine B_region ?_
  refine L_op (env' := uS3n8) rfl rfl (v_move (.inl rfl) rfl) rfl ?_
  refine L_op (env' := uS3n8) rfl rfl (rfl) rfl ?_
  refine L_nil ?_
  refine K_seq ?_
  refine B_true rfl rfl ?_
  refine B_seq ?_
  refine B_region ?_
  refine L_op (env' := uS3n8) rfl rfl (v_const (VVal.slice none 0 0 true 0) (.inr rfl) rfl) rfl ?_
  refine L_nil ?_
  refine K_seq ?_
  refine B_ret ?_
  refine K_seqR ?_
  refine E_gh (.inr rfl) (vres_tmp rfl rfl) (Gh.ansLV (BaseOk.refl _) (LV.nil H.length 1 []) rfl) ?_
  exact ⟨rfl, rfl⟩

theorem Clone_emp {x : SW} (H : VHeap) : F (psys x) 36 [.slice none 0 0 false 0] H fun v G => v = .fsl [] 0 1 false ∧ G = H := by
  refine F_body Tryd.func36 rfl uS3n8 rfl ?_
  refine B_seq ?_
  refine B_region ?_
  refine L_op (env' := uS3n8) rfl rfl (v_const (VVal.slice none 0 0 true 0) (.inr rfl) rfl) rfl ?_
  refine L_nil ?_
  refine K_seq ?_
  refine B_seq ?_
  refine B_seq ?_
  refine B_region ?_
  refine L_op (env' := uS3n8) rfl rfl (v_move (.inl rfl) rfl) rfl ?_
  refine L_op (env' := uS3n8) rfl rfl (rfl) rfl ?_
  refine L_nil ?_
  refine K_seq ?_
  refine B_false rfl rfl ?_
  refine B_skip ?_
  refine K_seq ?_
  refine B_seq ?_
  refine B_region ?_
  refine L_op (env' := uS3n8) rfl rfl (v_buildSlice rfl rfl (by decide) rfl) rfl ?_
  refine L_op (env' := uS3n8) rfl rfl (v_move (.inl rfl) rfl) rfl ?_
  refine L_op (env' := uS3n8) rfl rfl (v_appIn rfl rfl rfl rfl rfl rfl rfl (get_app rfl rfl) rfl rfl rfl rfl (by decide) (by decide) (by decide)) rfl ?_
  refine L_heap (H' := H ++ [.cells [] true]) (by rw [set_app rfl]; rfl) ?_
  refine L_op (env' := uS3n8) rfl rfl (v_move (.inr rfl) rfl) rfl ?_
  refine L_nil ?_
  refine K_seq ?_
  refine B_ret ?_
  refine E_gh (.inr rfl) (vres_tmp rfl rfl) (Gh.fsl (j := 0) (off := 0) (len := 0) (l := []) (BaseOk.refl _) rfl rfl (Nat.le_refl _) rfl) ?_
  exact ⟨rfl, rfl⟩

theorem Clone_c {x : SW} (H : VHeap) (l : List (BitVec 64)) (hne : l ≠ []) (hl : l.length ≤ 1000000) : F (psys x) 36 [fzW l] H fun v G => v = .slice (some (H.length, 0)) l.length l.length (decide (l.length = 0)) 1 ∧ G = H ++ [.cells (l.map iW) true] := by
  refine F_body Tryd.func36 rfl uS3n8 rfl ?_
  refine B_seq ?_
  refine B_region ?_
  refine L_op (env' := uS3n8) rfl rfl (v_const (VVal.slice none 0 0 true 0) (.inr rfl) rfl) rfl ?_
  refine L_nil ?_
  refine K_seq ?_
  refine B_seq ?_
  refine B_seq ?_
  refine B_region ?_
  refine L_op (env' := uS3n8) rfl rfl (v_move (.inl rfl) rfl) rfl ?_
  refine L_op (env' := uS3n8) rfl rfl (v_eqNilF rfl rfl rfl rfl rfl (fun e => hne (List.eq_nil_of_length_eq_zero e))) rfl ?_
  refine L_nil ?_
  refine K_seq ?_
  refine B_false rfl rfl ?_
  refine B_skip ?_
  refine K_seq ?_
  refine B_seq ?_
  refine B_region ?_
  refine L_op (env' := uS3n8) rfl rfl (v_buildSlice rfl rfl (by decide) rfl) rfl ?_
  refine L_op (env' := uS3n8) rfl rfl (v_move (.inl rfl) rfl) rfl ?_
  refine L_opX rfl rfl (v_appE rfl rfl rfl rfl rfl rfl rfl rfl (by rw [List.length_map]; exact (Nat.mul_one _).symm) (mapW_one _) (by decide) (by show l.length * 8 ≤ _ ∧ l.length ≤ _; omega)) ?_
  rintro _ _ ⟨Z, i, rfl, rfl, hi⟩
  refine L_env (env' := uS3n8) rfl ?_
  refine L_op (env' := uS3n8) rfl rfl (v_move (.inr rfl) rfl) rfl ?_
  refine L_nil ?_
  refine K_seq ?_
  refine B_ret ?_
  refine E_gh (.inr rfl) (vres_tmp rfl rfl) (Gh.pack (BaseOk.refl _) hi (mapW_under _ _)) ?_
  exact ⟨rfl, rfl⟩

theorem Clone_0 {x : SW} (H : VHeap) : F (psys x) 36 [fzW []] H fun v G => v = .fsl [] 0 1 false ∧ G = H := F_split0 (Clone_nil H) (Clone_emp H)
theorem Clone_L {x : SW} (H L : VHeap) (l : List (BitVec 64)) (hne : l ≠ []) (hl : l.length ≤ 1000000) : F (psys x) 36 [fzW l] (H ++ L) fun v G => v = .slice (some (H.length + L.length, 0)) l.length l.length (decide (l.length = 0)) 1 ∧ G = H ++ (L ++ [.cells (l.map iW) true]) := by
  have := Clone_c (x := x) (H ++ L) l hne hl
  rw [List.length_append, List.append_assoc] at this
  exact this

theorem full_0 {x : SW} (H : VHeap) (t : BitVec 64) : F (psys x) 28 [fzW [], iW t] H fun v G => v = .bool (fullB [] t) ∧ G = H := by
  refine F_body Tryd.func28 rfl uS3n27 rfl ?_
  refine B_seq ?_
  refine B_region ?_
  refine L_op (env' := uS3n27) rfl rfl (v_const (VVal.bool false) (.inr rfl) rfl) rfl ?_
  refine L_nil ?_
  refine K_seq ?_
  refine B_seq ?_
  refine B_region ?_
  refine L_op (env' := uS3n27) rfl rfl (v_move (.inl rfl) rfl) rfl ?_
  refine L_call rfl rfl rfl (by exact Clone_0 _) ?_
  rintro _ _ ⟨rfl, rfl⟩
  refine L_env (env' := uS3n27) rfl ?_
  refine L_op (env' := uS3n27) rfl rfl (v_move (.inr rfl) rfl) rfl ?_
  refine L_nil ?_
  refine K_seq ?_
  refine B_seq ?_
  refine B_seq ?_
  refine B_region ?_
  refine L_op (env' := uS3n27) rfl rfl (v_move (.inl rfl) rfl) rfl ?_
  refine L_op (env' := uS3n27) rfl rfl (rfl) rfl ?_
  refine L_op (env' := uS3n27) rfl rfl (v_const (VVal.int .i64 0) (.inl rfl) rfl) rfl ?_
  refine L_nil ?_
  refine K_seq ?_
  refine B_block ?_
  refine B_clear [false,false,true,true,true,false,true,true,true,true,false,false,true,true,true,true,true,true,true,true,true,true,true,true,true,true,true] (env' := uS3n27) rfl ?_
  refine B_loopE (fun (k : Nat) => 0) (fun (k : Nat) => [(11, iI (k : Nat))]) (fun (k : Nat) G => (True) ∧ G = H ++ []) 0 rfl ?_ ?_
  · refine ⟨?_, rfl⟩
    trivial
  rintro k _ ⟨_, rfl⟩
  refine B_env (env' := uS3n27) rfl ?_
  refine B_seq ?_
  refine B_region ?_
  refine L_op (env' := uS3n27) rfl rfl (rfl) rfl ?_
  refine L_nil ?_
  refine K_seq ?_
  refine B_seq ?_
  refine B_cond _ rfl (fun hc1 => ?_) (fun hc1 => ?_)
  · try simp only [decide_eq_true_eq, decide_eq_false_iff_not, Bool.not_eq_true', Bool.not_eq_false', bne_iff_ne, beq_iff_eq, Bool.and_eq_true, Bool.or_eq_true, Bool.not_eq_true, ge_iff_le, gt_iff_lt, Int.not_le, Int.not_lt, beq_eq_false_iff_ne, bne_eq_false_iff_eq, ne_eq, Decidable.not_not, wd_zero, wd_one, wd_inj] at hc1
    exfalso; omega
  · try simp only [decide_eq_true_eq, decide_eq_false_iff_not, Bool.not_eq_true', Bool.not_eq_false', bne_iff_ne, beq_iff_eq, Bool.and_eq_true, Bool.or_eq_true, Bool.not_eq_true, ge_iff_le, gt_iff_lt, Int.not_le, Int.not_lt, beq_eq_false_iff_ne, bne_eq_false_iff_eq, ne_eq, Decidable.not_not, wd_zero, wd_one, wd_inj] at hc1
    refine B_exit ?_
    refine K_seqX ?_
    refine K_loopX ?_
    refine K_blkX ?_
    refine K_seq ?_
    refine B_seq ?_
    refine B_region ?_
    refine L_op (env' := uS3n27) rfl rfl (v_move (.inl rfl) rfl) rfl ?_
    refine L_call rfl rfl rfl (by exact size_spec _ [] (by decide)) ?_
    rintro _ _ ⟨rfl, rfl⟩
    refine L_env (env' := uS3n27) rfl ?_
    refine L_op (env' := uS3n27) rfl rfl (v_move (.inl rfl) rfl) rfl ?_
    refine L_op (env' := uS3n27) rfl rfl (rfl) rfl ?_
    refine L_op (env' := uS3n27) rfl rfl (rfl) rfl ?_
    refine L_op (env' := uS3n27) rfl rfl (v_move (.inr rfl) rfl) rfl ?_
    refine L_nil ?_
    refine K_seq ?_
    refine B_ret ?_
    refine E_app (.inr rfl) (vres_tmp rfl rfl) (by first | exact BaseOk.refl _ | exact BaseOk.set (BaseOk.refl _) _ rfl) (by first | rfl | simp [VVal.under, VVal.underL, *]) ?_
    exact ⟨rfl, rfl⟩

theorem full_c {x : SW} (H : VHeap) (l : List (BitVec 64)) (t : BitVec 64) (hne : l ≠ []) (hl : l.length ≤ 1000000) : F (psys x) 28 [fzW l, iW t] H fun v G => v = .bool (fullB l t) ∧ G = H := by
  refine F_body Tryd.func28 rfl uS3n27 rfl ?_
  refine B_seq ?_
  refine B_region ?_
  refine L_op (env' := uS3n27) rfl rfl (v_const (VVal.bool false) (.inr rfl) rfl) rfl ?_
  refine L_nil ?_
  refine K_seq ?_
  refine B_seq ?_
  refine B_region ?_
  refine L_op (env' := uS3n27) rfl rfl (v_move (.inl rfl) rfl) rfl ?_
  refine L_call rfl rfl rfl (by exact Clone_L _ _ _ hne hl) ?_
  rintro _ _ ⟨rfl, rfl⟩
  refine L_env (env' := uS3n27) rfl ?_
  refine L_op (env' := uS3n27) rfl rfl (v_move (.inr rfl) rfl) rfl ?_
  refine L_nil ?_
  refine K_seq ?_
  refine B_seq ?_
  refine B_seq ?_
  refine B_region ?_
  refine L_op (env' := uS3n27) rfl rfl (v_move (.inl rfl) rfl) rfl ?_
  refine L_op (env' := uS3n27) rfl rfl (rfl) rfl ?_
  refine L_op (env' := uS3n27) rfl rfl (v_const (VVal.int .i64 0) (.inl rfl) rfl) rfl ?_
  refine L_nil ?_
  refine K_seq ?_
  refine B_block ?_
  refine B_clear [false,false,true,true,true,false,true,true,true,true,false,false,true,true,true,true,true,true,true,true,true,true,true,true,true,true,true] (env' := uS3n27) rfl ?_
  refine B_loopE (fun (k : Nat) => l.length - k) (fun (k : Nat) => [(11, iI (k : Nat))]) (fun (k : Nat) G => (k ≤ l.length) ∧ G = H ++ [.cells ((mskT l t k).map iW) true]) 0 rfl ?_ ?_
  · refine ⟨?_, (by rw [mskT_0]; rfl)⟩
    exact Nat.zero_le _
  rintro k _ ⟨hk, rfl⟩
  refine B_env (env' := uS3n27) rfl ?_
  refine B_seq ?_
  refine B_region ?_
  refine L_op (env' := uS3n27) rfl rfl (rfl) rfl ?_
  refine L_nil ?_
  refine K_seq ?_
  refine B_seq ?_
  refine B_cond _ rfl (fun hc1 => ?_) (fun hc1 => ?_)
  · try simp only [decide_eq_true_eq, decide_eq_false_iff_not, Bool.not_eq_true', Bool.not_eq_false', bne_iff_ne, beq_iff_eq, Bool.and_eq_true, Bool.or_eq_true, Bool.not_eq_true, ge_iff_le, gt_iff_lt, Int.not_le, Int.not_lt, beq_eq_false_iff_ne, bne_eq_false_iff_eq, ne_eq, Decidable.not_not, wd_zero, wd_one, wd_inj] at hc1
    refine B_skip ?_
    refine K_seq ?_
    refine B_seq ?_
    refine B_block ?_
    refine B_seq ?_
    refine B_region ?_
    refine L_op (env' := uS3n27) rfl rfl (v_move (.inl rfl) rfl) rfl ?_
    refine L_op (env' := uS3n27) rfl rfl (v_move (.inr rfl) rfl) rfl ?_
    refine L_nil ?_
    refine K_seq ?_
    refine B_region ?_
    refine L_op (env' := uS3n27) rfl rfl (v_move (.inl rfl) rfl) rfl ?_
    refine L_op (env' := uS3n27) rfl rfl (v_move (.inl rfl) rfl) rfl ?_
    refine L_op (env' := uS3n27) rfl rfl (by first | exact v_idxF rfl rfl rfl rfl rfl rfl rfl (by first | assumption | omega | (simp [*]; done) | (simp at *; omega)) | exact v_idx rfl rfl rfl rfl rfl rfl rfl (by first | assumption | omega | (simp [*]; done) | (simp at *; omega))) rfl ?_
    refine L_op (env' := uS3n27) rfl rfl (by first | exact v_loadF rfl rfl rfl rfl (by first | exact fget0 (α := BitVec 64) 0 (by rw [mskT_len]; omega) | rfl) | exact v_load rfl rfl rfl rfl (by first | exact get_app rfl rfl | exact get_out (by assumption) | assumption | (simp [*]; done)) (by first | exact fget0 (α := BitVec 64) 0 (by rw [mskT_len]; omega) | rfl)) rfl ?_
    refine L_op (env' := uS3n27) rfl rfl (v_move (.inl rfl) rfl) rfl ?_
    refine L_op (env' := uS3n27) rfl rfl (v_andNotW rfl rfl rfl) rfl ?_
    refine L_op (env' := uS3n27) rfl rfl (by first | exact v_idxF rfl rfl rfl rfl rfl rfl rfl (by first | assumption | omega | (simp [*]; done) | (simp at *; omega)) | exact v_idx rfl rfl rfl rfl rfl rfl rfl (by first | assumption | omega | (simp [*]; done) | (simp at *; omega))) rfl ?_
    refine L_op (env' := uS3n27) rfl rfl (v_storeT rfl rfl rfl rfl rfl rfl rfl (by first | exact get_app rfl rfl | exact get_out (by assumption) | assumption | (simp [*]; done)) (by first | (simp [mskT_len]; done) | (simp [mskT_len]; omega)) (by exact (set_app rfl).trans (by rw [splice_w (by rw [mskT_len]; omega)]))) rfl ?_
    refine L_nil ?_
    refine K_blk ?_
    refine K_seq ?_
    refine B_region ?_
    refine L_op (env' := uS3n27) rfl rfl (v_addI rfl rfl rfl (by first | assumption | omega | (simp [*]; done) | (simp at *; omega))) rfl ?_
    refine L_op (env' := uS3n27) rfl rfl (v_move (.inl rfl) rfl) rfl ?_
    refine L_nil ?_
    have hE : (mskT l t k).set (k : Int).toNat ((mskT l t k).getD (k : Int).toNat 0 &&& ~~~t) = mskT l t (k + 1) := by rw [Int.toNat_natCast, mskT_get (by omega), mskT_set (by omega)]
    refine K_loop [false,false,true,true,true,false,true,true,true,true,false,false,true,true,true,true,true,true,true,true,true,true,true,true,true,true,true] (env' := uS3n27) rfl ⟨k + 1, ?_, rfl, ?_⟩
    · first | omega | (simp only []; omega)
    · exact ⟨by omega, by rw [← hE]; rfl⟩
  · try simp only [decide_eq_true_eq, decide_eq_false_iff_not, Bool.not_eq_true', Bool.not_eq_false', bne_iff_ne, beq_iff_eq, Bool.and_eq_true, Bool.or_eq_true, Bool.not_eq_true, ge_iff_le, gt_iff_lt, Int.not_le, Int.not_lt, beq_eq_false_iff_ne, bne_eq_false_iff_eq, ne_eq, Decidable.not_not, wd_zero, wd_one, wd_inj] at hc1
    refine B_exit ?_
    refine K_seqX ?_
    refine K_loopX ?_
    refine K_blkX ?_
    refine K_seq ?_
    refine B_seq ?_
    obtain rfl : k = l.length := by omega
    rw [mskT_all]
    refine B_region ?_
    refine L_op (env' := uS3n27) rfl rfl (v_move (.inl rfl) rfl) rfl ?_
    refine L_gh (Gh.freezeL (l := (msk l t).map iW) 22 0 rfl rfl (by rw [show l.length * 1 = (msk l t).length * 1 by rw [msk_len]]; exact mapW_all) (Nat.le_refl _) rfl) ?_
    refine L_call rfl rfl rfl (by exact size_m _ _ _ (by rw [msk_len]) (by rw [msk_len]; omega)) ?_
    rintro _ _ ⟨rfl, rfl⟩
    refine L_env (env' := uS3n27) rfl ?_
    refine L_op (env' := uS3n27) rfl rfl (v_move (.inl rfl) rfl) rfl ?_
    refine L_op (env' := uS3n27) rfl rfl (rfl) rfl ?_
    refine L_op (env' := uS3n27) rfl rfl (rfl) rfl ?_
    refine L_op (env' := uS3n27) rfl rfl (v_move (.inr rfl) rfl) rfl ?_
    refine L_nil ?_
    refine K_seq ?_
    refine B_ret ?_
    refine E_app (.inr rfl) (vres_tmp rfl rfl) (by first | exact BaseOk.refl _ | exact BaseOk.set (BaseOk.refl _) _ rfl) (by first | rfl | simp [VVal.under, VVal.underL, *]) ?_
    exact ⟨by unfold fullB; rw [beq_nat], rfl⟩
end Go.Proofs.YtpekleeidllllaaDoor.VT
