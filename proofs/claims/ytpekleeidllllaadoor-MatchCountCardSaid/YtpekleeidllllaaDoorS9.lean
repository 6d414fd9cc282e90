/- the reference's Size, Full, given, Least: walks -/
import Derived.Test.YtpekleeidllllaaDoorS7
set_option autoImplicit false
set_option linter.unusedVariables false
set_option linter.unusedSimpArgs false
set_option maxHeartbeats 4000000
set_option maxRecDepth 100000
namespace Go.Proofs.YtpekleeidllllaaDoor.VT
open Go Go.V Go.RowKit

abbrev uS9n13 {a0 a1 a2 a3 a4 a5 a6 a7 a8 a9 a10 a11 a12 : VVal} : VEnv := a0 :: a1 :: a2 :: a3 :: a4 :: a5 :: a6 :: a7 :: a8 :: a9 :: a10 :: a11 :: a12 :: []
abbrev uS9n24 {a0 a1 a2 a3 a4 a5 a6 a7 a8 a9 a10 a11 a12 a13 a14 a15 a16 a17 a18 a19 a20 a21 a22 a23 : VVal} : VEnv := a0 :: a1 :: a2 :: a3 :: a4 :: a5 :: a6 :: a7 :: a8 :: a9 :: a10 :: a11 :: a12 :: a13 :: a14 :: a15 :: a16 :: a17 :: a18 :: a19 :: a20 :: a21 :: a22 :: a23 :: []
abbrev uS9n36 {a0 a1 a2 a3 a4 a5 a6 a7 a8 a9 a10 a11 a12 a13 a14 a15 a16 a17 a18 a19 a20 a21 a22 a23 a24 a25 a26 a27 a28 a29 a30 a31 a32 a33 a34 a35 : VVal} : VEnv := a0 :: a1 :: a2 :: a3 :: a4 :: a5 :: a6 :: a7 :: a8 :: a9 :: a10 :: a11 :: a12 :: a13 :: a14 :: a15 :: a16 :: a17 :: a18 :: a19 :: a20 :: a21 :: a22 :: a23 :: a24 :: a25 :: a26 :: a27 :: a28 :: a29 :: a30 :: a31 :: a32 :: a33 :: a34 :: a35 :: []

theorem turn_spec {x : SW} (p q : Nat) (ex : Bool) (rows : List (BitVec 64)) (hpq : p ≠ q) (h62 : rows.length ≤ 1000000) : ∀ (n : Nat) (H : VHeap) (i : Nat) (has : List Int) (S : BitVec 64), H[p]? = some (haB has) → H[q]? = some (seB S) → i < rows.length → has.length = rows.length → 64 - come 64 S < n → F (psys x) 34 [fzW rows, .slice (some (p, 0)) rows.length rows.length ex 1, .ptr (some (q, 0)), iI (i : Nat)] H fun v G => v = .bool (trn rows n i (has, S)).1 ∧ G = trH H p q (trn rows n i (has, S)).2
  | 0, _, _, _, _, _, _, _, _, h => absurd h (by omega)
  | n + 1, H, i, has, S, hp, hq, hi, hl, hm => turn_s p q n ex rows hpq h62 (fun H i has S a b c d e => turn_spec p q ex rows hpq h62 n H i has S a b c d e) H i has S hp hq hi hl hm
theorem turn_at {x : SW} (H : VHeap) (ex : Bool) (rows : List (BitVec 64)) (has : List Int) (i : Nat) (hi : i < rows.length) (hl : has.length = rows.length) (h62 : rows.length ≤ 1000000) : F (psys x) 34 [fzW rows, .slice (some (H.length + 0, 0)) rows.length rows.length ex 1, .ptr (some (H.length + 1, 0)), iI (i : Nat)] (H ++ [haB has, seB 0#64]) fun v G => v = .bool (trn rows 65 i (has, 0#64)).1 ∧ G = H ++ [haB (trn rows 65 i (has, 0#64)).2.1, seB (trn rows 65 i (has, 0#64)).2.2] := by
  have := turn_spec (x := x) (H.length + 0) (H.length + 1) ex rows (by omega) h62 65 (H ++ [haB has, seB 0#64]) i has 0#64 (get_app rfl rfl) (get_app rfl rfl) hi hl (by rw [come_0]; omega)
  unfold trH at this
  rw [set_app rfl, set_app rfl] at this
  exact this
theorem haB_under {n : Nat} {has : List Int} : (haB has).under n = true := mapI_under _ _
theorem rep_cells : ∀ {n : Nat}, repeatCells [VVal.int .i64 0] n = (List.replicate n (0 : Int)).map iI
  | 0 => rfl
  | n + 1 => by rw [repeatCells, rep_cells, List.replicate_succ]; rfl
/-- places as they are laid -/
def iniT (n k : Nat) : List Int := List.replicate k (-1) ++ List.replicate (n - k) 0
theorem iniT_len {n k : Nat} (h : k ≤ n) : (iniT n k).length = n := by unfold iniT; simp; omega
theorem iniT_set {n k : Nat} (h : k < n) : (iniT n k).set k (-1) = iniT n (k + 1) := by
  unfold iniT
  rw [List.set_append_right _ _ (by simp), List.length_replicate, Nat.sub_self, show n - k = (n - (k + 1)) + 1 by omega, List.replicate_succ, List.set_cons_zero, List.replicate_succ', List.append_assoc]; rfl
theorem iniT_all {n : Nat} : iniT n n = List.replicate n (-1) := by unfold iniT; simp
theorem rsz_len {rows : List (BitVec 64)} {k : Nat} (h : k ≤ rows.length) : (rsz rows k).1.length = rows.length := (rsz_cor h).1.hl
theorem rsz_le {rows : List (BitVec 64)} {k : Nat} (h : k ≤ rows.length) : (rsz rows k).2 ≤ k := by rw [(rsz_cor h).2.1]; exact szO_le
theorem full_sz {rows : List (BitVec 64)} : fullB rows 0#64 = (szN rows == rows.length) := by unfold fullB; rw [msk_0]

theorem refSize_spec {x : SW} (H : VHeap) (rows : List (BitVec 64)) (h62 : rows.length ≤ 1000000) : F (psys x) 14 [fzW rows] H fun v G => v = iI (szV rows) ∧ G = H := by
  refine F_body Tryd.func14 rfl uS9n36 rfl ?_
  refine B_seq ?_
  refine B_region ?_
  refine L_op (env' := uS9n36) rfl rfl (v_const (VVal.int .i64 0) (.inr rfl) rfl) rfl ?_
  refine L_nil ?_
  refine K_seq ?_
  refine B_seq ?_
  refine B_seq ?_
  refine B_region ?_
  refine L_op (env' := uS9n36) rfl rfl (v_move (.inl rfl) rfl) rfl ?_
  refine L_op (env' := uS9n36) rfl rfl (rfl) rfl ?_
  refine L_op (env' := uS9n36) rfl rfl (rfl) rfl ?_
  refine L_nil ?_
  refine K_seq ?_
  refine B_cond _ rfl (fun hc1 => ?_) (fun hc1 => ?_)
  · try simp only [decide_eq_true_eq, decide_eq_false_iff_not, Bool.not_eq_true', Bool.not_eq_false', bne_iff_ne, beq_iff_eq, Bool.and_eq_true, Bool.or_eq_true, Bool.not_eq_true, ge_iff_le, gt_iff_lt, Int.not_le, Int.not_lt, beq_eq_false_iff_ne, bne_eq_false_iff_eq, ne_eq, Decidable.not_not, wd_zero, wd_one, wd_inj] at hc1
    refine B_seq ?_
    refine B_region ?_
    refine L_op (env' := uS9n36) rfl rfl (v_const (VVal.int .i64 0) (.inr rfl) rfl) rfl ?_
    refine L_nil ?_
    refine K_seq ?_
    refine B_ret ?_
    refine K_seqR ?_
    refine E_app (.inr rfl) (vres_tmp rfl rfl) (by first | exact BaseOk.refl _ | exact BaseOk.set (BaseOk.refl _) _ rfl) (by first | rfl | simp [VVal.under, VVal.underL, fzW_under, *]) ?_
    first
      | exact ⟨by rw [szV, if_neg (by omega)], rfl⟩
      | (obtain rfl : k = rows.length := by omega); exact ⟨by rw [szV, if_pos (by omega), rsz_all], rfl⟩
  · try simp only [decide_eq_true_eq, decide_eq_false_iff_not, Bool.not_eq_true', Bool.not_eq_false', bne_iff_ne, beq_iff_eq, Bool.and_eq_true, Bool.or_eq_true, Bool.not_eq_true, ge_iff_le, gt_iff_lt, Int.not_le, Int.not_lt, beq_eq_false_iff_ne, bne_eq_false_iff_eq, ne_eq, Decidable.not_not, wd_zero, wd_one, wd_inj] at hc1
    refine B_skip ?_
    refine K_seq ?_
    refine B_seq ?_
    refine B_region ?_
    refine L_op (env' := uS9n36) rfl rfl (v_move (.inl rfl) rfl) rfl ?_
    refine L_op (env' := uS9n36) rfl rfl (rfl) rfl ?_
    refine L_op (env' := uS9n36) rfl rfl (v_makeSlice rfl rfl rfl rfl rfl (by decide) ⟨by omega, Int.le_refl _, by show (rows.length : Int) * (8 : Nat) ≤ _; omega, by omega⟩) rfl ?_
    refine L_op (env' := uS9n36) rfl rfl (v_move (.inr rfl) rfl) rfl ?_
    refine L_nil ?_
    refine K_seq ?_
    refine B_seq ?_
    refine B_seq ?_
    refine B_region ?_
    refine L_op (env' := uS9n36) rfl rfl (v_const (VVal.int .i64 0) (.inr rfl) rfl) rfl ?_
    refine L_nil ?_
    refine K_seq ?_
    refine B_block ?_
    refine B_clear [false,true,true,false,false,true,true,true,true,true,true,true,true,true,true,true,true,true,true,true,true,true,true,true,true,true,true,true,true,true,true,true,true,true,true,true] (env' := uS9n36) rfl ?_
    refine B_loopE (fun (k : Nat) => rows.length - k) (fun (k : Nat) => [(4, iI (k : Nat))]) (fun (k : Nat) G => (k ≤ rows.length) ∧ G = H ++ [haB (iniT rows.length k)]) 0 rfl ?_ ?_
    · refine ⟨?_, (by show _ ++ [VBlk.cells (repeatCells [VVal.int .i64 0] _) true] = _; rw [rep_cells]; rfl)⟩
      exact Nat.zero_le _
    rintro k _ ⟨hk, rfl⟩
    refine B_env (env' := uS9n36) rfl ?_
    refine B_seq ?_
    refine B_seq ?_
    refine B_region ?_
    refine L_op (env' := uS9n36) rfl rfl (v_move (.inl rfl) rfl) rfl ?_
    refine L_op (env' := uS9n36) rfl rfl (v_move (.inl rfl) rfl) rfl ?_
    refine L_op (env' := uS9n36) rfl rfl (rfl) rfl ?_
    refine L_op (env' := uS9n36) rfl rfl (rfl) rfl ?_
    refine L_nil ?_
    refine K_seq ?_
    refine B_cond _ rfl (fun hc2 => ?_) (fun hc2 => ?_)
    · try simp only [decide_eq_true_eq, decide_eq_false_iff_not, Bool.not_eq_true', Bool.not_eq_false', bne_iff_ne, beq_iff_eq, Bool.and_eq_true, Bool.or_eq_true, Bool.not_eq_true, ge_iff_le, gt_iff_lt, Int.not_le, Int.not_lt, beq_eq_false_iff_ne, bne_eq_false_iff_eq, ne_eq, Decidable.not_not, wd_zero, wd_one, wd_inj] at hc2
      refine B_skip ?_
      refine K_seq ?_
      refine B_seq ?_
      refine B_block ?_
      refine B_region ?_
      refine L_op (env' := uS9n36) rfl rfl (v_move (.inl rfl) rfl) rfl ?_
      refine L_op (env' := uS9n36) rfl rfl (v_move (.inl rfl) rfl) rfl ?_
      refine L_op (env' := uS9n36) rfl rfl (by first | exact v_idxF rfl rfl rfl rfl rfl rfl rfl (by first | assumption | omega | (simp [*]; done) | (simp at *; omega)) | exact v_idx rfl rfl rfl rfl rfl rfl rfl (by first | assumption | omega | (simp [*]; done) | (simp at *; omega))) rfl ?_
      refine L_op (env' := uS9n36) rfl rfl (v_storeC (VVal.int .i64 (-1)) rfl rfl rfl rfl rfl rfl rfl (by first | exact get_app rfl rfl | exact get_out (by assumption) | assumption | (simp [*]; done)) (by first | exact has_len (s := (iniT rows.length k, 0#64)) (by rw [iniT_len (by omega)]; omega)) (by exact (set_app rfl).trans (congrArg (fun c => H ++ [VBlk.cells c true]) (splice_i (l := iniT rows.length k) (k := k) (r := -1) (by rw [iniT_len hk]; omega))))) rfl ?_
      refine L_nil ?_
      refine K_blk ?_
      refine K_seq ?_
      refine B_region ?_
      refine L_op (env' := uS9n36) rfl rfl (v_move (.inl rfl) rfl) rfl ?_
      refine L_op (env' := uS9n36) rfl rfl (v_addI rfl rfl rfl (by first | assumption | omega | (simp [*]; done) | (simp at *; omega))) rfl ?_
      refine L_op (env' := uS9n36) rfl rfl (v_move (.inr rfl) rfl) rfl ?_
      refine L_nil ?_
      have hE : (iniT rows.length k).set (k : Int).toNat (-1) = iniT rows.length (k + 1) := iniT_set (by omega)
      refine K_loop [false,true,true,false,false,true,true,true,true,true,true,true,true,true,true,true,true,true,true,true,true,true,true,true,true,true,true,true,true,true,true,true,true,true,true,true] (env' := uS9n36) rfl ⟨k + 1, ?_, rfl, ?_⟩
      · first | omega | (simp only []; omega)
      · exact ⟨by omega, by rw [← hE]; rfl⟩
    · try simp only [decide_eq_true_eq, decide_eq_false_iff_not, Bool.not_eq_true', Bool.not_eq_false', bne_iff_ne, beq_iff_eq, Bool.and_eq_true, Bool.or_eq_true, Bool.not_eq_true, ge_iff_le, gt_iff_lt, Int.not_le, Int.not_lt, beq_eq_false_iff_ne, bne_eq_false_iff_eq, ne_eq, Decidable.not_not, wd_zero, wd_one, wd_inj] at hc2
      refine B_exit ?_
      refine K_seqX ?_
      refine K_loopX ?_
      refine K_blkX ?_
      refine K_seq ?_
      refine B_seq ?_
      refine B_region ?_
      refine L_op (env' := uS9n36) rfl rfl (v_const (VVal.int .i64 0) (.inr rfl) rfl) rfl ?_
      refine L_nil ?_
      refine K_seq ?_
      refine B_seq ?_
      refine B_seq ?_
      refine B_region ?_
      refine L_op (env' := uS9n36) rfl rfl (v_const (VVal.int .i64 0) (.inr rfl) rfl) rfl ?_
      refine L_nil ?_
      refine K_seq ?_
      refine B_block ?_
      refine B_clear [false,true,true,false,true,false,false,true,true,true,true,true,true,true,true,true,true,true,true,true,true,true,true,true,true,true,true,true,true,true,true,true,true,true,true,true] (env' := uS9n36) rfl ?_
      refine B_loopE (fun (k : Nat) => rows.length - k) (fun (k : Nat) => [(5, iI ((rsz rows k).2 : Nat)), (6, iI (k : Nat))]) (fun (k : Nat) G => (k ≤ rows.length) ∧ G = H ++ [haB (rsz rows k).1]) 0 rfl ?_ ?_
      · refine ⟨?_, (by rw [show k = rows.length by omega, iniT_all]; rfl)⟩
        exact Nat.zero_le _
      rintro k _ ⟨hk, rfl⟩
      refine B_env (env' := uS9n36) rfl ?_
      refine B_seq ?_
      refine B_seq ?_
      refine B_region ?_
      refine L_op (env' := uS9n36) rfl rfl (v_move (.inl rfl) rfl) rfl ?_
      refine L_op (env' := uS9n36) rfl rfl (v_move (.inl rfl) rfl) rfl ?_
      refine L_op (env' := uS9n36) rfl rfl (rfl) rfl ?_
      refine L_op (env' := uS9n36) rfl rfl (rfl) rfl ?_
      refine L_nil ?_
      refine K_seq ?_
      refine B_cond _ rfl (fun hc3 => ?_) (fun hc3 => ?_)
      · try simp only [decide_eq_true_eq, decide_eq_false_iff_not, Bool.not_eq_true', Bool.not_eq_false', bne_iff_ne, beq_iff_eq, Bool.and_eq_true, Bool.or_eq_true, Bool.not_eq_true, ge_iff_le, gt_iff_lt, Int.not_le, Int.not_lt, beq_eq_false_iff_ne, bne_eq_false_iff_eq, ne_eq, Decidable.not_not, wd_zero, wd_one, wd_inj] at hc3
        refine B_skip ?_
        refine K_seq ?_
        refine B_seq ?_
        refine B_block ?_
        refine B_seq ?_
        refine B_region ?_
        refine L_op (env' := uS9n36) rfl rfl (v_alloc rfl rfl) rfl ?_
        refine L_op (env' := uS9n36) rfl rfl (v_storeC (VVal.int .u64 0) rfl rfl rfl rfl rfl rfl rfl (by first | exact get_app rfl rfl | exact get_out (by assumption) | assumption | (simp [*]; done)) (by first | exact Nat.le_of_ble_eq_true rfl | (simp only [List.length_map, List.length_cons, List.length_nil]; omega) | omega | (simp; done) | (simp; omega)) (by first | exact set_app rfl | exact set_out (lt_of_get (by assumption)) | rfl)) rfl ?_
        refine L_nil ?_
        refine K_seq ?_
        refine B_seq ?_
        refine B_region ?_
        refine L_op (env' := uS9n36) rfl rfl (v_move (.inl rfl) rfl) rfl ?_
        refine L_op (env' := uS9n36) rfl rfl (v_move (.inl rfl) rfl) rfl ?_
        refine L_op (env' := uS9n36) rfl rfl (v_move (.inl rfl) rfl) rfl ?_
        refine L_call rfl rfl rfl (by exact turn_at H _ rows (rsz rows k).1 k (by omega) (rsz_len (by omega)) h62) ?_
        rintro _ _ ⟨rfl, rfl⟩
        refine L_env (env' := uS9n36) rfl ?_
        refine L_nil ?_
        refine K_seq ?_
        refine B_cond _ rfl (fun hc4 => ?_) (fun hc4 => ?_)
        · try simp only [decide_eq_true_eq, decide_eq_false_iff_not, Bool.not_eq_true', Bool.not_eq_false', bne_iff_ne, beq_iff_eq, Bool.and_eq_true, Bool.or_eq_true, Bool.not_eq_true, ge_iff_le, gt_iff_lt, Int.not_le, Int.not_lt, beq_eq_false_iff_ne, bne_eq_false_iff_eq, ne_eq, Decidable.not_not, wd_zero, wd_one, wd_inj] at hc4
          refine B_region ?_
          refine L_op (env' := uS9n36) rfl rfl (v_move (.inl rfl) rfl) rfl ?_
          refine L_op (env' := uS9n36) rfl rfl (v_addI rfl rfl rfl (by have := rsz_le (rows := rows) (k := k) (by omega); omega)) rfl ?_
          refine L_op (env' := uS9n36) rfl rfl (v_move (.inr rfl) rfl) rfl ?_
          refine L_nil ?_
          refine K_blk ?_
          refine K_seq ?_
          refine B_region ?_
          refine L_op (env' := uS9n36) rfl rfl (v_move (.inl rfl) rfl) rfl ?_
          refine L_op (env' := uS9n36) rfl rfl (v_addI rfl rfl rfl (by first | assumption | omega | (simp [*]; done) | (simp at *; omega))) rfl ?_
          refine L_op (env' := uS9n36) rfl rfl (v_move (.inr rfl) rfl) rfl ?_
          refine L_nil ?_
          first
            | (have hE : (((rsz rows k).2 : Nat) : Int) + 1 = ((rsz rows (k + 1)).2 : Nat) := by rw [rsz, if_pos (by assumption)]; rfl); rw [hE]
            | (have hE : (rsz rows k).2 = (rsz rows (k + 1)).2 := by rw [rsz]; simp only; rw [if_neg (not_of_f (by assumption))]); rw [hE]
          refine K_loopG [false,true,true,false,true,false,false,true,true,true,true,true,true,true,true,true,true,true,true,true,true,true,true,true,true,true,true,true,true,true,true,true,true,true,true,true] (env' := uS9n36) rfl (Gh.dropTo (L := [haB (rsz rows (k + 1)).1]) (X := [seB _]) 1 rfl (BaseOk.refl _) (by first | (simp [VVal.underL, VVal.under, fzW_under]; done) | (simp [VVal.underL, VVal.under, fzW_under]; omega)) (by simp [haB_under])) ⟨k + 1, ?_, rfl, ?_⟩
          · first | omega | (simp only []; omega)
          · exact ⟨by omega, rfl⟩
        · try simp only [decide_eq_true_eq, decide_eq_false_iff_not, Bool.not_eq_true', Bool.not_eq_false', bne_iff_ne, beq_iff_eq, Bool.and_eq_true, Bool.or_eq_true, Bool.not_eq_true, ge_iff_le, gt_iff_lt, Int.not_le, Int.not_lt, beq_eq_false_iff_ne, bne_eq_false_iff_eq, ne_eq, Decidable.not_not, wd_zero, wd_one, wd_inj] at hc4
          refine B_skip ?_
          refine K_blk ?_
          refine K_seq ?_
          refine B_region ?_
          refine L_op (env' := uS9n36) rfl rfl (v_move (.inl rfl) rfl) rfl ?_
          refine L_op (env' := uS9n36) rfl rfl (v_addI rfl rfl rfl (by first | assumption | omega | (simp [*]; done) | (simp at *; omega))) rfl ?_
          refine L_op (env' := uS9n36) rfl rfl (v_move (.inr rfl) rfl) rfl ?_
          refine L_nil ?_
          first
            | (have hE : (((rsz rows k).2 : Nat) : Int) + 1 = ((rsz rows (k + 1)).2 : Nat) := by rw [rsz, if_pos (by assumption)]; rfl); rw [hE]
            | (have hE : (rsz rows k).2 = (rsz rows (k + 1)).2 := by rw [rsz]; simp only; rw [if_neg (not_of_f (by assumption))]); rw [hE]
          refine K_loopG [false,true,true,false,true,false,false,true,true,true,true,true,true,true,true,true,true,true,true,true,true,true,true,true,true,true,true,true,true,true,true,true,true,true,true,true] (env' := uS9n36) rfl (Gh.dropTo (L := [haB (rsz rows (k + 1)).1]) (X := [seB _]) 1 rfl (BaseOk.refl _) (by first | (simp [VVal.underL, VVal.under, fzW_under]; done) | (simp [VVal.underL, VVal.under, fzW_under]; omega)) (by simp [haB_under])) ⟨k + 1, ?_, rfl, ?_⟩
          · first | omega | (simp only []; omega)
          · exact ⟨by omega, rfl⟩
      · try simp only [decide_eq_true_eq, decide_eq_false_iff_not, Bool.not_eq_true', Bool.not_eq_false', bne_iff_ne, beq_iff_eq, Bool.and_eq_true, Bool.or_eq_true, Bool.not_eq_true, ge_iff_le, gt_iff_lt, Int.not_le, Int.not_lt, beq_eq_false_iff_ne, bne_eq_false_iff_eq, ne_eq, Decidable.not_not, wd_zero, wd_one, wd_inj] at hc3
        refine B_exit ?_
        refine K_seqX ?_
        refine K_loopX ?_
        refine K_blkX ?_
        refine K_seq ?_
        refine B_seq ?_
        refine B_region ?_
        refine L_op (env' := uS9n36) rfl rfl (v_move (.inl rfl) rfl) rfl ?_
        refine L_op (env' := uS9n36) rfl rfl (v_move (.inr rfl) rfl) rfl ?_
        refine L_nil ?_
        refine K_seq ?_
        refine B_ret ?_
        refine E_app (.inr rfl) (vres_tmp rfl rfl) (by first | exact BaseOk.refl _ | exact BaseOk.set (BaseOk.refl _) _ rfl) (by first | rfl | simp [VVal.under, VVal.underL, fzW_under, *]) ?_
        first
          | exact ⟨by rw [szV, if_neg (by omega)], rfl⟩
          | (obtain rfl : k = rows.length := by omega); exact ⟨by rw [szV, if_pos (by omega), rsz_all], rfl⟩

theorem refFull_spec {x : SW} (H : VHeap) (rows : List (BitVec 64)) (h62 : rows.length ≤ 1000000) : F (psys x) 31 [fzW rows] H fun v G => v = .bool (decide (rows.length ≤ 12) && fullB rows 0#64) ∧ G = H := by
  refine F_body Tryd.func31 rfl uS9n13 rfl ?_
  refine B_seq ?_
  refine B_region ?_
  refine L_op (env' := uS9n13) rfl rfl (v_const (VVal.bool false) (.inr rfl) rfl) rfl ?_
  refine L_nil ?_
  refine K_seq ?_
  refine B_seq ?_
  refine B_region ?_
  refine L_op (env' := uS9n13) rfl rfl (v_move (.inl rfl) rfl) rfl ?_
  refine L_op (env' := uS9n13) rfl rfl (rfl) rfl ?_
  refine L_op (env' := uS9n13) rfl rfl (rfl) rfl ?_
  refine L_op (env' := uS9n13) rfl rfl (v_move (.inl rfl) rfl) rfl ?_
  refine L_split 6 (env1 := uS9n13) (env2 := uS9n13) rfl rfl rfl (fun hg1 => ?_) (fun hg1 => ?_)
  · try simp only [decide_eq_true_eq, decide_eq_false_iff_not, Bool.not_eq_true', Bool.not_eq_false', bne_iff_ne, beq_iff_eq, Bool.and_eq_true, Bool.or_eq_true, Bool.not_eq_true, ge_iff_le, gt_iff_lt, Int.not_le, Int.not_lt, beq_eq_false_iff_ne, bne_eq_false_iff_eq, ne_eq, Decidable.not_not, wd_zero, wd_one, wd_inj] at hg1
    refine L_op (env' := uS9n13) rfl rfl (v_move (.inl rfl) rfl) rfl ?_
    refine L_call rfl rfl rfl (by exact refSize_spec _ _ h62) ?_
    rintro _ _ ⟨rfl, rfl⟩
    refine L_env (env' := uS9n13) rfl ?_
    refine L_op (env' := uS9n13) rfl rfl (v_move (.inl rfl) rfl) rfl ?_
    refine L_op (env' := uS9n13) rfl rfl (rfl) rfl ?_
    refine L_op (env' := uS9n13) rfl rfl (rfl) rfl ?_
    refine L_op (env' := uS9n13) rfl rfl (v_pickT rfl rfl rfl) rfl ?_
    refine L_op (env' := uS9n13) rfl rfl (v_move (.inr rfl) rfl) rfl ?_
    refine L_nil ?_
    refine K_seq ?_
    refine B_ret ?_
    refine E_app (.inr rfl) (vres_tmp rfl rfl) (by first | exact BaseOk.refl _ | exact BaseOk.set (BaseOk.refl _) _ rfl) (by first | rfl | simp [VVal.under, VVal.underL, *]) ?_
    first
      | exact ⟨by rw [full_sz, decide_eq_true (by omega), Bool.true_and, ← beq_nat]; rw [szV, if_pos (by omega)], rfl⟩
      | exact ⟨by rw [decide_eq_false (by omega), Bool.false_and], rfl⟩
  · try simp only [decide_eq_true_eq, decide_eq_false_iff_not, Bool.not_eq_true', Bool.not_eq_false', bne_iff_ne, beq_iff_eq, Bool.and_eq_true, Bool.or_eq_true, Bool.not_eq_true, ge_iff_le, gt_iff_lt, Int.not_le, Int.not_lt, beq_eq_false_iff_ne, bne_eq_false_iff_eq, ne_eq, Decidable.not_not, wd_zero, wd_one, wd_inj] at hg1
    refine L_off (env' := uS9n13) rfl rfl ?_
    refine L_off (env' := uS9n13) rfl rfl ?_
    refine L_off (env' := uS9n13) rfl rfl ?_
    refine L_off (env' := uS9n13) rfl rfl ?_
    refine L_off (env' := uS9n13) rfl rfl ?_
    refine L_op (env' := uS9n13) rfl rfl (v_pickFC (VVal.bool false) rfl rfl rfl) rfl ?_
    refine L_op (env' := uS9n13) rfl rfl (v_move (.inr rfl) rfl) rfl ?_
    refine L_nil ?_
    refine K_seq ?_
    refine B_ret ?_
    refine E_app (.inr rfl) (vres_tmp rfl rfl) (by first | exact BaseOk.refl _ | exact BaseOk.set (BaseOk.refl _) _ rfl) (by first | rfl | simp [VVal.under, VVal.underL, *]) ?_
    first
      | exact ⟨by rw [full_sz, decide_eq_true (by omega), Bool.true_and, ← beq_nat]; rw [szV, if_pos (by omega)], rfl⟩
      | exact ⟨by rw [decide_eq_false (by omega), Bool.false_and], rfl⟩

/-- the rows behind the first, without a place -/
def gvT (rows : List (BitVec 64)) (t : BitVec 64) (i : Nat) : List (BitVec 64) := msk ((rows.take i).drop 1) t
theorem gvT_len {rows : List (BitVec 64)} {t : BitVec 64} {i : Nat} (h : i ≤ rows.length) : (gvT rows t i).length = i - 1 := by
  unfold gvT; rw [msk_len, List.length_drop, List.length_take]; omega
theorem gvT_1 {rows : List (BitVec 64)} {t : BitVec 64} : gvT rows t 1 = [] := by
  unfold gvT
  cases rows <;> rfl
theorem gvT_succ {rows : List (BitVec 64)} {t : BitVec 64} {i : Nat} (h1 : 1 ≤ i) (h : i < rows.length) : gvT rows t (i + 1) = gvT rows t i ++ [rows.getD (i : Int).toNat 0 &&& ~~~t] := by
  unfold gvT msk
  rw [List.take_succ_eq_append_getElem h, List.drop_append_of_le_length (by rw [List.length_take]; omega), List.map_append, Int.toNat_natCast, List.getD_eq_getElem?_getD, List.getElem?_eq_getElem h]; rfl
theorem gvT_all {rows : List (BitVec 64)} {t : BitVec 64} {i : Nat} (h : rows.length ≤ i) : gvT rows t i = msk (rows.drop 1) t := by
  unfold gvT; rw [List.take_of_length_le h]
theorem msk_fullB {l : List (BitVec 64)} {s t : BitVec 64} : fullB (msk l s) t = fullB l (s ||| t) := by unfold fullB; rw [msk_msk, msk_len]
theorem or_z (t : BitVec 64) : 0#64 ||| t = t := by simp
theorem msk_w {w s t : BitVec 64} : (w &&& ~~~s) &&& ~~~t = w &&& ~~~(s ||| t) := word_ext fun i hi => by
  simp only [BitVec.getLsbD_and, BitVec.getLsbD_not, BitVec.getLsbD_or, hi, decide_true, Bool.true_and, Bool.not_or, Bool.and_assoc]
theorem lst_msk : ∀ {l : List (BitVec 64)} {s t : BitVec 64}, lst (msk l s) t = lst l (s ||| t)
  | [], s, t => rfl
  | w :: l, s, t => by
    show lst ((w &&& ~~~s) :: msk l s) t = _
    rw [lst, lst, msk_w]
    simp only [msk_fullB, BitVec.or_assoc, lst_msk]
theorem z_not (w : BitVec 64) : w &&& ~~~0#64 = w := word_ext fun i hi => by rw [BitVec.getLsbD_and, BitVec.getLsbD_not, BitVec.getLsbD_zero, decide_eq_true hi]; simp
/-- the first place, the rest behind it -/
theorem lst_first {w : BitVec 64} {l : List (BitVec 64)} {u : Nat} (hu : u < 64) (h1 : w.getLsbD u = true) (h2 : fullB (msk l (1#64 <<< u)) 0#64 = true) (h3 : ∀ v, v < u → w.getLsbD v = true → fullB (msk l (1#64 <<< v)) 0#64 = false) : lst (w :: l) 0#64 = u :: lst (msk l (1#64 <<< u)) 0#64 := by
  have hor : ∀ v : Nat, 0#64 ||| 1#64 <<< v = 1#64 <<< v ||| 0#64 := fun v => by simp
  have hx : pl w 0 = (List.range u).filter w.getLsbD ++ u :: pl w (u + 1) := by
    have e1 : pl w 0 = (List.range u).filter w.getLsbD ++ pl w u := by
      unfold pl
      rw [show (64 : Nat) - 0 = u + (64 - u) by omega, List.range_eq_range', List.range'_append_1 |>.symm, List.filter_append, Nat.zero_add]
    rw [e1, pl_step w u, if_pos hu, if_pos h1]
  rw [lst, z_not, hx, find_yes (c := u) (fun v hv => ?_) (by rw [hor, ← msk_fullB]; exact h2)]
  · simp only
    rw [hor, lst_msk]
  · have hv := List.mem_filter.1 hv
    rw [hor, ← msk_fullB]; exact h3 v (List.mem_range.1 hv.1) hv.2
theorem first_ex {w : BitVec 64} {l : List (BitVec 64)} (h : fullB (w :: l) 0#64 = true) : ∃ u, u < 64 ∧ w.getLsbD u = true ∧ fullB (msk l (1#64 <<< u)) 0#64 = true := by
  obtain ⟨u, h1, h2⟩ := mat_cons.1 (full0.1 h)
  exact ⟨u, BitVec.lt_of_getLsbD h1, h1, full0.2 h2⟩
theorem LV.appW {h : Nat} {X : VHeap} {v : VVal} {l : List (BitVec 64)} {w : BitVec 64} {n : Nat} (r : LV h 1 X v (l.map iW ++ [iW w]) n) : LV h 1 X v ((l ++ [w]).map iW) n := by rw [List.map_append]; exact r
theorem LV.appN {h : Nat} {X : VHeap} {v : VVal} {l : List Nat} {u : Nat} {n : Nat} (r : LV h 1 X v (l.map iN ++ [iN u]) n) : LV h 1 X v ((l ++ [u]).map iN) n := by rw [List.map_append]; exact r

theorem given_spec {x : SW} (H : VHeap) (rows : List (BitVec 64)) (u : Nat) (h62 : rows.length ≤ 1000000) : F (psys x) 32 [fzW rows, iI (u : Nat)] H fun v G => v = fzW (msk (rows.drop 1) (1#64 <<< u)) ∧ G = H := by
  refine F_body Tryd.func32 rfl uS9n24 rfl ?_
  refine B_seq ?_
  refine B_region ?_
  refine L_op (env' := uS9n24) rfl rfl (v_const (VVal.slice none 0 0 true 0) (.inr rfl) rfl) rfl ?_
  refine L_nil ?_
  refine K_seq ?_
  refine B_seq ?_
  refine B_region ?_
  refine L_op (env' := uS9n24) rfl rfl (v_const (VVal.slice none 0 0 true 0) (.inr rfl) rfl) rfl ?_
  refine L_nil ?_
  refine K_seq ?_
  refine B_seq ?_
  refine B_seq ?_
  refine B_region ?_
  refine L_op (env' := uS9n24) rfl rfl (v_const (VVal.int .i64 1) (.inr rfl) rfl) rfl ?_
  refine L_nil ?_
  refine K_seq ?_
  refine B_block ?_
  refine B_clear [false,false,true,true,true,false,false,true,true,true,true,true,true,true,true,true,true,true,true,true,true,true,true,true] (env' := uS9n24) rfl ?_
  refine B_loopE (fun (⟨i, lv⟩ : Nat × VVal) => rows.length - i) (fun (⟨i, lv⟩ : Nat × VVal) => [(5, lv), (6, iI (i : Nat))]) (fun (⟨i, lv⟩ : Nat × VVal) G => (1 ≤ i ∧ (i ≤ rows.length ∨ i = 1)) ∧ ∃ X, G = H ++ X ∧ LV H.length 1 X lv ((gvT rows (1#64 <<< u) i).map iW) (i - 1)) ⟨1, _⟩ rfl ?_ ?_
  · refine ⟨?_, ⟨_, rfl, by rw [gvT_1]; exact LV.nil _ _ _⟩⟩
    exact ⟨Nat.le_refl _, .inr rfl⟩
  rintro ⟨i, lv⟩ _ ⟨⟨hi1, hi2⟩, ⟨X, rfl, hl⟩⟩
  refine B_env (env' := uS9n24) rfl ?_
  refine B_seq ?_
  refine B_seq ?_
  refine B_region ?_
  refine L_op (env' := uS9n24) rfl rfl (v_move (.inl rfl) rfl) rfl ?_
  refine L_op (env' := uS9n24) rfl rfl (v_move (.inl rfl) rfl) rfl ?_
  refine L_op (env' := uS9n24) rfl rfl (rfl) rfl ?_
  refine L_op (env' := uS9n24) rfl rfl (rfl) rfl ?_
  refine L_nil ?_
  refine K_seq ?_
  refine B_cond _ rfl (fun hc1 => ?_) (fun hc1 => ?_)
  · try simp only [decide_eq_true_eq, decide_eq_false_iff_not, Bool.not_eq_true', Bool.not_eq_false', bne_iff_ne, beq_iff_eq, Bool.and_eq_true, Bool.or_eq_true, Bool.not_eq_true, ge_iff_le, gt_iff_lt, Int.not_le, Int.not_lt, beq_eq_false_iff_ne, bne_eq_false_iff_eq, ne_eq, Decidable.not_not, wd_zero, wd_one, wd_inj] at hc1
    refine B_skip ?_
    refine K_seq ?_
    refine B_seq ?_
    refine B_block ?_
    refine B_draw [0, 1, 2, 3, 4, 5, 6, 7, 8, 9, 10] #[0, 0, 0, 6, 14, 0, 32, 126, 254, 511, 1023] (by kernel_rfl) (by kernel_rfl) (by kernel_rfl) ?_
    refine O_op (env' := uS9n24) (c := .calm) rfl rfl rfl (v_move (.inl rfl) rfl) rfl rfl rfl ?_
    refine O_op (env' := uS9n24) (c := .calm) rfl rfl rfl (v_move (.inl rfl) rfl) rfl rfl rfl ?_
    refine O_op (env' := uS9n24) (c := .calm) rfl rfl rfl (v_move (.inl rfl) rfl) rfl rfl rfl ?_
    refine O_op (env' := uS9n24) (c := .calm) rfl rfl rfl (by first | exact v_idxF rfl rfl rfl rfl rfl rfl rfl (by first | assumption | omega | (simp [*]; done) | (simp at *; omega)) | exact v_idx rfl rfl rfl rfl rfl rfl rfl (by first | assumption | omega | (simp [*]; done) | (simp at *; omega))) rfl rfl rfl ?_
    refine O_op (env' := uS9n24) (c := .look) rfl rfl rfl (by first | exact v_loadF rfl rfl rfl rfl (by first | rfl | assumption | exact fget (α := BitVec 64) 0 (by omega) | exact fget (α := Int) 0 (by omega) | exact fget0 (α := BitVec 64) 0 (by omega) | exact fget0 (α := Int) 0 (by omega) | exact fget (α := Bool) false (by omega) | exact fget0 (α := Bool) false (by omega) | (simp [*]; done)) | exact v_load rfl rfl rfl rfl (by first | exact get_app rfl rfl | exact get_out (by assumption) | assumption | (simp [*]; done)) (by first | rfl | assumption | exact fget (α := BitVec 64) 0 (by omega) | exact fget (α := Int) 0 (by omega) | exact fget0 (α := BitVec 64) 0 (by omega) | exact fget0 (α := Int) 0 (by omega) | exact fget (α := Bool) false (by omega) | exact fget0 (α := Bool) false (by omega) | (simp [*]; done))) rfl rfl rfl ?_
    refine O_op (env' := uS9n24) (c := .calm) rfl rfl rfl (v_move (.inl rfl) rfl) rfl rfl rfl ?_
    refine O_op (env' := uS9n24) (c := .calm) rfl rfl rfl (v_shl1 rfl rfl rfl (by first | assumption | omega | (simp [*]; done) | (simp at *; omega))) rfl rfl rfl ?_
    refine O_op (env' := uS9n24) (c := .calm) rfl rfl rfl (v_andNotW rfl rfl rfl) rfl rfl rfl ?_
    refine O_op (env' := uS9n24) (c := .grow) rfl rfl rfl (v_buildSlice rfl rfl (by decide) rfl) rfl rfl rfl ?_
    refine O_opX .turn rfl rfl rfl (v_appX rfl rfl rfl rfl rfl rfl rfl hl rfl rfl (by decide) (by show (i - 1 + 1) * 8 ≤ _ ∧ i - 1 + 1 ≤ _; omega) (by decide)) rfl rfl ?_
    rintro _ _ ⟨Y1, rfl, rfl, hY1, hY2, hY3⟩
    refine O_env (env' := uS9n24) rfl ?_
    refine O_op (env' := uS9n24) (c := .calm) rfl rfl rfl (v_move (.inr rfl) rfl) rfl rfl rfl ?_
    refine O_nil [] (by kernel_rfl) (trivial) ?_
    refine K_blk ?_
    refine K_seq ?_
    refine B_region ?_
    refine L_op (env' := uS9n24) rfl rfl (v_move (.inl rfl) rfl) rfl ?_
    refine L_op (env' := uS9n24) rfl rfl (v_addI rfl rfl rfl (by first | assumption | omega | (simp [*]; done) | (simp at *; omega))) rfl ?_
    refine L_op (env' := uS9n24) rfl rfl (v_move (.inr rfl) rfl) rfl ?_
    refine L_nil ?_
    refine K_loop [false,false,true,true,true,false,false,true,true,true,true,true,true,true,true,true,true,true,true,true,true,true,true,true] (env' := uS9n24) rfl ⟨⟨i + 1, _⟩, ?_, rfl, ?_⟩
    · first | omega | (simp only []; omega)
    · exact ⟨⟨by omega, .inl (by omega)⟩, _, rfl, by rw [gvT_succ hi1 (by omega), show i + 1 - 1 = i - 1 + 1 by omega]; exact LV.appW hY3⟩
  · try simp only [decide_eq_true_eq, decide_eq_false_iff_not, Bool.not_eq_true', Bool.not_eq_false', bne_iff_ne, beq_iff_eq, Bool.and_eq_true, Bool.or_eq_true, Bool.not_eq_true, ge_iff_le, gt_iff_lt, Int.not_le, Int.not_lt, beq_eq_false_iff_ne, bne_eq_false_iff_eq, ne_eq, Decidable.not_not, wd_zero, wd_one, wd_inj] at hc1
    refine B_exit ?_
    refine K_seqX ?_
    refine K_loopX ?_
    refine K_blkX ?_
    refine K_seq ?_
    refine B_seq ?_
    refine B_region ?_
    refine L_op (env' := uS9n24) rfl rfl (v_move (.inl rfl) rfl) rfl ?_
    refine L_op (env' := uS9n24) rfl rfl (v_move (.inr rfl) rfl) rfl ?_
    refine L_nil ?_
    refine K_seq ?_
    refine B_ret ?_
    refine E_gh (.inr rfl) (vres_tmp rfl rfl) (Gh.ansLV (BaseOk.refl _) hl (mapW_under _ _)) ?_
    have hE := gvT_all (rows := rows) (t := 1#64 <<< u) (i := i) (by omega)
    have hlen : (gvT rows (1#64 <<< u) i).length = i - 1 := by unfold gvT; rw [msk_len, List.length_drop, List.length_take]; omega
    refine ⟨?_, rfl⟩
    rw [← hE]
    show _ = VVal.fsl ((gvT rows (1#64 <<< u) i).map iW) (gvT rows (1#64 <<< u) i).length 1 false
    rw [hlen]

theorem full_row {w : BitVec 64} {l : List (BitVec 64)} : msk ((w :: l).drop 1) = msk l := rfl
theorem freeR {rows : List (BitVec 64)} {i u : Nat} (hu : u < 64) (hi : i < rows.length) : fullB (1#64 <<< u :: (rows.take i ++ rows.drop (i + 1))) 0#64 = fullB (rows.eraseIdx i) (1#64 <<< u) := by
  rw [Bool.eq_iff_iff, full0, fullB_iff, mat_cons, ← List.eraseIdx_eq_take_drop_succ]
  constructor
  · rintro ⟨v, h1, h2⟩
    rw [shl_bit, Bool.and_eq_true, decide_eq_true_eq] at h1
    rw [← h1.1]; exact h2
  · intro h; exact ⟨u, by rw [shl_bit]; simp [hu], h⟩
/-- the places that are free, up to u -/
def frT (rows : List (BitVec 64)) (i u : Nat) : BitVec 64 := wdP (fun v => (rows.getD i 0).getLsbD v && fullB (rows.eraseIdx i) (1#64 <<< v)) u
theorem frT_all {rows : List (BitVec 64)} {i : Nat} : frT rows i 64 = frW rows i := word_ext fun v hv => by
  unfold frT
  rw [wdP_bit hv, decide_eq_true hv, Bool.true_and, Bool.eq_iff_iff, Bool.and_eq_true, frW_bit, fullB_iff]
theorem refFull_12 {x : SW} (H : VHeap) (rows : List (BitVec 64)) (h : rows.length ≤ 12) : F (psys x) 31 [fzW rows] H fun v G => v = .bool (fullB rows 0#64) ∧ G = H := by
  have := refFull_spec (x := x) H rows (by omega)
  rw [decide_eq_true h, Bool.true_and] at this; exact this
theorem getD_tail {l : List (BitVec 64)} (h : 0 < l.length) : ∃ w m, l = w :: m := by
  cases l with
  | nil => simp at h
  | cons w m => exact ⟨w, m, rfl⟩

theorem refLeast_spec {x : SW} (H : VHeap) (rows : List (BitVec 64)) (h62 : rows.length ≤ 1000000) : F (psys x) 11 [fzW rows] H fun v G => v = leV rows ∧ G = H := by
  refine F_body Tryd.func11 rfl uS9n36 rfl ?_
  refine B_seq ?_
  refine B_region ?_
  refine L_op (env' := uS9n36) rfl rfl (v_const (VVal.slice none 0 0 true 0) (.inr rfl) rfl) rfl ?_
  refine L_op (env' := uS9n36) rfl rfl (v_const (VVal.bool false) (.inr rfl) rfl) rfl ?_
  refine L_nil ?_
  refine K_seq ?_
  refine B_seq ?_
  refine B_seq ?_
  refine B_region ?_
  refine L_op (env' := uS9n36) rfl rfl (v_move (.inl rfl) rfl) rfl ?_
  refine L_call rfl rfl rfl (by exact refFull_spec _ rows h62) ?_
  rintro _ _ ⟨rfl, rfl⟩
  refine L_env (env' := uS9n36) rfl ?_
  refine L_op (env' := uS9n36) rfl rfl (rfl) rfl ?_
  refine L_nil ?_
  refine K_seq ?_
  refine B_cond _ rfl (fun hc1 => ?_) (fun hc1 => ?_)
  · try simp only [decide_eq_true_eq, decide_eq_false_iff_not, Bool.not_eq_true', Bool.not_eq_false', bne_iff_ne, beq_iff_eq, Bool.and_eq_true, Bool.or_eq_true, Bool.not_eq_true, ge_iff_le, gt_iff_lt, Int.not_le, Int.not_lt, beq_eq_false_iff_ne, bne_eq_false_iff_eq, ne_eq, Decidable.not_not, wd_zero, wd_one, wd_inj] at hc1
    refine B_seq ?_
    refine B_region ?_
    refine L_op (env' := uS9n36) rfl rfl (v_const (VVal.slice none 0 0 true 0) (.inr rfl) rfl) rfl ?_
    refine L_op (env' := uS9n36) rfl rfl (v_const (VVal.bool false) (.inr rfl) rfl) rfl ?_
    refine L_nil ?_
    refine K_seq ?_
    refine B_gh (Gh.freezeNil 2 (es' := 1) rfl rfl) ?_
    refine B_ret ?_
    refine K_seqR ?_
    refine E_app (.inr rfl) (vres_tmp2 rfl rfl rfl) (by first | exact BaseOk.refl _ | exact BaseOk.set (BaseOk.refl _) _ rfl) (by first | rfl | simp [VVal.under, VVal.underL, mapN_under, *]) ?_
    first
      | exact ⟨by rw [leV, if_neg (fun e => by rw [decide_eq_true e.1, e.2] at hc1; cases hc1)]; rfl, rfl⟩
      | (obtain rfl : r = [] := List.eq_nil_of_length_eq_zero (by omega)); exact ⟨by rw [leV, if_pos hc1, hlst]; simp [lst], rfl⟩
  · try simp only [decide_eq_true_eq, decide_eq_false_iff_not, Bool.not_eq_true', Bool.not_eq_false', bne_iff_ne, beq_iff_eq, Bool.and_eq_true, Bool.or_eq_true, Bool.not_eq_true, ge_iff_le, gt_iff_lt, Int.not_le, Int.not_lt, beq_eq_false_iff_ne, bne_eq_false_iff_eq, ne_eq, Decidable.not_not, wd_zero, wd_one, wd_inj] at hc1
    refine B_skip ?_
    refine K_seq ?_
    refine B_seq ?_
    refine B_region ?_
    refine L_op (env' := uS9n36) rfl rfl (v_const (VVal.slice none 0 0 true 0) (.inr rfl) rfl) rfl ?_
    refine L_nil ?_
    refine K_seq ?_
    refine B_seq ?_
    refine B_block ?_
    refine B_clear [false,true,true,true,false,true,true,true,true,true,true,true,true,true,true,true,true,true,true,true,true,true,true,true,true,true,true,true,true,true,true,true,true,true,true,true] (env' := uS9n36) rfl ?_
    refine B_loopE (fun (⟨r, ds, lv⟩ : List (BitVec 64) × List Nat × VVal) => r.length) (fun (⟨r, ds, lv⟩ : List (BitVec 64) × List Nat × VVal) => [(0, fzW r), (4, lv)]) (fun (⟨r, ds, lv⟩ : List (BitVec 64) × List Nat × VVal) G => (fullB r 0#64 = true ∧ r.length ≤ 12 ∧ ds.length + r.length = rows.length ∧ lst rows 0#64 = ds ++ lst r 0#64) ∧ ∃ X, G = H ++ X ∧ LV H.length 1 X lv (ds.map iN) ds.length) ⟨rows, [], _⟩ rfl ?_ ?_
    · refine ⟨?_, ⟨_, rfl, LV.nil _ _ _⟩⟩
      exact ⟨hc1.2, hc1.1, by simp, by simp⟩
    rintro ⟨r, ds, lv⟩ _ ⟨⟨hfr, hr12, hdl, hlst⟩, ⟨X, rfl, hl⟩⟩
    refine B_env (env' := uS9n36) rfl ?_
    refine B_seq ?_
    refine B_seq ?_
    refine B_region ?_
    refine L_op (env' := uS9n36) rfl rfl (v_move (.inl rfl) rfl) rfl ?_
    refine L_op (env' := uS9n36) rfl rfl (rfl) rfl ?_
    refine L_op (env' := uS9n36) rfl rfl (rfl) rfl ?_
    refine L_nil ?_
    refine K_seq ?_
    refine B_cond _ rfl (fun hc2 => ?_) (fun hc2 => ?_)
    · try simp only [decide_eq_true_eq, decide_eq_false_iff_not, Bool.not_eq_true', Bool.not_eq_false', bne_iff_ne, beq_iff_eq, Bool.and_eq_true, Bool.or_eq_true, Bool.not_eq_true, ge_iff_le, gt_iff_lt, Int.not_le, Int.not_lt, beq_eq_false_iff_ne, bne_eq_false_iff_eq, ne_eq, Decidable.not_not, wd_zero, wd_one, wd_inj] at hc2
      refine B_skip ?_
      refine K_seq ?_
      refine B_block ?_
      refine B_seq ?_
      obtain ⟨w, m, rfl⟩ := getD_tail (l := r) (by omega)
      obtain ⟨u0, hu0, hw0, hf0⟩ := first_ex hfr
      refine B_region ?_
      refine L_op (env' := uS9n36) rfl rfl (v_const (VVal.int .i64 0) (.inr rfl) rfl) rfl ?_
      refine L_nil ?_
      refine K_seq ?_
      refine B_seq ?_
      refine B_block ?_
      refine B_clear [false,true,true,true,false,false,true,true,true,true,true,true,true,true,true,true,true,true,true,true,true,true,true,true,true,true,true,true,true,true,true,true,true,true,true,true] (env' := uS9n36) rfl ?_
      refine B_loopE (fun (u : Nat) => 64 - u) (fun (u : Nat) => [(5, iI (u : Nat))]) (fun (u : Nat) G => (u ≤ u0 ∧ ∀ v, v < u → w.getLsbD v = true → fullB (msk m (1#64 <<< v)) 0#64 = false) ∧ G = H ++ X) 0 rfl ?_ ?_
      · refine ⟨?_, rfl⟩
        exact ⟨Nat.zero_le _, fun v h => by omega⟩
      rintro u _ ⟨⟨hu, hno⟩, rfl⟩
      refine B_env (env' := uS9n36) rfl ?_
      refine B_seq ?_
      refine B_seq ?_
      refine B_region ?_
      refine L_op (env' := uS9n36) rfl rfl (v_move (.inl rfl) rfl) rfl ?_
      refine L_op (env' := uS9n36) rfl rfl (by first | exact v_idxF rfl rfl rfl rfl rfl rfl rfl (by first | assumption | omega | (simp [*]; done) | (simp at *; omega)) | exact v_idx rfl rfl rfl rfl rfl rfl rfl (by first | assumption | omega | (simp [*]; done) | (simp at *; omega))) rfl ?_
      refine L_op (env' := uS9n36) rfl rfl (by first | exact v_loadF rfl rfl rfl rfl (by first | exact fget (α := BitVec 64) (n := 0) 0 (by omega) | rfl) | exact v_load rfl rfl rfl rfl (by first | exact get_app rfl rfl | exact get_out (by assumption) | assumption | (simp [*]; done)) (by first | exact fget (α := BitVec 64) (n := 0) 0 (by omega) | rfl)) rfl ?_
      refine L_op (env' := uS9n36) rfl rfl (v_move (.inl rfl) rfl) rfl ?_
      refine L_op (env' := uS9n36) rfl rfl (v_shrW rfl rfl rfl (by first | assumption | omega | (simp [*]; done) | (simp at *; omega))) rfl ?_
      refine L_op (env' := uS9n36) rfl rfl (v_andW (b := 1#64) rfl rfl rfl) rfl ?_
      refine L_op (env' := uS9n36) rfl rfl (rfl) rfl ?_
      refine L_op (env' := uS9n36) rfl rfl (v_move (.inl rfl) rfl) rfl ?_
      refine L_split 19 (env1 := uS9n36) (env2 := uS9n36) rfl rfl rfl (fun hg3 => ?_) (fun hg3 => ?_)
      · try simp only [decide_eq_true_eq, decide_eq_false_iff_not, Bool.not_eq_true', Bool.not_eq_false', bne_iff_ne, beq_iff_eq, Bool.and_eq_true, Bool.or_eq_true, Bool.not_eq_true, ge_iff_le, gt_iff_lt, Int.not_le, Int.not_lt, beq_eq_false_iff_ne, bne_eq_false_iff_eq, ne_eq, Decidable.not_not, wd_zero, wd_one, wd_inj] at hg3
        refine L_off (env' := uS9n36) rfl rfl ?_
        refine L_off (env' := uS9n36) rfl rfl ?_
        refine L_off (env' := uS9n36) rfl rfl ?_
        refine L_off (env' := uS9n36) rfl rfl ?_
        refine L_off (env' := uS9n36) rfl rfl ?_
        refine L_op (env' := uS9n36) rfl rfl (v_pickTC (VVal.bool true) rfl rfl rfl) rfl ?_
        refine L_nil ?_
        refine K_seq ?_
        refine B_true rfl rfl ?_
        refine B_skip ?_
        refine K_seq ?_
        refine B_block ?_
        refine B_region ?_
        refine L_op (env' := uS9n36) rfl rfl (v_move (.inl rfl) rfl) rfl ?_
        refine L_op (env' := uS9n36) rfl rfl (v_addI rfl rfl rfl (by first | assumption | omega | (simp [*]; done) | (simp at *; omega))) rfl ?_
        refine L_op (env' := uS9n36) rfl rfl (v_move (.inr rfl) rfl) rfl ?_
        refine L_nil ?_
        refine K_blk ?_
        refine K_loop [false,true,true,true,false,false,true,true,true,true,true,true,true,true,true,true,true,true,true,true,true,true,true,true,true,true,true,true,true,true,true,true,true,true,true,true] (env' := uS9n36) rfl ⟨u + 1, ?_, rfl, ?_⟩
        · first | omega | (simp only []; omega)
        · first | exact ⟨⟨Nat.lt_of_le_of_ne hu (fun e => by subst e; rw [sh0.1 (by assumption)] at hw0; cases hw0), fun v hv hb => by by_cases e : v = u; (subst e; rw [sh0.1 (by assumption)] at hb; cases hb); exact hno v (by omega) hb⟩, rfl⟩ | exact ⟨⟨Nat.lt_of_le_of_ne hu (fun e => by subst e; exact absurd hf0 (not_of_f (by assumption))), fun v hv hb => by by_cases e : v = u; (subst e; assumption); exact hno v (by omega) hb⟩, rfl⟩
      · try simp only [decide_eq_true_eq, decide_eq_false_iff_not, Bool.not_eq_true', Bool.not_eq_false', bne_iff_ne, beq_iff_eq, Bool.and_eq_true, Bool.or_eq_true, Bool.not_eq_true, ge_iff_le, gt_iff_lt, Int.not_le, Int.not_lt, beq_eq_false_iff_ne, bne_eq_false_iff_eq, ne_eq, Decidable.not_not, wd_zero, wd_one, wd_inj] at hg3
        refine L_op (env' := uS9n36) rfl rfl (v_move (.inl rfl) rfl) rfl ?_
        refine L_op (env' := uS9n36) rfl rfl (v_move (.inl rfl) rfl) rfl ?_
        refine L_call rfl rfl rfl (by exact given_spec _ (w :: m) u (Nat.le_trans (show (w :: m).length ≤ 12 from hr12) (by decide))) ?_
        rintro _ _ ⟨rfl, rfl⟩
        refine L_env (env' := uS9n36) rfl ?_
        refine L_call rfl rfl rfl (by exact refFull_12 _ (msk m (1#64 <<< u)) (by rw [msk_len]; simp only [List.length_cons] at hr12; omega)) ?_
        rintro _ _ ⟨rfl, rfl⟩
        refine L_env (env' := uS9n36) rfl ?_
        refine L_op (env' := uS9n36) rfl rfl (rfl) rfl ?_
        refine L_op (env' := uS9n36) rfl rfl (v_pickF rfl rfl rfl) rfl ?_
        refine L_nil ?_
        refine K_seq ?_
        refine B_cond _ rfl (fun hc4 => ?_) (fun hc4 => ?_)
        · try simp only [decide_eq_true_eq, decide_eq_false_iff_not, Bool.not_eq_true', Bool.not_eq_false', bne_iff_ne, beq_iff_eq, Bool.and_eq_true, Bool.or_eq_true, Bool.not_eq_true, ge_iff_le, gt_iff_lt, Int.not_le, Int.not_lt, beq_eq_false_iff_ne, bne_eq_false_iff_eq, ne_eq, Decidable.not_not, wd_zero, wd_one, wd_inj] at hc4
          refine B_skip ?_
          refine K_seq ?_
          refine B_block ?_
          refine B_region ?_
          refine L_op (env' := uS9n36) rfl rfl (v_move (.inl rfl) rfl) rfl ?_
          refine L_op (env' := uS9n36) rfl rfl (v_addI rfl rfl rfl (by first | assumption | omega | (simp [*]; done) | (simp at *; omega))) rfl ?_
          refine L_op (env' := uS9n36) rfl rfl (v_move (.inr rfl) rfl) rfl ?_
          refine L_nil ?_
          refine K_blk ?_
          refine K_loop [false,true,true,true,false,false,true,true,true,true,true,true,true,true,true,true,true,true,true,true,true,true,true,true,true,true,true,true,true,true,true,true,true,true,true,true] (env' := uS9n36) rfl ⟨u + 1, ?_, rfl, ?_⟩
          · first | omega | (simp only []; omega)
          · first | exact ⟨⟨Nat.lt_of_le_of_ne hu (fun e => by subst e; rw [sh0.1 (by assumption)] at hw0; cases hw0), fun v hv hb => by by_cases e : v = u; (subst e; rw [sh0.1 (by assumption)] at hb; cases hb); exact hno v (by omega) hb⟩, rfl⟩ | exact ⟨⟨Nat.lt_of_le_of_ne hu (fun e => by subst e; exact absurd hf0 (not_of_f (by assumption))), fun v hv hb => by by_cases e : v = u; (subst e; assumption); exact hno v (by omega) hb⟩, rfl⟩
        · try simp only [decide_eq_true_eq, decide_eq_false_iff_not, Bool.not_eq_true', Bool.not_eq_false', bne_iff_ne, beq_iff_eq, Bool.and_eq_true, Bool.or_eq_true, Bool.not_eq_true, ge_iff_le, gt_iff_lt, Int.not_le, Int.not_lt, beq_eq_false_iff_ne, bne_eq_false_iff_eq, ne_eq, Decidable.not_not, wd_zero, wd_one, wd_inj] at hc4
          refine B_exit ?_
          refine K_seqX ?_
          refine K_loopX ?_
          refine K_blkX ?_
          refine K_seq ?_
          refine B_seq ?_
          have hbit : w.getLsbD u = true := sh_not0 (by assumption)
          have hfu : fullB (msk m (1#64 <<< u)) 0#64 = true := by assumption
          simp only [List.length_cons] at hr12 hdl
          refine B_region ?_
          refine L_op (env' := uS9n36) rfl rfl (v_move (.inl rfl) rfl) rfl ?_
          refine L_op (env' := uS9n36) rfl rfl (v_move (.inl rfl) rfl) rfl ?_
          refine L_op (env' := uS9n36) rfl rfl (v_buildSlice rfl rfl (by decide) rfl) rfl ?_
          refine L_opX rfl rfl (v_appX rfl rfl rfl rfl rfl rfl rfl hl rfl rfl (by decide) (by show (ds.length + 1) * 8 ≤ _ ∧ ds.length + 1 ≤ _; omega) (by decide)) ?_
          rintro _ _ ⟨Y1, rfl, rfl, hY1, hY2, hY3⟩
          refine L_env (env' := uS9n36) rfl ?_
          refine L_op (env' := uS9n36) rfl rfl (v_move (.inr rfl) rfl) rfl ?_
          refine L_nil ?_
          refine K_seq ?_
          refine B_region ?_
          refine L_op (env' := uS9n36) rfl rfl (v_move (.inl rfl) rfl) rfl ?_
          refine L_op (env' := uS9n36) rfl rfl (v_move (.inl rfl) rfl) rfl ?_
          refine L_call rfl rfl rfl (by exact given_spec _ (w :: m) u (Nat.le_trans (show (w :: m).length ≤ 12 from hr12) (by decide))) ?_
          rintro _ _ ⟨rfl, rfl⟩
          refine L_env (env' := uS9n36) rfl ?_
          refine L_op (env' := uS9n36) rfl rfl (v_move (.inr rfl) rfl) rfl ?_
          refine L_nil ?_
          refine K_blk ?_
          refine K_loop [false,true,true,true,false,true,true,true,true,true,true,true,true,true,true,true,true,true,true,true,true,true,true,true,true,true,true,true,true,true,true,true,true,true,true,true] (env' := uS9n36) rfl ⟨⟨msk m (1#64 <<< u), ds ++ [u], _⟩, ?_, rfl, ?_⟩
          · show (msk m (1#64 <<< u)).length < (w :: m).length; rw [msk_len]; simp
          · exact ⟨⟨hfu, by rw [msk_len]; omega, by rw [List.length_append, msk_len]; show ds.length + 1 + m.length = _; omega, hlst.trans ((congrArg (ds ++ ·) (lst_first (by omega) hbit hfu hno)).trans (by simp))⟩, _, rfl, by rw [List.length_append]; exact LV.appN hY3⟩
    · try simp only [decide_eq_true_eq, decide_eq_false_iff_not, Bool.not_eq_true', Bool.not_eq_false', bne_iff_ne, beq_iff_eq, Bool.and_eq_true, Bool.or_eq_true, Bool.not_eq_true, ge_iff_le, gt_iff_lt, Int.not_le, Int.not_lt, beq_eq_false_iff_ne, bne_eq_false_iff_eq, ne_eq, Decidable.not_not, wd_zero, wd_one, wd_inj] at hc2
      refine B_exit ?_
      refine K_seqX ?_
      refine K_loopX ?_
      refine K_blkX ?_
      refine K_seq ?_
      refine B_seq ?_
      refine B_region ?_
      refine L_op (env' := uS9n36) rfl rfl (v_move (.inl rfl) rfl) rfl ?_
      refine L_op (env' := uS9n36) rfl rfl (v_move (.inr rfl) rfl) rfl ?_
      refine L_op (env' := uS9n36) rfl rfl (v_const (VVal.bool true) (.inr rfl) rfl) rfl ?_
      refine L_nil ?_
      refine K_seq ?_
      refine B_ghLV (env' := uS9n36) 2 hl rfl rfl fun X2 _ _ => ?_
      refine B_ret ?_
      refine E_app (.inr rfl) (vres_tmp2 rfl rfl rfl) (by first | exact BaseOk.refl _ | exact BaseOk.set (BaseOk.refl _) _ rfl) (by first | rfl | simp [VVal.under, VVal.underL, mapN_under, *]) ?_
      first
        | exact ⟨by rw [leV, if_neg (fun e => by rw [decide_eq_true e.1, e.2] at hc1; cases hc1)]; rfl, rfl⟩
        | (obtain rfl : r = [] := List.eq_nil_of_length_eq_zero (by omega)); exact ⟨by rw [leV, if_pos hc1, hlst]; simp [lst], rfl⟩
end Go.Proofs.YtpekleeidllllaaDoor.VT
