/- the reference's Size, Full: walks -/
import Derived.Test.YtpekleeidllllaaDoorS7
set_option autoImplicit false
set_option linter.unusedVariables false
set_option linter.unusedSimpArgs false
set_option maxHeartbeats 4000000
set_option maxRecDepth 100000
namespace Go.Proofs.YtpekleeidllllaaDoor.VT
open Go Go.V Go.RowKit

abbrev uS8n13 {a0 a1 a2 a3 a4 a5 a6 a7 a8 a9 a10 a11 a12 : VVal} : VEnv := a0 :: a1 :: a2 :: a3 :: a4 :: a5 :: a6 :: a7 :: a8 :: a9 :: a10 :: a11 :: a12 :: []
abbrev uS8n36 {a0 a1 a2 a3 a4 a5 a6 a7 a8 a9 a10 a11 a12 a13 a14 a15 a16 a17 a18 a19 a20 a21 a22 a23 a24 a25 a26 a27 a28 a29 a30 a31 a32 a33 a34 a35 : VVal} : VEnv := a0 :: a1 :: a2 :: a3 :: a4 :: a5 :: a6 :: a7 :: a8 :: a9 :: a10 :: a11 :: a12 :: a13 :: a14 :: a15 :: a16 :: a17 :: a18 :: a19 :: a20 :: a21 :: a22 :: a23 :: a24 :: a25 :: a26 :: a27 :: a28 :: a29 :: a30 :: a31 :: a32 :: a33 :: a34 :: a35 :: []

theorem turn_spec {x : SW} (p q : Nat) (ex : Bool) (rows : List (BitVec 64)) (hpq : p ≠ q) (h62 : rows.length ≤ 1000000) : ∀ (n : Nat) (H : VHeap) (i : Nat) (has : List Int) (S : BitVec 64), H[p]? = some (haB has) → H[q]? = some (seB S) → i < rows.length → has.length = rows.length → 64 - come 64 S < n → F (psys x) 34 [fzW rows, .slice (some (p, 0)) rows.length rows.length ex 1, .ptr (some (q, 0)), iI (i : Nat)] H fun v G => v = .bool (trn rows n i (has, S)).1 ∧ G = trH H p q (trn rows n i (has, S)).2
  | 0, _, _, _, _, _, _, _, _, h => absurd h (by omega)
  | n + 1, H, i, has, S, hp, hq, hi, hl, hm => turn_s p q n ex rows hpq h62 (fun H i has S a b c d e => turn_spec p q ex rows hpq h62 n H i has S a b c d e) H i has S hp hq hi hl hm
theorem turn_at {x : SW} (H : VHeap) (ex : Bool) (rows : List (BitVec 64)) (has : List Int) (i : Nat) (hi : i < rows.length) (hl : has.length = rows.length) (h62 : rows.length ≤ 1000000) : F (psys x) 34 [fzW rows, .slice (some (H.length + 0, 0)) rows.length rows.length ex 1, .ptr (some (H.length + 1, 0)), iI (i : Nat)] (H ++ [haB has, seB 0#64]) fun v G => v = .bool (trn rows 65 i (has, 0#64)).1 ∧ G = H ++ [haB (trn rows 65 i (has, 0#64)).2.1, seB (trn rows 65 i (has, 0#64)).2.2] := by
  have := turn_spec (x := x) (H.length + 0) (H.length + 1) ex rows (by omega) h62 65 (H ++ [haB has, seB 0#64]) i has 0#64 (get_app rfl rfl) (get_app rfl rfl) hi hl (by rw [come_0]; omega)
  unfold trH at this
  rw [set_app rfl, set_app rfl] at this
  exact this
theorem haB_under {n : Nat} {has : List Int} : (haB has).under n = true := mapI_under _ _
theorem rep_cells : ∀ {n : Nat}, repeatCells [VVal.int .i64 0] n = (List.replicate n (0 : Int)).map iI
  | 0 => rfl
  | n + 1 => by rw [repeatCells, rep_cells, List.replicate_succ]; rfl
/-- places as they are laid -/
def iniT (n k : Nat) : List Int := List.replicate k (-1) ++ List.replicate (n - k) 0
theorem iniT_len {n k : Nat} (h : k ≤ n) : (iniT n k).length = n := by unfold iniT; simp; omega
theorem iniT_set {n k : Nat} (h : k < n) : (iniT n k).set k (-1) = iniT n (k + 1) := by
  unfold iniT
  rw [List.set_append_right _ _ (by simp), List.length_replicate, Nat.sub_self, show n - k = (n - (k + 1)) + 1 by omega, List.replicate_succ, List.set_cons_zero, List.replicate_succ', List.append_assoc]; rfl
theorem iniT_all {n : Nat} : iniT n n = List.replicate n (-1) := by unfold iniT; simp
theorem rsz_len {rows : List (BitVec 64)} {k : Nat} (h : k ≤ rows.length) : (rsz rows k).1.length = rows.length := (rsz_cor h).1.hl
theorem rsz_le {rows : List (BitVec 64)} {k : Nat} (h : k ≤ rows.length) : (rsz rows k).2 ≤ k := by rw [(rsz_cor h).2.1]; exact szO_le
theorem full_sz {rows : List (BitVec 64)} : fullB rows 0#64 = (szN rows == rows.length) := by unfold fullB; rw [msk_0]

theorem refSize_spec {x : SW} (H : VHeap) (rows : List (BitVec 64)) (h62 : rows.length ≤ 1000000) : F (psys x) 14 [fzW rows] H fun v G => v = iI (szV rows) ∧ G = H := by
  refine F_body Tryd.func14 rfl uS8n36 rfl ?_
  refine B_seq ?_
  refine B_region ?_
  refine L_op (env' := uS8n36) rfl rfl (v_const (VVal.int .i64 0) (.inr rfl) rfl) rfl ?_
  refine L_nil ?_
  refine K_seq ?_
  refine B_seq ?_
  refine B_seq ?_
  refine B_region ?_
  refine L_op (env' := uS8n36) rfl rfl (v_move (.inl rfl) rfl) rfl ?_
  refine L_op (env' := uS8n36) rfl rfl (rfl) rfl ?_
  refine L_op (env' := uS8n36) rfl rfl (rfl) rfl ?_
  refine L_nil ?_
  refine K_seq ?_
  refine B_cond _ rfl (fun hc1 => ?_) (fun hc1 => ?_)
  · try simp only [decide_eq_true_eq, decide_eq_false_iff_not, Bool.not_eq_true', Bool.not_eq_false', bne_iff_ne, beq_iff_eq, Bool.and_eq_true, Bool.or_eq_true, Bool.not_eq_true, ge_iff_le, gt_iff_lt, Int.not_le, Int.not_lt, beq_eq_false_iff_ne, bne_eq_false_iff_eq, ne_eq, Decidable.not_not, wd_zero, wd_one, wd_inj] at hc1
    refine B_seq ?_
    refine B_region ?_
    refine L_op (env' := uS8n36) rfl rfl (v_const (VVal.int .i64 0) (.inr rfl) rfl) rfl ?_
    refine L_nil ?_
    refine K_seq ?_
    refine B_ret ?_
    refine K_seqR ?_
    refine E_app (.inr rfl) (vres_tmp rfl rfl) (by first | exact BaseOk.refl _ | exact BaseOk.set (BaseOk.refl _) _ rfl) (by first | rfl | simp [VVal.under, VVal.underL, fzW_under, *]) ?_
    first
      | exact ⟨by rw [szV, if_neg (by omega)], rfl⟩
      | (obtain rfl : k = rows.length := by omega); exact ⟨by rw [szV, if_pos (by omega), rsz_all], rfl⟩
  · try simp only [decide_eq_true_eq, decide_eq_false_iff_not, Bool.not_eq_true', Bool.not_eq_false', bne_iff_ne, beq_iff_eq, Bool.and_eq_true, Bool.or_eq_true, Bool.not_eq_true, ge_iff_le, gt_iff_lt, Int.not_le, Int.not_lt, beq_eq_false_iff_ne, bne_eq_false_iff_eq, ne_eq, Decidable.not_not, wd_zero, wd_one, wd_inj] at hc1
    refine B_skip ?_
    refine K_seq ?_
    refine B_seq ?_
    refine B_region ?_
    refine L_op (env' := uS8n36) rfl rfl (v_move (.inl rfl) rfl) rfl ?_
    refine L_op (env' := uS8n36) rfl rfl (rfl) rfl ?_
    refine L_op (env' := uS8n36) rfl rfl (v_makeSlice rfl rfl rfl rfl rfl (by decide) ⟨by omega, Int.le_refl _, by show (rows.length : Int) * (8 : Nat) ≤ _; omega, by omega⟩) rfl ?_
    refine L_op (env' := uS8n36) rfl rfl (v_move (.inr rfl) rfl) rfl ?_
    refine L_nil ?_
    refine K_seq ?_
    refine B_seq ?_
    refine B_seq ?_
    refine B_region ?_
    refine L_op (env' := uS8n36) rfl rfl (v_const (VVal.int .i64 0) (.inr rfl) rfl) rfl ?_
    refine L_nil ?_
    refine K_seq ?_
    refine B_block ?_
    refine B_clear [false,true,true,false,false,true,true,true,true,true,true,true,true,true,true,true,true,true,true,true,true,true,true,true,true,true,true,true,true,true,true,true,true,true,true,true] (env' := uS8n36) rfl ?_
    refine B_loopE (fun (k : Nat) => rows.length - k) (fun (k : Nat) => [(4, iI (k : Nat))]) (fun (k : Nat) G => (k ≤ rows.length) ∧ G = H ++ [haB (iniT rows.length k)]) 0 rfl ?_ ?_
    · refine ⟨?_, (by show _ ++ [VBlk.cells (repeatCells [VVal.int .i64 0] _) true] = _; rw [rep_cells]; rfl)⟩
      exact Nat.zero_le _
    rintro k _ ⟨hk, rfl⟩
    refine B_env (env' := uS8n36) rfl ?_
    refine B_seq ?_
    refine B_seq ?_
    refine B_region ?_
    refine L_op (env' := uS8n36) rfl rfl (v_move (.inl rfl) rfl) rfl ?_
    refine L_op (env' := uS8n36) rfl rfl (v_move (.inl rfl) rfl) rfl ?_
    refine L_op (env' := uS8n36) rfl rfl (rfl) rfl ?_
    refine L_op (env' := uS8n36) rfl rfl (rfl) rfl ?_
    refine L_nil ?_
    refine K_seq ?_
    refine B_cond _ rfl (fun hc2 => ?_) (fun hc2 => ?_)
    · try simp only [decide_eq_true_eq, decide_eq_false_iff_not, Bool.not_eq_true', Bool.not_eq_false', bne_iff_ne, beq_iff_eq, Bool.and_eq_true, Bool.or_eq_true, Bool.not_eq_true, ge_iff_le, gt_iff_lt, Int.not_le, Int.not_lt, beq_eq_false_iff_ne, bne_eq_false_iff_eq, ne_eq, Decidable.not_not, wd_zero, wd_one, wd_inj] at hc2
      refine B_skip ?_
      refine K_seq ?_
      refine B_seq ?_
      refine B_block ?_
      refine B_region ?_
      refine L_op (env' := uS8n36) rfl rfl (v_move (.inl rfl) rfl) rfl ?_
      refine L_op (env' := uS8n36) rfl rfl (v_move (.inl rfl) rfl) rfl ?_
      refine L_op (env' := uS8n36) rfl rfl (by first | exact v_idxF rfl rfl rfl rfl rfl rfl rfl (by first | assumption | omega | (simp [*]; done) | (simp at *; omega)) | exact v_idx rfl rfl rfl rfl rfl rfl rfl (by first | assumption | omega | (simp [*]; done) | (simp at *; omega))) rfl ?_
      refine L_op (env' := uS8n36) rfl rfl (v_storeC (VVal.int .i64 (-1)) rfl rfl rfl rfl rfl rfl rfl (by first | exact get_app rfl rfl | exact get_out (by assumption) | assumption | (simp [*]; done)) (by first | exact has_len (s := (iniT rows.length k, 0#64)) (by rw [iniT_len (by omega)]; omega)) (by exact (set_app rfl).trans (congrArg (fun c => H ++ [VBlk.cells c true]) (splice_i (l := iniT rows.length k) (k := k) (r := -1) (by rw [iniT_len hk]; omega))))) rfl ?_
      refine L_nil ?_
      refine K_blk ?_
      refine K_seq ?_
      refine B_region ?_
      refine L_op (env' := uS8n36) rfl rfl (v_move (.inl rfl) rfl) rfl ?_
      refine L_op (env' := uS8n36) rfl rfl (v_addI rfl rfl rfl (by first | assumption | omega | (simp [*]; done) | (simp at *; omega))) rfl ?_
      refine L_op (env' := uS8n36) rfl rfl (v_move (.inr rfl) rfl) rfl ?_
      refine L_nil ?_
      have hE : (iniT rows.length k).set (k : Int).toNat (-1) = iniT rows.length (k + 1) := iniT_set (by omega)
      refine K_loop [false,true,true,false,false,true,true,true,true,true,true,true,true,true,true,true,true,true,true,true,true,true,true,true,true,true,true,true,true,true,true,true,true,true,true,true] (env' := uS8n36) rfl ⟨k + 1, ?_, rfl, ?_⟩
      · first | omega | (simp only []; omega)
      · exact ⟨by omega, by rw [← hE]; rfl⟩
    · try simp only [decide_eq_true_eq, decide_eq_false_iff_not, Bool.not_eq_true', Bool.not_eq_false', bne_iff_ne, beq_iff_eq, Bool.and_eq_true, Bool.or_eq_true, Bool.not_eq_true, ge_iff_le, gt_iff_lt, Int.not_le, Int.not_lt, beq_eq_false_iff_ne, bne_eq_false_iff_eq, ne_eq, Decidable.not_not, wd_zero, wd_one, wd_inj] at hc2
      refine B_exit ?_
      refine K_seqX ?_
      refine K_loopX ?_
      refine K_blkX ?_
      refine K_seq ?_
      refine B_seq ?_
      refine B_region ?_
      refine L_op (env' := uS8n36) rfl rfl (v_const (VVal.int .i64 0) (.inr rfl) rfl) rfl ?_
      refine L_nil ?_
      refine K_seq ?_
      refine B_seq ?_
      refine B_seq ?_
      refine B_region ?_
      refine L_op (env' := uS8n36) rfl rfl (v_const (VVal.int .i64 0) (.inr rfl) rfl) rfl ?_
      refine L_nil ?_
      refine K_seq ?_
      refine B_block ?_
      refine B_clear [false,true,true,false,true,false,false,true,true,true,true,true,true,true,true,true,true,true,true,true,true,true,true,true,true,true,true,true,true,true,true,true,true,true,true,true] (env' := uS8n36) rfl ?_
      refine B_loopE (fun (k : Nat) => rows.length - k) (fun (k : Nat) => [(5, iI ((rsz rows k).2 : Nat)), (6, iI (k : Nat))]) (fun (k : Nat) G => (k ≤ rows.length) ∧ G = H ++ [haB (rsz rows k).1]) 0 rfl ?_ ?_
      · refine ⟨?_, (by rw [show k = rows.length by omega, iniT_all]; rfl)⟩
        exact Nat.zero_le _
      rintro k _ ⟨hk, rfl⟩
      refine B_env (env' := uS8n36) rfl ?_
      refine B_seq ?_
      refine B_seq ?_
      refine B_region ?_
      refine L_op (env' := uS8n36) rfl rfl (v_move (.inl rfl) rfl) rfl ?_
      refine L_op (env' := uS8n36) rfl rfl (v_move (.inl rfl) rfl) rfl ?_
      refine L_op (env' := uS8n36) rfl rfl (rfl) rfl ?_
      refine L_op (env' := uS8n36) rfl rfl (rfl) rfl ?_
      refine L_nil ?_
      refine K_seq ?_
      refine B_cond _ rfl (fun hc3 => ?_) (fun hc3 => ?_)
      · try simp only [decide_eq_true_eq, decide_eq_false_iff_not, Bool.not_eq_true', Bool.not_eq_false', bne_iff_ne, beq_iff_eq, Bool.and_eq_true, Bool.or_eq_true, Bool.not_eq_true, ge_iff_le, gt_iff_lt, Int.not_le, Int.not_lt, beq_eq_false_iff_ne, bne_eq_false_iff_eq, ne_eq, Decidable.not_not, wd_zero, wd_one, wd_inj] at hc3
        refine B_skip ?_
        refine K_seq ?_
        refine B_seq ?_
        refine B_block ?_
        refine B_seq ?_
        refine B_region ?_
        refine L_op (env' := uS8n36) rfl rfl (v_alloc rfl rfl) rfl ?_
        refine L_op (env' := uS8n36) rfl rfl (v_storeC (VVal.int .u64 0) rfl rfl rfl rfl rfl rfl rfl (by first | exact get_app rfl rfl | exact get_out (by assumption) | assumption | (simp [*]; done)) (by first | exact Nat.le_of_ble_eq_true rfl | (simp only [List.length_map, List.length_cons, List.length_nil]; omega) | omega | (simp; done) | (simp; omega)) (by first | exact set_app rfl | exact set_out (lt_of_get (by assumption)) | rfl)) rfl ?_
        refine L_nil ?_
        refine K_seq ?_
        refine B_seq ?_
        refine B_region ?_
        refine L_op (env' := uS8n36) rfl rfl (v_move (.inl rfl) rfl) rfl ?_
        refine L_op (env' := uS8n36) rfl rfl (v_move (.inl rfl) rfl) rfl ?_
        refine L_op (env' := uS8n36) rfl rfl (v_move (.inl rfl) rfl) rfl ?_
        refine L_call rfl rfl rfl (by exact turn_at H _ rows (rsz rows k).1 k (by omega) (rsz_len (by omega)) h62) ?_
        rintro _ _ ⟨rfl, rfl⟩
        refine L_env (env' := uS8n36) rfl ?_
        refine L_nil ?_
        refine K_seq ?_
        refine B_cond _ rfl (fun hc4 => ?_) (fun hc4 => ?_)
        · try simp only [decide_eq_true_eq, decide_eq_false_iff_not, Bool.not_eq_true', Bool.not_eq_false', bne_iff_ne, beq_iff_eq, Bool.and_eq_true, Bool.or_eq_true, Bool.not_eq_true, ge_iff_le, gt_iff_lt, Int.not_le, Int.not_lt, beq_eq_false_iff_ne, bne_eq_false_iff_eq, ne_eq, Decidable.not_not, wd_zero, wd_one, wd_inj] at hc4
          refine B_region ?_
          refine L_op (env' := uS8n36) rfl rfl (v_move (.inl rfl) rfl) rfl ?_
          refine L_op (env' := uS8n36) rfl rfl (v_addI rfl rfl rfl (by have := rsz_le (rows := rows) (k := k) (by omega); omega)) rfl ?_
          refine L_op (env' := uS8n36) rfl rfl (v_move (.inr rfl) rfl) rfl ?_
          refine L_nil ?_
          refine K_blk ?_
          refine K_seq ?_
          refine B_region ?_
          refine L_op (env' := uS8n36) rfl rfl (v_move (.inl rfl) rfl) rfl ?_
          refine L_op (env' := uS8n36) rfl rfl (v_addI rfl rfl rfl (by first | assumption | omega | (simp [*]; done) | (simp at *; omega))) rfl ?_
          refine L_op (env' := uS8n36) rfl rfl (v_move (.inr rfl) rfl) rfl ?_
          refine L_nil ?_
          first
            | (have hE : (((rsz rows k).2 : Nat) : Int) + 1 = ((rsz rows (k + 1)).2 : Nat) := by rw [rsz, if_pos (by assumption)]; rfl); rw [hE]
            | (have hE : (rsz rows k).2 = (rsz rows (k + 1)).2 := by rw [rsz]; simp only; rw [if_neg (not_of_f (by assumption))]); rw [hE]
          refine K_loopG [false,true,true,false,true,false,false,true,true,true,true,true,true,true,true,true,true,true,true,true,true,true,true,true,true,true,true,true,true,true,true,true,true,true,true,true] (env' := uS8n36) rfl (Gh.dropTo (L := [haB (rsz rows (k + 1)).1]) (X := [seB _]) 1 rfl (BaseOk.refl _) (by first | (simp [VVal.underL, VVal.under, fzW_under]; done) | (simp [VVal.underL, VVal.under, fzW_under]; omega)) (by simp [haB_under])) ⟨k + 1, ?_, rfl, ?_⟩
          · first | omega | (simp only []; omega)
          · exact ⟨by omega, rfl⟩
        · try simp only [decide_eq_true_eq, decide_eq_false_iff_not, Bool.not_eq_true', Bool.not_eq_false', bne_iff_ne, beq_iff_eq, Bool.and_eq_true, Bool.or_eq_true, Bool.not_eq_true, ge_iff_le, gt_iff_lt, Int.not_le, Int.not_lt, beq_eq_false_iff_ne, bne_eq_false_iff_eq, ne_eq, Decidable.not_not, wd_zero, wd_one, wd_inj] at hc4
          refine B_skip ?_
          refine K_blk ?_
          refine K_seq ?_
          refine B_region ?_
          refine L_op (env' := uS8n36) rfl rfl (v_move (.inl rfl) rfl) rfl ?_
          refine L_op (env' := uS8n36) rfl rfl (v_addI rfl rfl rfl (by first | assumption | omega | (simp [*]; done) | (simp at *; omega))) rfl ?_
          refine L_op (env' := uS8n36) rfl rfl (v_move (.inr rfl) rfl) rfl ?_
          refine L_nil ?_
          first
            | (have hE : (((rsz rows k).2 : Nat) : Int) + 1 = ((rsz rows (k + 1)).2 : Nat) := by rw [rsz, if_pos (by assumption)]; rfl); rw [hE]
            | (have hE : (rsz rows k).2 = (rsz rows (k + 1)).2 := by rw [rsz]; simp only; rw [if_neg (not_of_f (by assumption))]); rw [hE]
          refine K_loopG [false,true,true,false,true,false,false,true,true,true,true,true,true,true,true,true,true,true,true,true,true,true,true,true,true,true,true,true,true,true,true,true,true,true,true,true] (env' := uS8n36) rfl (Gh.dropTo (L := [haB (rsz rows (k + 1)).1]) (X := [seB _]) 1 rfl (BaseOk.refl _) (by first | (simp [VVal.underL, VVal.under, fzW_under]; done) | (simp [VVal.underL, VVal.under, fzW_under]; omega)) (by simp [haB_under])) ⟨k + 1, ?_, rfl, ?_⟩
          · first | omega | (simp only []; omega)
          · exact ⟨by omega, rfl⟩
      · try simp only [decide_eq_true_eq, decide_eq_false_iff_not, Bool.not_eq_true', Bool.not_eq_false', bne_iff_ne, beq_iff_eq, Bool.and_eq_true, Bool.or_eq_true, Bool.not_eq_true, ge_iff_le, gt_iff_lt, Int.not_le, Int.not_lt, beq_eq_false_iff_ne, bne_eq_false_iff_eq, ne_eq, Decidable.not_not, wd_zero, wd_one, wd_inj] at hc3
        refine B_exit ?_
        refine K_seqX ?_
        refine K_loopX ?_
        refine K_blkX ?_
        refine K_seq ?_
        refine B_seq ?_
        refine B_region ?_
        refine L_op (env' := uS8n36) rfl rfl (v_move (.inl rfl) rfl) rfl ?_
        refine L_op (env' := uS8n36) rfl rfl (v_move (.inr rfl) rfl) rfl ?_
        refine L_nil ?_
        refine K_seq ?_
        refine B_ret ?_
        refine E_app (.inr rfl) (vres_tmp rfl rfl) (by first | exact BaseOk.refl _ | exact BaseOk.set (BaseOk.refl _) _ rfl) (by first | rfl | simp [VVal.under, VVal.underL, fzW_under, *]) ?_
        first
          | exact ⟨by rw [szV, if_neg (by omega)], rfl⟩
          | (obtain rfl : k = rows.length := by omega); exact ⟨by rw [szV, if_pos (by omega), rsz_all], rfl⟩

theorem refFull_spec {x : SW} (H : VHeap) (rows : List (BitVec 64)) (h62 : rows.length ≤ 1000000) : F (psys x) 31 [fzW rows] H fun v G => v = .bool (decide (rows.length ≤ 12) && fullB rows 0#64) ∧ G = H := by
  refine F_body Tryd.func31 rfl uS8n13 rfl ?_
  refine B_seq ?_
  refine B_region ?_
  refine L_op (env' := uS8n13) rfl rfl (v_const (VVal.bool false) (.inr rfl) rfl) rfl ?_
  refine L_nil ?_
  refine K_seq ?_
  refine B_seq ?_
  refine B_region ?_
  refine L_op (env' := uS8n13) rfl rfl (v_move (.inl rfl) rfl) rfl ?_
  refine L_op (env' := uS8n13) rfl rfl (rfl) rfl ?_
  refine L_op (env' := uS8n13) rfl rfl (rfl) rfl ?_
  refine L_op (env' := uS8n13) rfl rfl (v_move (.inl rfl) rfl) rfl ?_
  refine L_split 6 (env1 := uS8n13) (env2 := uS8n13) rfl rfl rfl (fun hg1 => ?_) (fun hg1 => ?_)
  · try simp only [decide_eq_true_eq, decide_eq_false_iff_not, Bool.not_eq_true', Bool.not_eq_false', bne_iff_ne, beq_iff_eq, Bool.and_eq_true, Bool.or_eq_true, Bool.not_eq_true, ge_iff_le, gt_iff_lt, Int.not_le, Int.not_lt, beq_eq_false_iff_ne, bne_eq_false_iff_eq, ne_eq, Decidable.not_not, wd_zero, wd_one, wd_inj] at hg1
    refine L_op (env' := uS8n13) rfl rfl (v_move (.inl rfl) rfl) rfl ?_
    refine L_call rfl rfl rfl (by exact refSize_spec _ _ h62) ?_
    rintro _ _ ⟨rfl, rfl⟩
    refine L_env (env' := uS8n13) rfl ?_
    refine L_op (env' := uS8n13) rfl rfl (v_move (.inl rfl) rfl) rfl ?_
    refine L_op (env' := uS8n13) rfl rfl (rfl) rfl ?_
    refine L_op (env' := uS8n13) rfl rfl (rfl) rfl ?_
    refine L_op (env' := uS8n13) rfl rfl (v_pickT rfl rfl rfl) rfl ?_
    refine L_op (env' := uS8n13) rfl rfl (v_move (.inr rfl) rfl) rfl ?_
    refine L_nil ?_
    refine K_seq ?_
    refine B_ret ?_
    refine E_app (.inr rfl) (vres_tmp rfl rfl) (by first | exact BaseOk.refl _ | exact BaseOk.set (BaseOk.refl _) _ rfl) (by first | rfl | simp [VVal.under, VVal.underL, *]) ?_
    first
      | exact ⟨by rw [full_sz, decide_eq_true (by omega), Bool.true_and, ← beq_nat]; rw [szV, if_pos (by omega)], rfl⟩
      | exact ⟨by rw [decide_eq_false (by omega), Bool.false_and], rfl⟩
  · try simp only [decide_eq_true_eq, decide_eq_false_iff_not, Bool.not_eq_true', Bool.not_eq_false', bne_iff_ne, beq_iff_eq, Bool.and_eq_true, Bool.or_eq_true, Bool.not_eq_true, ge_iff_le, gt_iff_lt, Int.not_le, Int.not_lt, beq_eq_false_iff_ne, bne_eq_false_iff_eq, ne_eq, Decidable.not_not, wd_zero, wd_one, wd_inj] at hg1
    refine L_off (env' := uS8n13) rfl rfl ?_
    refine L_off (env' := uS8n13) rfl rfl ?_
    refine L_off (env' := uS8n13) rfl rfl ?_
    refine L_off (env' := uS8n13) rfl rfl ?_
    refine L_off (env' := uS8n13) rfl rfl ?_
    refine L_op (env' := uS8n13) rfl rfl (v_pickFC (VVal.bool false) rfl rfl rfl) rfl ?_
    refine L_op (env' := uS8n13) rfl rfl (v_move (.inr rfl) rfl) rfl ?_
    refine L_nil ?_
    refine K_seq ?_
    refine B_ret ?_
    refine E_app (.inr rfl) (vres_tmp rfl rfl) (by first | exact BaseOk.refl _ | exact BaseOk.set (BaseOk.refl _) _ rfl) (by first | rfl | simp [VVal.under, VVal.underL, *]) ?_
    first
      | exact ⟨by rw [full_sz, decide_eq_true (by omega), Bool.true_and, ← beq_nat]; rw [szV, if_pos (by omega)], rfl⟩
      | exact ⟨by rw [decide_eq_false (by omega), Bool.false_and], rfl⟩
end Go.Proofs.YtpekleeidllllaaDoor.VT
