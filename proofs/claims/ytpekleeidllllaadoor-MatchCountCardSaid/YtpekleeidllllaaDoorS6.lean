/- what the laws share: walks -/
import Derived.Test.YtpekleeidllllaaDoorS5
set_option autoImplicit false
set_option linter.unusedVariables false
set_option linter.unusedSimpArgs false
set_option maxHeartbeats 4000000
set_option maxRecDepth 100000
namespace Go.Proofs.YtpekleeidllllaaDoor.VT
open Go Go.V Go.RowKit

abbrev uS6n8 {a0 a1 a2 a3 a4 a5 a6 a7 : VVal} : VEnv := a0 :: a1 :: a2 :: a3 :: a4 :: a5 :: a6 :: a7 :: []
abbrev uS6n11 {a0 a1 a2 a3 a4 a5 a6 a7 a8 a9 a10 : VVal} : VEnv := a0 :: a1 :: a2 :: a3 :: a4 :: a5 :: a6 :: a7 :: a8 :: a9 :: a10 :: []
abbrev uS6n24 {a0 a1 a2 a3 a4 a5 a6 a7 a8 a9 a10 a11 a12 a13 a14 a15 a16 a17 a18 a19 a20 a21 a22 a23 : VVal} : VEnv := a0 :: a1 :: a2 :: a3 :: a4 :: a5 :: a6 :: a7 :: a8 :: a9 :: a10 :: a11 :: a12 :: a13 :: a14 :: a15 :: a16 :: a17 :: a18 :: a19 :: a20 :: a21 :: a22 :: a23 :: []
abbrev uS6n26 {a0 a1 a2 a3 a4 a5 a6 a7 a8 a9 a10 a11 a12 a13 a14 a15 a16 a17 a18 a19 a20 a21 a22 a23 a24 a25 : VVal} : VEnv := a0 :: a1 :: a2 :: a3 :: a4 :: a5 :: a6 :: a7 :: a8 :: a9 :: a10 :: a11 :: a12 :: a13 :: a14 :: a15 :: a16 :: a17 :: a18 :: a19 :: a20 :: a21 :: a22 :: a23 :: a24 :: a25 :: []

theorem fewP_spec {x : SW} (H : VHeap) (l : List (BitVec 64)) : F (psys x) 10 [fzW l] H fun v G => v = .slice (some (H.length, 0)) (l.take 20).length (l.take 20).length (decide ((l.take 20).length = 0)) 1 ∧ G = H ++ [.cells ((l.take 20).map iW) true] := by
  refine F_body Tryd.func10 rfl uS6n11 rfl ?_
  refine B_seq ?_
  refine B_region ?_
  refine L_op (env' := uS6n11) rfl rfl (v_const (VVal.slice none 0 0 true 0) (.inr rfl) rfl) rfl ?_
  refine L_nil ?_
  refine K_seq ?_
  refine B_seq ?_
  refine B_seq ?_
  refine B_region ?_
  refine L_op (env' := uS6n11) rfl rfl (v_move (.inl rfl) rfl) rfl ?_
  refine L_op (env' := uS6n11) rfl rfl (rfl) rfl ?_
  refine L_op (env' := uS6n11) rfl rfl (rfl) rfl ?_
  refine L_nil ?_
  refine K_seq ?_
  refine B_cond _ rfl (fun hc1 => ?_) (fun hc1 => ?_)
  · try simp only [decide_eq_true_eq, decide_eq_false_iff_not, Bool.not_eq_true', Bool.not_eq_false', bne_iff_ne, beq_iff_eq, Bool.and_eq_true, Bool.or_eq_true, Bool.not_eq_true, ge_iff_le, gt_iff_lt, Int.not_le, Int.not_lt, beq_eq_false_iff_ne, bne_eq_false_iff_eq, ne_eq, Decidable.not_not, wd_zero, wd_one, wd_inj] at hc1
    refine B_region ?_
    refine L_op (env' := uS6n11) rfl rfl (v_move (.inl rfl) rfl) rfl ?_
    refine L_op (env' := uS6n11) rfl rfl (v_wHi (k := 20) rfl rfl rfl rfl rfl rfl rfl (by omega)) rfl ?_
    refine L_op (env' := uS6n11) rfl rfl (v_move (.inr rfl) rfl) rfl ?_
    refine L_nil ?_
    refine K_seq ?_
    refine B_seq ?_
    refine B_region ?_
    have h20 : (l.take 20).length ≤ 20 := by rw [List.length_take]; omega
    try rw [show fzW l = fzW (l.take 20) by rw [List.take_of_length_le (by omega)]]
    refine L_op (env' := uS6n11) rfl rfl (v_buildSlice rfl rfl (by decide) rfl) rfl ?_
    refine L_op (env' := uS6n11) rfl rfl (v_move (.inl rfl) rfl) rfl ?_
    refine L_opX rfl rfl (v_appE (k := (l.take 20).length) rfl rfl rfl rfl rfl rfl rfl rfl (by rw [List.length_map]; exact (Nat.mul_one _).symm) (mapW_one _) (by decide) (by show (l.take 20).length * 8 ≤ _ ∧ (l.take 20).length ≤ _; omega)) ?_
    rintro _ _ ⟨Z, i, rfl, rfl, hi⟩
    refine L_env (env' := uS6n11) rfl ?_
    refine L_op (env' := uS6n11) rfl rfl (v_move (.inr rfl) rfl) rfl ?_
    refine L_nil ?_
    refine K_seq ?_
    refine B_ret ?_
    refine E_gh (.inr rfl) (vres_tmp rfl rfl) (Gh.pack (BaseOk.refl _) hi (mapW_under _ _)) ?_
    exact ⟨rfl, rfl⟩
  · try simp only [decide_eq_true_eq, decide_eq_false_iff_not, Bool.not_eq_true', Bool.not_eq_false', bne_iff_ne, beq_iff_eq, Bool.and_eq_true, Bool.or_eq_true, Bool.not_eq_true, ge_iff_le, gt_iff_lt, Int.not_le, Int.not_lt, beq_eq_false_iff_ne, bne_eq_false_iff_eq, ne_eq, Decidable.not_not, wd_zero, wd_one, wd_inj] at hc1
    refine B_skip ?_
    refine K_seq ?_
    refine B_seq ?_
    refine B_region ?_
    have h20 : (l.take 20).length ≤ 20 := by rw [List.length_take]; omega
    try rw [show fzW l = fzW (l.take 20) by rw [List.take_of_length_le (by omega)]]
    refine L_op (env' := uS6n11) rfl rfl (v_buildSlice rfl rfl (by decide) rfl) rfl ?_
    refine L_op (env' := uS6n11) rfl rfl (v_move (.inl rfl) rfl) rfl ?_
    refine L_opX rfl rfl (v_appE (k := (l.take 20).length) rfl rfl rfl rfl rfl rfl rfl rfl (by rw [List.length_map]; exact (Nat.mul_one _).symm) (mapW_one _) (by decide) (by show (l.take 20).length * 8 ≤ _ ∧ (l.take 20).length ≤ _; omega)) ?_
    rintro _ _ ⟨Z, i, rfl, rfl, hi⟩
    refine L_env (env' := uS6n11) rfl ?_
    refine L_op (env' := uS6n11) rfl rfl (v_move (.inr rfl) rfl) rfl ?_
    refine L_nil ?_
    refine K_seq ?_
    refine B_ret ?_
    refine E_gh (.inr rfl) (vres_tmp rfl rfl) (Gh.pack (BaseOk.refl _) hi (mapW_under _ _)) ?_
    exact ⟨rfl, rfl⟩

theorem few_spec {x : SW} (H : VHeap) (l : List (BitVec 64)) : F (psys x) 10 [fzW l] H fun v G => v = fzW (l.take 20) ∧ G = H :=
  F.gh (fewP_spec H l) fun v G h => by
    obtain ⟨rfl, rfl⟩ := h
    exact ⟨_, _, Gh.fsl (j := 0) (BaseOk.refl H) rfl mapW_all (Nat.le_refl _) (mapW_under _ _), rfl, rfl⟩
theorem few_s {x : SW} (H : VHeap) (l : List (BitVec 64)) (h : l.length ≤ 12) : F (psys x) 10 [fzW l] H fun v G => v = fzW l ∧ G = H := by
  have := few_spec (x := x) H l
  rw [List.take_of_length_le (by omega)] at this; exact this
theorem few_L {x : SW} (H L : VHeap) (l : List (BitVec 64)) (h : l.length ≤ 12) : F (psys x) 10 [fzW l] (H ++ L) fun v G => v = .slice (some (H.length + L.length, 0)) l.length l.length (decide (l.length = 0)) 1 ∧ G = H ++ (L ++ [.cells (l.map iW) true]) := by
  have := fewP_spec (x := x) (H ++ L) l
  rw [List.take_of_length_le (by omega), List.length_append, List.append_assoc] at this; exact this
def usL (l : List (BitVec 64)) : List Nat := if fullB l 0#64 = true then lst l 0#64 else []
theorem leV_12 {l : List (BitVec 64)} (h : l.length ≤ 12) : leV l = .tuple [fzN (usL l), .bool (fullB l 0#64)] := by
  unfold leV usL
  by_cases hf : fullB l 0#64 = true
  · rw [if_pos ⟨h, hf⟩, if_pos hf, hf]
  · rw [if_neg (fun e => hf e.2), if_neg hf, show fullB l 0#64 = false from bool_f hf]
theorem Least_m {x : SW} {n : Nat} (H : VHeap) (l : List (BitVec 64)) (hn : n = l.length) (h : l.length ≤ 12) : F (psys x) 9 [.fsl (l.map iW) n 1 false] H fun v G => v = .tuple [fzN (usL l), .bool (fullB l 0#64)] ∧ G = H := by
  subst hn
  have := Least_spec (x := x) H l (by omega)
  rw [leV_12 h] at this; exact this
theorem usL_ok {l : List (BitVec 64)} (h : fullB l 0#64 = true) : MatU l (usL l) := by
  unfold usL; rw [if_pos h]
  have := lst_ok (fullB_iff.1 h)
  rw [msk_0] at this; exact this
theorem full0 {l : List (BitVec 64)} : fullB l 0#64 = true ↔ Mat l := by rw [fullB_iff, msk_0]
theorem ints_eq {l r : List Int} (hl : l.length = r.length) (h : ∀ j, j < l.length → l.getD j 0 = r.getD j 0) : l = r := by
  apply List.ext_getElem hl
  intro j h1 h2
  have := h j h1
  simpa [List.getD_eq_getElem?_getD, h1, h2] using this
def szV (l : List (BitVec 64)) : Int := if l.length ≤ 12 then (szN l : Nat) else 0

theorem mSize_spec {x : SW} (H : VHeap) (l : List (BitVec 64)) (hl : l.length ≤ 1000000) : F (psys x) 13 [fzW l] H fun v G => v = iI (szV l) ∧ G = H := by
  refine F_body Tryd.func13 rfl uS6n8 rfl ?_
  refine B_seq ?_
  refine B_region ?_
  refine L_op (env' := uS6n8) rfl rfl (v_const (VVal.int .i64 0) (.inr rfl) rfl) rfl ?_
  refine L_nil ?_
  refine K_seq ?_
  refine B_seq ?_
  refine B_seq ?_
  refine B_region ?_
  refine L_op (env' := uS6n8) rfl rfl (v_move (.inl rfl) rfl) rfl ?_
  refine L_call rfl rfl rfl (by exact fits_spec _ _) ?_
  rintro _ _ ⟨rfl, rfl⟩
  refine L_env (env' := uS6n8) rfl ?_
  refine L_op (env' := uS6n8) rfl rfl (rfl) rfl ?_
  refine L_nil ?_
  refine K_seq ?_
  refine B_cond _ rfl (fun hc1 => ?_) (fun hc1 => ?_)
  · try simp only [decide_eq_true_eq, decide_eq_false_iff_not, Bool.not_eq_true', Bool.not_eq_false', bne_iff_ne, beq_iff_eq, Bool.and_eq_true, Bool.or_eq_true, Bool.not_eq_true, ge_iff_le, gt_iff_lt, Int.not_le, Int.not_lt, beq_eq_false_iff_ne, bne_eq_false_iff_eq, ne_eq, Decidable.not_not, wd_zero, wd_one, wd_inj] at hc1
    refine B_seq ?_
    refine B_region ?_
    refine L_op (env' := uS6n8) rfl rfl (v_const (VVal.int .i64 0) (.inr rfl) rfl) rfl ?_
    refine L_nil ?_
    refine K_seq ?_
    refine B_ret ?_
    refine K_seqR ?_
    refine E_app (.inr rfl) (vres_tmp rfl rfl) (by first | exact BaseOk.refl _ | exact BaseOk.set (BaseOk.refl _) _ rfl) (by first | rfl | simp [VVal.under, VVal.underL, *]) ?_
    first
      | exact ⟨by rw [szV, if_pos (by omega)], rfl⟩
      | exact ⟨by rw [szV, if_neg (by omega)], rfl⟩
  · try simp only [decide_eq_true_eq, decide_eq_false_iff_not, Bool.not_eq_true', Bool.not_eq_false', bne_iff_ne, beq_iff_eq, Bool.and_eq_true, Bool.or_eq_true, Bool.not_eq_true, ge_iff_le, gt_iff_lt, Int.not_le, Int.not_lt, beq_eq_false_iff_ne, bne_eq_false_iff_eq, ne_eq, Decidable.not_not, wd_zero, wd_one, wd_inj] at hc1
    refine B_skip ?_
    refine K_seq ?_
    refine B_seq ?_
    refine B_region ?_
    refine L_op (env' := uS6n8) rfl rfl (v_move (.inl rfl) rfl) rfl ?_
    refine L_call rfl rfl rfl (by exact size_spec _ _ (by omega)) ?_
    rintro _ _ ⟨rfl, rfl⟩
    refine L_env (env' := uS6n8) rfl ?_
    refine L_op (env' := uS6n8) rfl rfl (v_move (.inr rfl) rfl) rfl ?_
    refine L_nil ?_
    refine K_seq ?_
    refine B_ret ?_
    refine E_app (.inr rfl) (vres_tmp rfl rfl) (by first | exact BaseOk.refl _ | exact BaseOk.set (BaseOk.refl _) _ rfl) (by first | rfl | simp [VVal.under, VVal.underL, *]) ?_
    first
      | exact ⟨by rw [szV, if_pos (by omega)], rfl⟩
      | exact ⟨by rw [szV, if_neg (by omega)], rfl⟩

theorem Ints_spec {x : SW} (H : VHeap) (l r : List Int) (h1 : l.length < 9223372036854775807) : F (psys x) 12 [fzI l, fzI r] H fun v G => v = .bool (decide (l = r)) ∧ G = H := by
  refine F_body Tryd.func12 rfl uS6n26 rfl ?_
  refine B_seq ?_
  refine B_region ?_
  refine L_op (env' := uS6n26) rfl rfl (v_const (VVal.bool false) (.inr rfl) rfl) rfl ?_
  refine L_nil ?_
  refine K_seq ?_
  refine B_seq ?_
  refine B_seq ?_
  refine B_region ?_
  refine L_op (env' := uS6n26) rfl rfl (v_move (.inl rfl) rfl) rfl ?_
  refine L_op (env' := uS6n26) rfl rfl (rfl) rfl ?_
  refine L_op (env' := uS6n26) rfl rfl (v_move (.inl rfl) rfl) rfl ?_
  refine L_op (env' := uS6n26) rfl rfl (rfl) rfl ?_
  refine L_op (env' := uS6n26) rfl rfl (rfl) rfl ?_
  refine L_nil ?_
  refine K_seq ?_
  refine B_cond _ rfl (fun hc1 => ?_) (fun hc1 => ?_)
  · try simp only [decide_eq_true_eq, decide_eq_false_iff_not, Bool.not_eq_true', Bool.not_eq_false', bne_iff_ne, beq_iff_eq, Bool.and_eq_true, Bool.or_eq_true, Bool.not_eq_true, ge_iff_le, gt_iff_lt, Int.not_le, Int.not_lt, beq_eq_false_iff_ne, bne_eq_false_iff_eq, ne_eq, Decidable.not_not, wd_zero, wd_one, wd_inj] at hc1
    refine B_seq ?_
    refine B_region ?_
    refine L_op (env' := uS6n26) rfl rfl (v_const (VVal.bool false) (.inr rfl) rfl) rfl ?_
    refine L_nil ?_
    refine K_seq ?_
    refine B_ret ?_
    refine K_seqR ?_
    refine E_app (.inr rfl) (vres_tmp rfl rfl) (by first | exact BaseOk.refl _ | exact BaseOk.set (BaseOk.refl _) _ rfl) (by first | rfl | simp [VVal.under, VVal.underL, *]) ?_
    exact ⟨by rw [decide_eq_false (fun e => by rw [e] at hc1; omega)], rfl⟩
  · try simp only [decide_eq_true_eq, decide_eq_false_iff_not, Bool.not_eq_true', Bool.not_eq_false', bne_iff_ne, beq_iff_eq, Bool.and_eq_true, Bool.or_eq_true, Bool.not_eq_true, ge_iff_le, gt_iff_lt, Int.not_le, Int.not_lt, beq_eq_false_iff_ne, bne_eq_false_iff_eq, ne_eq, Decidable.not_not, wd_zero, wd_one, wd_inj] at hc1
    refine B_skip ?_
    refine K_seq ?_
    refine B_seq ?_
    refine B_seq ?_
    refine B_region ?_
    refine L_op (env' := uS6n26) rfl rfl (v_const (VVal.int .i64 0) (.inr rfl) rfl) rfl ?_
    refine L_nil ?_
    refine K_seq ?_
    refine B_block ?_
    refine B_clear [false,false,true,true,true,false,true,true,true,true,true,true,true,true,true,true,true,true,true,true,true,true,true,true,true,true] (env' := uS6n26) rfl ?_
    refine B_loopE (fun (k : Nat) => l.length - k) (fun (k : Nat) => [(5, iI (k : Nat))]) (fun (k : Nat) G => (k ≤ l.length ∧ ∀ j, j < k → l.getD j 0 = r.getD j 0) ∧ G = H ++ []) 0 rfl ?_ ?_
    · refine ⟨?_, rfl⟩
      exact ⟨Nat.zero_le _, fun j h => by omega⟩
    rintro k _ ⟨⟨hk, hall⟩, rfl⟩
    refine B_env (env' := uS6n26) rfl ?_
    refine B_seq ?_
    refine B_seq ?_
    refine B_region ?_
    refine L_op (env' := uS6n26) rfl rfl (v_move (.inl rfl) rfl) rfl ?_
    refine L_op (env' := uS6n26) rfl rfl (v_move (.inl rfl) rfl) rfl ?_
    refine L_op (env' := uS6n26) rfl rfl (rfl) rfl ?_
    refine L_op (env' := uS6n26) rfl rfl (rfl) rfl ?_
    refine L_nil ?_
    refine K_seq ?_
    refine B_cond _ rfl (fun hc2 => ?_) (fun hc2 => ?_)
    · try simp only [decide_eq_true_eq, decide_eq_false_iff_not, Bool.not_eq_true', Bool.not_eq_false', bne_iff_ne, beq_iff_eq, Bool.and_eq_true, Bool.or_eq_true, Bool.not_eq_true, ge_iff_le, gt_iff_lt, Int.not_le, Int.not_lt, beq_eq_false_iff_ne, bne_eq_false_iff_eq, ne_eq, Decidable.not_not, wd_zero, wd_one, wd_inj] at hc2
      refine B_skip ?_
      refine K_seq ?_
      refine B_seq ?_
      refine B_block ?_
      refine B_seq ?_
      refine B_draw [0, 1, 2, 3, 4, 5, 6, 7, 8] #[0, 0, 3, 7, 0, 0, 48, 112, 255] (by kernel_rfl) (by kernel_rfl) (by kernel_rfl) ?_
      refine O_op (env' := uS6n26) (c := .calm) rfl rfl rfl (v_move (.inl rfl) rfl) rfl rfl rfl ?_
      refine O_op (env' := uS6n26) (c := .calm) rfl rfl rfl (v_move (.inl rfl) rfl) rfl rfl rfl ?_
      refine O_op (env' := uS6n26) (c := .calm) rfl rfl rfl (by first | exact v_idxF rfl rfl rfl rfl rfl rfl rfl (by first | assumption | omega | (simp [*]; done) | (simp at *; omega)) | exact v_idx rfl rfl rfl rfl rfl rfl rfl (by first | assumption | omega | (simp [*]; done) | (simp at *; omega))) rfl rfl rfl ?_
      refine O_op (env' := uS6n26) (c := .look) rfl rfl rfl (by first | exact v_loadF rfl rfl rfl rfl (by first | rfl | assumption | exact fget (α := BitVec 64) 0 (by omega) | exact fget (α := Int) 0 (by omega) | exact fget0 (α := BitVec 64) 0 (by omega) | exact fget0 (α := Int) 0 (by omega) | exact fget (α := Bool) false (by omega) | exact fget0 (α := Bool) false (by omega) | (simp [*]; done)) | exact v_load rfl rfl rfl rfl (by first | exact get_app rfl rfl | exact get_out (by assumption) | assumption | (simp [*]; done)) (by first | rfl | assumption | exact fget (α := BitVec 64) 0 (by omega) | exact fget (α := Int) 0 (by omega) | exact fget0 (α := BitVec 64) 0 (by omega) | exact fget0 (α := Int) 0 (by omega) | exact fget (α := Bool) false (by omega) | exact fget0 (α := Bool) false (by omega) | (simp [*]; done))) rfl rfl rfl ?_
      refine O_op (env' := uS6n26) (c := .calm) rfl rfl rfl (v_move (.inl rfl) rfl) rfl rfl rfl ?_
      refine O_op (env' := uS6n26) (c := .calm) rfl rfl rfl (v_move (.inl rfl) rfl) rfl rfl rfl ?_
      refine O_op (env' := uS6n26) (c := .calm) rfl rfl rfl (by first | exact v_idxF rfl rfl rfl rfl rfl rfl rfl (by first | assumption | omega | (simp [*]; done) | (simp at *; omega)) | exact v_idx rfl rfl rfl rfl rfl rfl rfl (by first | assumption | omega | (simp [*]; done) | (simp at *; omega))) rfl rfl rfl ?_
      refine O_op (env' := uS6n26) (c := .look) rfl rfl rfl (by first | exact v_loadF rfl rfl rfl rfl (by first | rfl | assumption | exact fget (α := BitVec 64) 0 (by omega) | exact fget (α := Int) 0 (by omega) | exact fget0 (α := BitVec 64) 0 (by omega) | exact fget0 (α := Int) 0 (by omega) | exact fget (α := Bool) false (by omega) | exact fget0 (α := Bool) false (by omega) | (simp [*]; done)) | exact v_load rfl rfl rfl rfl (by first | exact get_app rfl rfl | exact get_out (by assumption) | assumption | (simp [*]; done)) (by first | rfl | assumption | exact fget (α := BitVec 64) 0 (by omega) | exact fget (α := Int) 0 (by omega) | exact fget0 (α := BitVec 64) 0 (by omega) | exact fget0 (α := Int) 0 (by omega) | exact fget (α := Bool) false (by omega) | exact fget0 (α := Bool) false (by omega) | (simp [*]; done))) rfl rfl rfl ?_
      refine O_op (env' := uS6n26) (c := .calm) rfl rfl rfl (rfl) rfl rfl rfl ?_
      refine O_nil [] (by kernel_rfl) (trivial) ?_
      refine K_seq ?_
      refine B_cond _ rfl (fun hc3 => ?_) (fun hc3 => ?_)
      · try simp only [decide_eq_true_eq, decide_eq_false_iff_not, Bool.not_eq_true', Bool.not_eq_false', bne_iff_ne, beq_iff_eq, Bool.and_eq_true, Bool.or_eq_true, Bool.not_eq_true, ge_iff_le, gt_iff_lt, Int.not_le, Int.not_lt, beq_eq_false_iff_ne, bne_eq_false_iff_eq, ne_eq, Decidable.not_not, wd_zero, wd_one, wd_inj] at hc3
        refine B_seq ?_
        refine B_region ?_
        refine L_op (env' := uS6n26) rfl rfl (v_const (VVal.bool false) (.inr rfl) rfl) rfl ?_
        refine L_nil ?_
        refine K_seq ?_
        refine B_ret ?_
        refine K_blkR ?_
        refine K_seqR ?_
        refine K_loopR ?_
        refine K_blkR ?_
        refine K_seqR ?_
        refine E_app (.inr rfl) (vres_tmp rfl rfl) (by first | exact BaseOk.refl _ | exact BaseOk.set (BaseOk.refl _) _ rfl) (by first | rfl | simp [VVal.under, VVal.underL, *]) ?_
        exact ⟨by rw [decide_eq_false (fun e => by subst e; simp at hc3)], rfl⟩
      · try simp only [decide_eq_true_eq, decide_eq_false_iff_not, Bool.not_eq_true', Bool.not_eq_false', bne_iff_ne, beq_iff_eq, Bool.and_eq_true, Bool.or_eq_true, Bool.not_eq_true, ge_iff_le, gt_iff_lt, Int.not_le, Int.not_lt, beq_eq_false_iff_ne, bne_eq_false_iff_eq, ne_eq, Decidable.not_not, wd_zero, wd_one, wd_inj] at hc3
        refine B_skip ?_
        refine K_blk ?_
        refine K_seq ?_
        refine B_region ?_
        refine L_op (env' := uS6n26) rfl rfl (v_move (.inl rfl) rfl) rfl ?_
        refine L_op (env' := uS6n26) rfl rfl (v_addI rfl rfl rfl (by first | assumption | omega | (simp [*]; done) | (simp at *; omega))) rfl ?_
        refine L_op (env' := uS6n26) rfl rfl (v_move (.inr rfl) rfl) rfl ?_
        refine L_nil ?_
        refine K_loop [false,false,true,true,true,false,true,true,true,true,true,true,true,true,true,true,true,true,true,true,true,true,true,true,true,true] (env' := uS6n26) rfl ⟨k + 1, ?_, rfl, ?_⟩
        · first | omega | (simp only []; omega)
        · exact ⟨⟨by omega, fun j hj => by by_cases e : j = k; (subst e; simpa using hc3); exact hall j (by omega)⟩, rfl⟩
    · try simp only [decide_eq_true_eq, decide_eq_false_iff_not, Bool.not_eq_true', Bool.not_eq_false', bne_iff_ne, beq_iff_eq, Bool.and_eq_true, Bool.or_eq_true, Bool.not_eq_true, ge_iff_le, gt_iff_lt, Int.not_le, Int.not_lt, beq_eq_false_iff_ne, bne_eq_false_iff_eq, ne_eq, Decidable.not_not, wd_zero, wd_one, wd_inj] at hc2
      refine B_exit ?_
      refine K_seqX ?_
      refine K_loopX ?_
      refine K_blkX ?_
      refine K_seq ?_
      refine B_seq ?_
      refine B_region ?_
      refine L_op (env' := uS6n26) rfl rfl (v_const (VVal.bool true) (.inr rfl) rfl) rfl ?_
      refine L_nil ?_
      refine K_seq ?_
      refine B_ret ?_
      refine E_app (.inr rfl) (vres_tmp rfl rfl) (by first | exact BaseOk.refl _ | exact BaseOk.set (BaseOk.refl _) _ rfl) (by first | rfl | simp [VVal.under, VVal.underL, *]) ?_
      have e := ints_eq (by omega) (fun j hj => hall j (by omega))
      exact ⟨by rw [decide_eq_true e], rfl⟩

theorem wk_l : leV [3#64, 1#64] = .tuple [fzN [1, 0], .bool true] := by kernel_rfl
theorem wk_s : szV [3#64, 3#64, 7#64, 3#64] = 3 := by kernel_rfl
theorem wk_f : freeV [3#64, 1#64] 0 = 2#64 := by kernel_rfl

theorem mWakes_spec {x : SW} (H : VHeap) : F (psys x) 17 [] H fun v G => v = .bool true ∧ G = H := by
  refine F_body Tryd.func17 rfl uS6n24 rfl ?_
  refine B_seq ?_
  refine B_region ?_
  refine L_op (env' := uS6n24) rfl rfl (v_const (VVal.bool false) (.inr rfl) rfl) rfl ?_
  refine L_nil ?_
  refine K_seq ?_
  refine B_seq ?_
  refine B_region ?_
  refine L_op (env' := uS6n24) rfl rfl (v_buildSlice rfl rfl (by decide) rfl) rfl ?_
  refine L_gh (Gh.freezeL 4 0 rfl rfl rfl (Nat.le_refl _) rfl) ?_
  refine L_call rfl rfl rfl (by exact Least_spec _ [3#64, 1#64] (by decide)) ?_
  rintro v _ ⟨hv, rfl⟩; rw [wk_l] at hv; subst hv
  refine L_env (env' := uS6n24) rfl ?_
  refine L_op (env' := uS6n24) rfl rfl (v_move (.inl rfl) rfl) rfl ?_
  refine L_op (env' := uS6n24) rfl rfl (rfl) rfl ?_
  refine L_op (env' := uS6n24) rfl rfl (rfl) rfl ?_
  refine L_op (env' := uS6n24) rfl rfl (v_move (.inr rfl) rfl) rfl ?_
  refine L_op (env' := uS6n24) rfl rfl (v_move (.inr rfl) rfl) rfl ?_
  refine L_nil ?_
  refine K_seq ?_
  refine B_seq ?_
  refine B_region ?_
  refine L_op (env' := uS6n24) rfl rfl (v_move (.inl rfl) rfl) rfl ?_
  refine L_op (env' := uS6n24) rfl rfl (v_move (.inl rfl) rfl) rfl ?_
  refine L_op (env' := uS6n24) rfl rfl (v_move (.inl rfl) rfl) rfl ?_
  refine L_op (env' := uS6n24) rfl rfl (v_buildSlice rfl rfl (by decide) rfl) rfl ?_
  refine L_gh (Gh.freezeL 11 1 rfl rfl rfl (Nat.le_refl _) rfl) ?_
  refine L_call rfl rfl rfl (by exact Ints_spec _ [1, 0] [1, 0] (by decide)) ?_
  rintro v _ ⟨hv, rfl⟩; obtain rfl : v = .bool true := hv.trans (congrArg VVal.bool (by decide))
  refine L_env (env' := uS6n24) rfl ?_
  refine L_op (env' := uS6n24) rfl rfl (v_pickT rfl rfl rfl) rfl ?_
  refine L_op (env' := uS6n24) rfl rfl (v_move (.inl rfl) rfl) rfl ?_
  refine L_op (env' := uS6n24) rfl rfl (v_buildSlice rfl rfl (by decide) rfl) rfl ?_
  refine L_gh (Gh.freezeL 15 2 rfl rfl rfl (Nat.le_refl _) rfl) ?_
  refine L_call rfl rfl rfl (by exact mSize_spec _ [3#64, 3#64, 7#64, 3#64] (by decide)) ?_
  rintro v _ ⟨hv, rfl⟩; rw [wk_s] at hv; subst hv
  refine L_env (env' := uS6n24) rfl ?_
  refine L_op (env' := uS6n24) rfl rfl (rfl) rfl ?_
  refine L_op (env' := uS6n24) rfl rfl (v_pickT rfl rfl rfl) rfl ?_
  refine L_op (env' := uS6n24) rfl rfl (v_move (.inl rfl) rfl) rfl ?_
  refine L_op (env' := uS6n24) rfl rfl (v_buildSlice rfl rfl (by decide) rfl) rfl ?_
  refine L_gh (Gh.freezeL 20 3 rfl rfl rfl (Nat.le_refl _) rfl) ?_
  refine L_call rfl rfl rfl (by exact Free_spec _ [3#64, 1#64] 0 (by decide)) ?_
  rintro v _ ⟨hv, rfl⟩; rw [wk_f] at hv; subst hv
  refine L_env (env' := uS6n24) rfl ?_
  refine L_op (env' := uS6n24) rfl rfl (rfl) rfl ?_
  refine L_op (env' := uS6n24) rfl rfl (v_pickT rfl rfl rfl) rfl ?_
  refine L_op (env' := uS6n24) rfl rfl (v_move (.inr rfl) rfl) rfl ?_
  refine L_nil ?_
  refine K_seq ?_
  refine B_ret ?_
  refine E_app (.inr rfl) (vres_tmp rfl rfl) (by first | exact BaseOk.refl _ | exact BaseOk.set (BaseOk.refl _) _ rfl) (by first | rfl | simp [VVal.under, VVal.underL, *]) ?_
  exact ⟨rfl, rfl⟩
end Go.Proofs.YtpekleeidllllaaDoor.VT
