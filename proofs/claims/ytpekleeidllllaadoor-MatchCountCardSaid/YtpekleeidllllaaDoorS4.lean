/- matchings: Delete, Free; walks -/
import Derived.Test.YtpekleeidllllaaDoorS3
set_option autoImplicit false
set_option linter.unusedVariables false
set_option linter.unusedSimpArgs false
set_option maxHeartbeats 4000000
set_option maxRecDepth 100000
namespace Go.Proofs.YtpekleeidllllaaDoor.VT
open Go Go.V Go.RowKit

abbrev uS4n33 {a0 a1 a2 a3 a4 a5 a6 a7 a8 a9 a10 a11 a12 a13 a14 a15 a16 a17 a18 a19 a20 a21 a22 a23 a24 a25 a26 a27 a28 a29 a30 a31 a32 : VVal} : VEnv := a0 :: a1 :: a2 :: a3 :: a4 :: a5 :: a6 :: a7 :: a8 :: a9 :: a10 :: a11 :: a12 :: a13 :: a14 :: a15 :: a16 :: a17 :: a18 :: a19 :: a20 :: a21 :: a22 :: a23 :: a24 :: a25 :: a26 :: a27 :: a28 :: a29 :: a30 :: a31 :: a32 :: []
abbrev uS4n43 {a0 a1 a2 a3 a4 a5 a6 a7 a8 a9 a10 a11 a12 a13 a14 a15 a16 a17 a18 a19 a20 a21 a22 a23 a24 a25 a26 a27 a28 a29 a30 a31 a32 a33 a34 a35 a36 a37 a38 a39 a40 a41 a42 : VVal} : VEnv := a0 :: a1 :: a2 :: a3 :: a4 :: a5 :: a6 :: a7 :: a8 :: a9 :: a10 :: a11 :: a12 :: a13 :: a14 :: a15 :: a16 :: a17 :: a18 :: a19 :: a20 :: a21 :: a22 :: a23 :: a24 :: a25 :: a26 :: a27 :: a28 :: a29 :: a30 :: a31 :: a32 :: a33 :: a34 :: a35 :: a36 :: a37 :: a38 :: a39 :: a40 :: a41 :: a42 :: []

theorem full_spec {x : SW} (H : VHeap) (l : List (BitVec 64)) (t : BitVec 64) (hl : l.length ≤ 1000000) : F (psys x) 28 [fzW l, iW t] H fun v G => v = .bool (fullB l t) ∧ G = H := by
  by_cases h : l = []
  · subst h; exact full_0 H t
  · exact full_c H l t h hl
theorem del_cells {l : List (BitVec 64)} {i : Nat} (hi : i < l.length) : splice (splice (l.map iW) i ((l.map iW).drop (i + 1))) (0 + (l.length - 1)) (repeatCells [VVal.int .u64 0] (l.length - (l.length - 1))) = (l.eraseIdx i ++ [0#64]).map iW := by
  rw [show l.length - (l.length - 1) = 1 by omega, show 0 + (l.length - 1) = l.length - 1 by omega]
  have hlen : ((l.eraseIdx i).map iW).length = l.length - 1 := by rw [List.length_map, List.length_eraseIdx_of_lt hi]
  have h1 : splice (l.map iW) i ((l.map iW).drop (i + 1)) = (l.eraseIdx i).map iW ++ (l.map iW).drop (l.length - 1) := by
    unfold splice
    rw [List.length_drop, List.length_map, show i + (l.length - (i + 1)) = l.length - 1 by omega, List.eraseIdx_eq_take_drop_succ, List.map_append, List.map_take, List.map_drop]
  rw [h1]
  unfold splice
  rw [List.take_append_of_le_length (by omega), List.take_of_length_le (by omega), List.drop_of_length_le (by
    rw [List.length_append, hlen, List.length_drop, List.length_map]
    show _ ≤ l.length - 1 + 1
    omega), List.append_nil, List.map_append]
  rfl
theorem erase_all {l : List (BitVec 64)} {i : Nat} : cellsAt ((l.eraseIdx i ++ [0#64]).map iW) 0 ((l.eraseIdx i).length * 1) = some ((l.eraseIdx i).map iW) := by
  unfold cellsAt
  rw [if_pos (by rw [List.length_map, List.length_append]; omega), List.drop_zero, List.map_append, List.take_append_of_le_length (by rw [List.length_map]; omega), List.take_of_length_le (by rw [List.length_map]; omega)]

theorem Delete_spec {x : SW} (H : VHeap) (p : Nat) (l : List (BitVec 64)) (i : Nat) (ex : Bool) (hp : H[p]? = some (.cells (l.map iW) true)) (hi : i < l.length) (hl : l.length ≤ 1000000) : F (psys x) 35 [.slice (some (p, 0)) l.length l.length ex 1, iI (i : Nat), iI ((i : Int) + 1)] H fun v G => v = .slice (some (p, 0)) (l.length - 1) l.length ex 1 ∧ G = H.set p (.cells ((l.eraseIdx i ++ [0#64]).map iW) true) := by
  have hpl := lt_of_get hp
  refine F_body Tryd.func35 rfl uS4n33 rfl ?_
  refine B_seq ?_
  refine B_region ?_
  refine L_op (env' := uS4n33) rfl rfl (v_const (VVal.slice none 0 0 true 0) (.inr rfl) rfl) rfl ?_
  refine L_nil ?_
  refine K_seq ?_
  refine B_seq ?_
  refine B_region ?_
  refine L_op (env' := uS4n33) rfl rfl (v_move (.inl rfl) rfl) rfl ?_
  refine L_op (env' := uS4n33) rfl rfl (v_move (.inl rfl) rfl) rfl ?_
  refine L_op (env' := uS4n33) rfl rfl (v_move (.inl rfl) rfl) rfl ?_
  refine L_op (env' := uS4n33) rfl rfl (v_move (.inl rfl) rfl) rfl ?_
  refine L_op (env' := uS4n33) rfl rfl (rfl) rfl ?_
  refine L_op (env' := uS4n33) rfl rfl (v_slLH (l := i) (h := i + 1) (m := l.length) rfl rfl rfl rfl rfl rfl (vb_lhm (l := i) (h := i + 1) (m := l.length) (len := l.length) (cap := l.length) (by omega) (by omega) (by omega)) rfl (Nat.le_refl _) (by omega)) rfl ?_
  refine L_nil ?_
  refine K_seq ?_
  refine B_seq ?_
  refine B_seq ?_
  refine B_region ?_
  refine L_op (env' := uS4n33) rfl rfl (v_move (.inl rfl) rfl) rfl ?_
  refine L_op (env' := uS4n33) rfl rfl (v_move (.inl rfl) rfl) rfl ?_
  refine L_op (env' := uS4n33) rfl rfl (v_is false rfl (by rw [beq_eq_false_iff_ne]; omega)) rfl ?_
  refine L_nil ?_
  refine K_seq ?_
  refine B_false rfl rfl ?_
  refine B_skip ?_
  refine K_seq ?_
  refine B_seq ?_
  refine B_region ?_
  refine L_op (env' := uS4n33) rfl rfl (v_move (.inl rfl) rfl) rfl ?_
  refine L_op (env' := uS4n33) rfl rfl (rfl) rfl ?_
  refine L_op (env' := uS4n33) rfl rfl (v_move (.inr rfl) rfl) rfl ?_
  refine L_nil ?_
  refine K_seq ?_
  refine B_seq ?_
  refine B_draw [0, 1, 2, 3, 4, 5, 6, 7] #[0, 0, 3, 0, 0, 24, 63, 127] (by kernel_rfl) (by kernel_rfl) (by kernel_rfl) ?_
  refine O_op (env' := uS4n33) (c := .calm) rfl rfl rfl (v_move (.inl rfl) rfl) rfl rfl rfl ?_
  refine O_op (env' := uS4n33) (c := .calm) rfl rfl rfl (v_move (.inl rfl) rfl) rfl rfl rfl ?_
  refine O_op (env' := uS4n33) (c := .calm) rfl rfl rfl (v_val (v_slLH (l := 0) (h := i) (m := l.length) rfl rfl rfl rfl rfl rfl (vb_hi (by omega)) rfl (Nat.le_refl _) (by omega)) (show _ = VVal.slice (some (p, 0)) i l.length ex 1 by simp)) rfl rfl rfl ?_
  refine O_op (env' := uS4n33) (c := .calm) rfl rfl rfl (v_move (.inl rfl) rfl) rfl rfl rfl ?_
  refine O_op (env' := uS4n33) (c := .calm) rfl rfl rfl (v_move (.inl rfl) rfl) rfl rfl rfl ?_
  refine O_opX .calm rfl rfl rfl (v_slTail (l := i + 1) rfl rfl rfl rfl rfl rfl rfl (by omega) (get_out hp) (by rw [List.length_map])) rfl rfl ?_
  rintro v2 _ ⟨rfl, hsl, hsc⟩
  refine O_env (env' := uS4n33) rfl ?_
  refine O_op (env' := uS4n33) (c := .turn) rfl rfl rfl (v_appIn rfl rfl rfl rfl rfl rfl rfl (get_out hp) hsl hsc (by rw [List.length_drop, List.length_map]) (by rw [← List.map_drop]; exact mapW_one _) (by show (i + (l.length - (i + 1))) * 8 ≤ _ ∧ _; omega) (by omega) (by rw [List.length_map]; omega)) rfl rfl rfl ?_
  refine O_op (env' := uS4n33) (c := .calm) rfl rfl rfl (v_move (.inr rfl) rfl) rfl rfl rfl ?_
  refine O_nil [] (by kernel_rfl) (trivial) ?_
  refine K_seq ?_
  refine B_seq ?_
  rw [set_out hpl, show i + (l.length - (i + 1)) = l.length - 1 by omega]
  refine B_region ?_
  refine L_op (env' := uS4n33) rfl rfl (v_move (.inl rfl) rfl) rfl ?_
  refine L_op (env' := uS4n33) rfl rfl (v_move (.inl rfl) rfl) rfl ?_
  refine L_op (env' := uS4n33) rfl rfl (rfl) rfl ?_
  refine L_op (env' := uS4n33) rfl rfl (v_move (.inl rfl) rfl) rfl ?_
  refine L_op (env' := uS4n33) rfl rfl (v_slLH (l := l.length - 1) (h := l.length) (m := l.length) rfl rfl rfl rfl rfl rfl (vb_lh (by omega) (Nat.le_refl _)) rfl (by omega) (by omega)) rfl ?_
  refine L_op (env' := uS4n33) rfl rfl (v_clear1 rfl rfl rfl rfl rfl rfl rfl (get_out (List.getElem?_set_self hpl)) (by unfold splice; simp; omega)) rfl ?_
  refine L_heap (H' := H.set p (.cells ((l.eraseIdx i ++ [0#64]).map iW) true) ++ []) (by rw [set_out (by rw [List.length_set]; exact hpl), List.set_set]; exact congrArg (fun c => H.set p (.cells c true) ++ []) (del_cells hi)) ?_
  refine L_nil ?_
  refine K_seq ?_
  refine B_seq ?_
  refine B_region ?_
  refine L_op (env' := uS4n33) rfl rfl (v_move (.inl rfl) rfl) rfl ?_
  refine L_op (env' := uS4n33) rfl rfl (v_move (.inr rfl) rfl) rfl ?_
  refine L_nil ?_
  refine K_seq ?_
  refine B_ret ?_
  refine E_app (.inr rfl) (vres_tmp rfl rfl) (by exact BaseOk.set (BaseOk.refl _) _ (mapW_under _ _)) (by first | rfl | simp [VVal.under, VVal.underL, *]) ?_
  exact ⟨rfl, rfl⟩

theorem Del_at {x : SW} (H : VHeap) (l : List (BitVec 64)) (i : Nat) (ex : Bool) (hi : i < l.length) (hl : l.length ≤ 1000000) : F (psys x) 35 [.slice (some (H.length + 0, 0)) l.length l.length ex 1, iI (i : Nat), iI ((i : Int) + 1)] (H ++ [.cells (l.map iW) true]) fun v G => v = fzW (l.eraseIdx i) ∧ G = H ++ [.dead] := by
  refine F.gh (Delete_spec (H ++ [.cells (l.map iW) true]) (H.length + 0) l i ex (get_app rfl rfl) hi hl) fun v G h => ?_
  obtain ⟨rfl, rfl⟩ := h
  refine ⟨fzW (l.eraseIdx i), H ++ [.dead], ?_, rfl, rfl⟩
  rw [set_app rfl, show l.length - 1 = (l.eraseIdx i).length by rw [List.length_eraseIdx_of_lt hi]]
  exact Gh.freezeL 0 0 rfl rfl erase_all (by rw [List.length_eraseIdx_of_lt hi]; omega) rfl
theorem Del_atI {x : SW} (H : VHeap) (l : List (BitVec 64)) (i : Int) (ex : Bool) (h0 : 0 ≤ i) (hi : i < l.length) (hl : l.length ≤ 1000000) : F (psys x) 35 [.slice (some (H.length + 0, 0)) l.length l.length ex 1, iI i, iI (i + 1)] (H ++ [.cells (l.map iW) true]) fun v G => v = fzW (l.eraseIdx i.toNat) ∧ G = H ++ [.dead] := by
  have := Del_at (x := x) H l i.toNat ex (by omega) hl
  rw [show ((i.toNat : Nat) : Int) = i by omega] at this
  exact this
def freeV (l : List (BitVec 64)) (i : Int) : BitVec 64 := if l.length ≤ 12 ∧ 0 ≤ i ∧ i < l.length then frW l i.toNat else 0#64

theorem Free_spec {x : SW} (H : VHeap) (l : List (BitVec 64)) (i : Int) (hl : l.length ≤ 1000000) : F (psys x) 15 [fzW l, iI i] H fun v G => v = iW (freeV l i) ∧ G = H := by
  refine F_body Tryd.func15 rfl uS4n43 rfl ?_
  refine B_seq ?_
  refine B_region ?_
  refine L_op (env' := uS4n43) rfl rfl (v_const (VVal.int .u64 0) (.inr rfl) rfl) rfl ?_
  refine L_nil ?_
  refine K_seq ?_
  refine B_seq ?_
  refine B_seq ?_
  refine B_region ?_
  refine L_op (env' := uS4n43) rfl rfl (v_move (.inl rfl) rfl) rfl ?_
  refine L_call rfl rfl rfl (by exact fits_spec _ _) ?_
  rintro _ _ ⟨rfl, rfl⟩
  refine L_env (env' := uS4n43) rfl ?_
  refine L_op (env' := uS4n43) rfl rfl (rfl) rfl ?_
  refine L_op (env' := uS4n43) rfl rfl (v_move (.inl rfl) rfl) rfl ?_
  refine L_split 11 (env1 := uS4n43) (env2 := uS4n43) rfl rfl rfl (fun hg1 => ?_) (fun hg1 => ?_)
  · try simp only [decide_eq_true_eq, decide_eq_false_iff_not, Bool.not_eq_true', Bool.not_eq_false', bne_iff_ne, beq_iff_eq, Bool.and_eq_true, Bool.or_eq_true, Bool.not_eq_true, ge_iff_le, gt_iff_lt, Int.not_le, Int.not_lt, beq_eq_false_iff_ne, bne_eq_false_iff_eq, ne_eq, Decidable.not_not, wd_zero, wd_one, wd_inj] at hg1
    refine L_off (env' := uS4n43) rfl rfl ?_
    refine L_off (env' := uS4n43) rfl rfl ?_
    refine L_op (env' := uS4n43) rfl rfl (v_pickTC (VVal.bool true) rfl rfl rfl) rfl ?_
    refine L_op (env' := uS4n43) rfl rfl (v_move (.inl rfl) rfl) rfl ?_
    refine L_off (env' := uS4n43) rfl rfl ?_
    refine L_off (env' := uS4n43) rfl rfl ?_
    refine L_off (env' := uS4n43) rfl rfl ?_
    refine L_off (env' := uS4n43) rfl rfl ?_
    refine L_op (env' := uS4n43) rfl rfl (v_pickTC (VVal.bool true) rfl rfl rfl) rfl ?_
    refine L_nil ?_
    refine K_seq ?_
    refine B_true rfl rfl ?_
    refine B_seq ?_
    refine B_region ?_
    refine L_op (env' := uS4n43) rfl rfl (v_const (VVal.int .u64 0) (.inr rfl) rfl) rfl ?_
    refine L_nil ?_
    refine K_seq ?_
    refine B_ret ?_
    refine K_seqR ?_
    refine E_app (.inr rfl) (vres_tmp rfl rfl) (by first | exact BaseOk.refl _ | exact BaseOk.set (BaseOk.refl _) _ rfl) (by first | rfl | simp [VVal.under, VVal.underL, *]) ?_
    first
      | exact ⟨by rw [freeV, if_neg (by omega)]; rfl, rfl⟩
      | exact ⟨by rw [freeV, if_pos (by omega)]; rfl, rfl⟩
  · try simp only [decide_eq_true_eq, decide_eq_false_iff_not, Bool.not_eq_true', Bool.not_eq_false', bne_iff_ne, beq_iff_eq, Bool.and_eq_true, Bool.or_eq_true, Bool.not_eq_true, ge_iff_le, gt_iff_lt, Int.not_le, Int.not_lt, beq_eq_false_iff_ne, bne_eq_false_iff_eq, ne_eq, Decidable.not_not, wd_zero, wd_one, wd_inj] at hg1
    refine L_op (env' := uS4n43) rfl rfl (v_move (.inl rfl) rfl) rfl ?_
    refine L_op (env' := uS4n43) rfl rfl (rfl) rfl ?_
    refine L_op (env' := uS4n43) rfl rfl (v_pickF rfl rfl rfl) rfl ?_
    refine L_op (env' := uS4n43) rfl rfl (v_move (.inl rfl) rfl) rfl ?_
    refine L_split 15 (env1 := uS4n43) (env2 := uS4n43) rfl rfl rfl (fun hg2 => ?_) (fun hg2 => ?_)
    · try simp only [decide_eq_true_eq, decide_eq_false_iff_not, Bool.not_eq_true', Bool.not_eq_false', bne_iff_ne, beq_iff_eq, Bool.and_eq_true, Bool.or_eq_true, Bool.not_eq_true, ge_iff_le, gt_iff_lt, Int.not_le, Int.not_lt, beq_eq_false_iff_ne, bne_eq_false_iff_eq, ne_eq, Decidable.not_not, wd_zero, wd_one, wd_inj] at hg2
      refine L_off (env' := uS4n43) rfl rfl ?_
      refine L_off (env' := uS4n43) rfl rfl ?_
      refine L_off (env' := uS4n43) rfl rfl ?_
      refine L_off (env' := uS4n43) rfl rfl ?_
      refine L_op (env' := uS4n43) rfl rfl (v_pickTC (VVal.bool true) rfl rfl rfl) rfl ?_
      refine L_nil ?_
      refine K_seq ?_
      refine B_true rfl rfl ?_
      refine B_seq ?_
      refine B_region ?_
      refine L_op (env' := uS4n43) rfl rfl (v_const (VVal.int .u64 0) (.inr rfl) rfl) rfl ?_
      refine L_nil ?_
      refine K_seq ?_
      refine B_ret ?_
      refine K_seqR ?_
      refine E_app (.inr rfl) (vres_tmp rfl rfl) (by first | exact BaseOk.refl _ | exact BaseOk.set (BaseOk.refl _) _ rfl) (by first | rfl | simp [VVal.under, VVal.underL, *]) ?_
      first
        | exact ⟨by rw [freeV, if_neg (by omega)]; rfl, rfl⟩
        | exact ⟨by rw [freeV, if_pos (by omega)]; rfl, rfl⟩
    · try simp only [decide_eq_true_eq, decide_eq_false_iff_not, Bool.not_eq_true', Bool.not_eq_false', bne_iff_ne, beq_iff_eq, Bool.and_eq_true, Bool.or_eq_true, Bool.not_eq_true, ge_iff_le, gt_iff_lt, Int.not_le, Int.not_lt, beq_eq_false_iff_ne, bne_eq_false_iff_eq, ne_eq, Decidable.not_not, wd_zero, wd_one, wd_inj] at hg2
      refine L_op (env' := uS4n43) rfl rfl (v_move (.inl rfl) rfl) rfl ?_
      refine L_op (env' := uS4n43) rfl rfl (v_move (.inl rfl) rfl) rfl ?_
      refine L_op (env' := uS4n43) rfl rfl (rfl) rfl ?_
      refine L_op (env' := uS4n43) rfl rfl (rfl) rfl ?_
      refine L_op (env' := uS4n43) rfl rfl (v_pickF rfl rfl rfl) rfl ?_
      refine L_nil ?_
      refine K_seq ?_
      refine B_cond _ rfl (fun hc3 => ?_) (fun hc3 => ?_)
      · try simp only [decide_eq_true_eq, decide_eq_false_iff_not, Bool.not_eq_true', Bool.not_eq_false', bne_iff_ne, beq_iff_eq, Bool.and_eq_true, Bool.or_eq_true, Bool.not_eq_true, ge_iff_le, gt_iff_lt, Int.not_le, Int.not_lt, beq_eq_false_iff_ne, bne_eq_false_iff_eq, ne_eq, Decidable.not_not, wd_zero, wd_one, wd_inj] at hc3
        refine B_seq ?_
        refine B_region ?_
        refine L_op (env' := uS4n43) rfl rfl (v_const (VVal.int .u64 0) (.inr rfl) rfl) rfl ?_
        refine L_nil ?_
        refine K_seq ?_
        refine B_ret ?_
        refine K_seqR ?_
        refine E_app (.inr rfl) (vres_tmp rfl rfl) (by first | exact BaseOk.refl _ | exact BaseOk.set (BaseOk.refl _) _ rfl) (by first | rfl | simp [VVal.under, VVal.underL, *]) ?_
        first
          | exact ⟨by rw [freeV, if_neg (by omega)]; rfl, rfl⟩
          | exact ⟨by rw [freeV, if_pos (by omega)]; rfl, rfl⟩
      · try simp only [decide_eq_true_eq, decide_eq_false_iff_not, Bool.not_eq_true', Bool.not_eq_false', bne_iff_ne, beq_iff_eq, Bool.and_eq_true, Bool.or_eq_true, Bool.not_eq_true, ge_iff_le, gt_iff_lt, Int.not_le, Int.not_lt, beq_eq_false_iff_ne, bne_eq_false_iff_eq, ne_eq, Decidable.not_not, wd_zero, wd_one, wd_inj] at hc3
        refine B_skip ?_
        refine K_seq ?_
        refine B_seq ?_
        refine B_region ?_
        have hne : l ≠ [] := fun e => by have h9 := congrArg List.length e; simp only [List.length_nil] at h9; omega
        refine L_op (env' := uS4n43) rfl rfl (v_move (.inl rfl) rfl) rfl ?_
        refine L_call rfl rfl rfl (by exact Clone_L _ _ _ hne hl) ?_
        rintro _ _ ⟨rfl, rfl⟩
        refine L_env (env' := uS4n43) rfl ?_
        refine L_op (env' := uS4n43) rfl rfl (v_move (.inl rfl) rfl) rfl ?_
        refine L_op (env' := uS4n43) rfl rfl (v_move (.inl rfl) rfl) rfl ?_
        refine L_op (env' := uS4n43) rfl rfl (v_addI rfl rfl rfl (by first | assumption | omega | (simp [*]; done) | (simp at *; omega))) rfl ?_
        refine L_call rfl rfl rfl (by exact Del_atI _ _ i _ (by omega) (by omega) hl) ?_
        rintro _ _ ⟨rfl, rfl⟩
        refine L_env (env' := uS4n43) rfl ?_
        refine L_op (env' := uS4n43) rfl rfl (v_alloc rfl rfl) rfl ?_
        refine L_op (env' := uS4n43) rfl rfl (v_alloc rfl rfl) rfl ?_
        refine L_op (env' := uS4n43) rfl rfl (v_storeT rfl rfl rfl rfl rfl rfl rfl (by first | exact get_app rfl rfl | exact get_out (by assumption) | assumption | (simp [*]; done)) (by first | exact Nat.le_of_ble_eq_true rfl | (simp only [List.length_map, List.length_cons, List.length_nil]; omega) | omega | (simp; done) | (simp; omega)) (by first | exact set_app rfl | exact set_out (lt_of_get (by assumption)) | rfl)) rfl ?_
        refine L_op (env' := uS4n43) rfl rfl (v_storeC (VVal.int .u64 0) rfl rfl rfl rfl rfl rfl rfl (by first | exact get_app rfl rfl | exact get_out (by assumption) | assumption | (simp [*]; done)) (by first | exact Nat.le_of_ble_eq_true rfl | (simp only [List.length_map, List.length_cons, List.length_nil]; omega) | omega | (simp; done) | (simp; omega)) (by first | exact set_app rfl | exact set_out (lt_of_get (by assumption)) | rfl)) rfl ?_
        refine L_nil ?_
        refine K_seq ?_
        refine B_seq ?_
        refine B_seq ?_
        refine B_region ?_
        refine L_op (env' := uS4n43) rfl rfl (v_move (.inl rfl) rfl) rfl ?_
        refine L_op (env' := uS4n43) rfl rfl (v_move (.inl rfl) rfl) rfl ?_
        refine L_op (env' := uS4n43) rfl rfl (by first | exact v_idxF rfl rfl rfl rfl rfl rfl rfl (by first | assumption | omega | (simp [*]; done) | (simp at *; omega)) | exact v_idx rfl rfl rfl rfl rfl rfl rfl (by first | assumption | omega | (simp [*]; done) | (simp at *; omega))) rfl ?_
        refine L_op (env' := uS4n43) rfl rfl (by first | exact v_loadF rfl rfl rfl rfl (by first | rfl | assumption | exact fget (α := BitVec 64) 0 (by omega) | exact fget (α := Int) 0 (by omega) | exact fget0 (α := BitVec 64) 0 (by omega) | exact fget0 (α := Int) 0 (by omega) | exact fget (α := Bool) false (by omega) | exact fget0 (α := Bool) false (by omega) | (simp [*]; done)) | exact v_load rfl rfl rfl rfl (by first | exact get_app rfl rfl | exact get_out (by assumption) | assumption | (simp [*]; done)) (by first | rfl | assumption | exact fget (α := BitVec 64) 0 (by omega) | exact fget (α := Int) 0 (by omega) | exact fget0 (α := BitVec 64) 0 (by omega) | exact fget0 (α := Int) 0 (by omega) | exact fget (α := Bool) false (by omega) | exact fget0 (α := Bool) false (by omega) | (simp [*]; done))) rfl ?_
        refine L_call rfl rfl rfl (by exact mset_spec _ _) ?_
        rintro _ _ ⟨rfl, rfl⟩
        refine L_env (env' := uS4n43) rfl ?_
        refine L_call rfl rfl rfl (by exact All_spec _ _) ?_
        rintro _ _ ⟨rfl, rfl⟩
        refine L_env (env' := uS4n43) rfl ?_
        refine L_nil ?_
        refine K_seq ?_
        refine B_block ?_
        refine B_clear [true,true,true,true,true,false,false,true,true,true,true,true,true,true,true,true,true,true,true,true,true,true,true,true,true,true,true,true,true,true,true,true,false,true,true,true,true,true,true,true,true,true,true] (env' := uS4n43) rfl ?_
        refine B_rangeM cI (pl (l.getD i.toNat 0) 0) (fun l0 h => by cases h) rfl (fun l G R h => All1_spec _ _ _ _ h) (σ := BitVec 64) (fun k s => H ++ [.dead, .cells [fzW (l.eraseIdx i.toNat)] true, .cells [iW s] true, k]) 0#64 (fun k => by rw [List.append_assoc]; rfl) (fun k s => by rw [List.length_append]; exact get_app rfl rfl) (fun k k1 s => by rw [List.length_append]; exact set_app rfl) (fun pre s => s = frF l i.toNat pre) ?_ (fun j pre c s => False) rfl ?_ ?_ ?_
        · rfl
        · intro pre c post s hx hI kr kb hkr hkb
          try dsimp only at hI ⊢
          subst hI
          have hc : c ∈ pl (l.getD i.toNat 0) 0 := by rw [hx]; simp
          obtain ⟨_, hc64, hcb⟩ := mem_pl.1 hc
          refine B_env (env' := uS4n43) rfl ?_
          refine B_region ?_
          refine L_op (env' := uS4n43) rfl rfl (v_move (.inr rfl) rfl) rfl ?_
          refine L_nil ?_
          refine ⟨rfl, (frF l i.toNat pre), rfl, ?_⟩
          try dsimp only
          refine B_block ?_
          refine B_seq ?_
          refine B_draw [0, 1, 2, 3] #[0, 0, 2, 7] (by kernel_rfl) (by kernel_rfl) (by kernel_rfl) ?_
          refine O_op (env' := uS4n43) (c := .look) rfl rfl rfl (by first | exact v_loadF rfl rfl rfl rfl (by first | rfl | assumption | exact fget (α := BitVec 64) 0 (by omega) | exact fget (α := Int) 0 (by omega) | exact fget0 (α := BitVec 64) 0 (by omega) | exact fget0 (α := Int) 0 (by omega) | exact fget (α := Bool) false (by omega) | exact fget0 (α := Bool) false (by omega) | (simp [*]; done)) | exact v_load rfl rfl rfl rfl (by first | exact get_app rfl rfl | exact get_out (by assumption) | assumption | (simp [*]; done)) (by first | rfl | assumption | exact fget (α := BitVec 64) 0 (by omega) | exact fget (α := Int) 0 (by omega) | exact fget0 (α := BitVec 64) 0 (by omega) | exact fget0 (α := Int) 0 (by omega) | exact fget (α := Bool) false (by omega) | exact fget0 (α := Bool) false (by omega) | (simp [*]; done))) rfl rfl rfl ?_
          refine O_op (env' := uS4n43) (c := .calm) rfl rfl rfl (v_move (.inl rfl) rfl) rfl rfl rfl ?_
          refine O_op (env' := uS4n43) (c := .calm) rfl rfl rfl (v_shl1 rfl rfl rfl (by first | assumption | omega | (simp [*]; done) | (simp at *; omega))) rfl rfl rfl ?_
          refine O_call (env' := uS4n43) rfl rfl rfl rfl rfl (by exact full_spec _ _ _ (by first | assumption | (rw [List.length_eraseIdx_of_lt (by omega)]; omega))) (by first | exact Nat.le_refl _ | simp) rfl rfl ?_
          refine O_nil [] (by kernel_rfl) (trivial) ?_
          refine K_seq ?_
          refine B_cond _ rfl (fun hc4 => ?_) (fun hc4 => ?_)
          · try simp only [decide_eq_true_eq, decide_eq_false_iff_not, Bool.not_eq_true', Bool.not_eq_false', bne_iff_ne, beq_iff_eq, Bool.and_eq_true, Bool.or_eq_true, Bool.not_eq_true, ge_iff_le, gt_iff_lt, Int.not_le, Int.not_lt, beq_eq_false_iff_ne, bne_eq_false_iff_eq, ne_eq, Decidable.not_not, wd_zero, wd_one, wd_inj] at hc4
            refine B_draw [0, 1, 2, 3, 4] #[0, 0, 2, 7, 15] (by kernel_rfl) (by kernel_rfl) (by kernel_rfl) ?_
            refine O_op (env' := uS4n43) (c := .look) rfl rfl rfl (by first | exact v_loadF rfl rfl rfl rfl (by first | rfl | assumption | exact fget (α := BitVec 64) 0 (by omega) | exact fget (α := Int) 0 (by omega) | exact fget0 (α := BitVec 64) 0 (by omega) | exact fget0 (α := Int) 0 (by omega) | exact fget (α := Bool) false (by omega) | exact fget0 (α := Bool) false (by omega) | (simp [*]; done)) | exact v_load rfl rfl rfl rfl (by first | exact get_app rfl rfl | exact get_out (by assumption) | assumption | (simp [*]; done)) (by first | rfl | assumption | exact fget (α := BitVec 64) 0 (by omega) | exact fget (α := Int) 0 (by omega) | exact fget0 (α := BitVec 64) 0 (by omega) | exact fget0 (α := Int) 0 (by omega) | exact fget (α := Bool) false (by omega) | exact fget0 (α := Bool) false (by omega) | (simp [*]; done))) rfl rfl rfl ?_
            refine O_op (env' := uS4n43) (c := .calm) rfl rfl rfl (v_move (.inl rfl) rfl) rfl rfl rfl ?_
            refine O_op (env' := uS4n43) (c := .calm) rfl rfl rfl (v_shl1 rfl rfl rfl (by first | assumption | omega | (simp [*]; done) | (simp at *; omega))) rfl rfl rfl ?_
            refine O_op (env' := uS4n43) (c := .calm) rfl rfl rfl (v_orW rfl rfl rfl) rfl rfl rfl ?_
            refine O_op (env' := uS4n43) (c := .turn) rfl rfl rfl (v_storeT rfl rfl rfl rfl rfl rfl rfl (by first | exact get_app rfl rfl | exact get_out (by assumption) | assumption | (simp [*]; done)) (by first | exact Nat.le_of_ble_eq_true rfl | (simp only [List.length_map, List.length_cons, List.length_nil]; omega) | omega | (simp; done) | (simp; omega)) (by first | exact set_app rfl | exact set_out (lt_of_get (by assumption)) | rfl)) rfl rfl rfl ?_
            refine O_nil [] (by kernel_rfl) (trivial) ?_
            refine K_blk ?_
            refine ⟨_, rfl, .inl ⟨rfl, ?_⟩⟩
            rw [frF_snoc]
            first
              | rw [if_pos (by assumption)]; rfl
              | rw [if_neg (not_of_f (by assumption))]
          · try simp only [decide_eq_true_eq, decide_eq_false_iff_not, Bool.not_eq_true', Bool.not_eq_false', bne_iff_ne, beq_iff_eq, Bool.and_eq_true, Bool.or_eq_true, Bool.not_eq_true, ge_iff_le, gt_iff_lt, Int.not_le, Int.not_lt, beq_eq_false_iff_ne, bne_eq_false_iff_eq, ne_eq, Decidable.not_not, wd_zero, wd_one, wd_inj] at hc4
            refine B_skip ?_
            refine K_blk ?_
            refine ⟨_, rfl, .inl ⟨rfl, ?_⟩⟩
            rw [frF_snoc]
            first
              | rw [if_pos (by assumption)]; rfl
              | rw [if_neg (not_of_f (by assumption))]
        · intro s k hk hI
          try dsimp only at hI ⊢
          subst hI
          refine K_blk ?_
          refine K_seq ?_
          refine B_seq ?_
          refine B_region ?_
          refine L_op (env' := uS4n43) rfl rfl (by first | exact v_loadF rfl rfl rfl rfl (by first | rfl | assumption | exact fget (α := BitVec 64) 0 (by omega) | exact fget (α := Int) 0 (by omega) | exact fget0 (α := BitVec 64) 0 (by omega) | exact fget0 (α := Int) 0 (by omega) | exact fget (α := Bool) false (by omega) | exact fget0 (α := Bool) false (by omega) | (simp [*]; done)) | exact v_load rfl rfl rfl rfl (by first | exact get_app rfl rfl | exact get_out (by assumption) | assumption | (simp [*]; done)) (by first | rfl | assumption | exact fget (α := BitVec 64) 0 (by omega) | exact fget (α := Int) 0 (by omega) | exact fget0 (α := BitVec 64) 0 (by omega) | exact fget0 (α := Int) 0 (by omega) | exact fget (α := Bool) false (by omega) | exact fget0 (α := Bool) false (by omega) | (simp [*]; done))) rfl ?_
          refine L_op (env' := uS4n43) rfl rfl (v_move (.inr rfl) rfl) rfl ?_
          refine L_nil ?_
          refine K_seq ?_
          refine B_ret ?_
          refine E_app (.inr rfl) (vres_tmp rfl rfl) (by first | exact BaseOk.refl _ | exact BaseOk.set (BaseOk.refl _) _ rfl) (by first | rfl | simp [VVal.under, VVal.underL, *]) ?_
          first
            | exact ⟨by rw [freeV, if_neg (by omega)]; rfl, rfl⟩
            | exact ⟨by rw [freeV, if_pos (by omega)]; rfl, rfl⟩
        · rintro j pre c post s k hk hx ⟨⟩
end Go.Proofs.YtpekleeidllllaaDoor.VT
