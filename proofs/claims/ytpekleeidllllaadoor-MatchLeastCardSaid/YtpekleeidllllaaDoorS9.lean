/- the reference's given, Least, Free: walks -/
import Derived.Test.YtpekleeidllllaaDoorS8
set_option autoImplicit false
set_option linter.unusedVariables false
set_option linter.unusedSimpArgs false
set_option maxHeartbeats 4000000
set_option maxRecDepth 100000
namespace Go.Proofs.YtpekleeidllllaaDoor.VT
open Go Go.V Go.RowKit

abbrev uS9n24 {a0 a1 a2 a3 a4 a5 a6 a7 a8 a9 a10 a11 a12 a13 a14 a15 a16 a17 a18 a19 a20 a21 a22 a23 : VVal} : VEnv := a0 :: a1 :: a2 :: a3 :: a4 :: a5 :: a6 :: a7 :: a8 :: a9 :: a10 :: a11 :: a12 :: a13 :: a14 :: a15 :: a16 :: a17 :: a18 :: a19 :: a20 :: a21 :: a22 :: a23 :: []

/-- the rows behind the first, without a place -/
def gvT (rows : List (BitVec 64)) (t : BitVec 64) (i : Nat) : List (BitVec 64) := msk ((rows.take i).drop 1) t
theorem gvT_len {rows : List (BitVec 64)} {t : BitVec 64} {i : Nat} (h : i ≤ rows.length) : (gvT rows t i).length = i - 1 := by
  unfold gvT; rw [msk_len, List.length_drop, List.length_take]; omega
theorem gvT_1 {rows : List (BitVec 64)} {t : BitVec 64} : gvT rows t 1 = [] := by
  unfold gvT
  cases rows <;> rfl
theorem gvT_succ {rows : List (BitVec 64)} {t : BitVec 64} {i : Nat} (h1 : 1 ≤ i) (h : i < rows.length) : gvT rows t (i + 1) = gvT rows t i ++ [rows.getD (i : Int).toNat 0 &&& ~~~t] := by
  unfold gvT msk
  rw [List.take_succ_eq_append_getElem h, List.drop_append_of_le_length (by rw [List.length_take]; omega), List.map_append, Int.toNat_natCast, List.getD_eq_getElem?_getD, List.getElem?_eq_getElem h]; rfl
theorem gvT_all {rows : List (BitVec 64)} {t : BitVec 64} {i : Nat} (h : rows.length ≤ i) : gvT rows t i = msk (rows.drop 1) t := by
  unfold gvT; rw [List.take_of_length_le h]
theorem msk_fullB {l : List (BitVec 64)} {s t : BitVec 64} : fullB (msk l s) t = fullB l (s ||| t) := by unfold fullB; rw [msk_msk, msk_len]
theorem or_z (t : BitVec 64) : 0#64 ||| t = t := by simp
theorem msk_w {w s t : BitVec 64} : (w &&& ~~~s) &&& ~~~t = w &&& ~~~(s ||| t) := word_ext fun i hi => by
  simp only [BitVec.getLsbD_and, BitVec.getLsbD_not, BitVec.getLsbD_or, hi, decide_true, Bool.true_and, Bool.not_or, Bool.and_assoc]
theorem lst_msk : ∀ {l : List (BitVec 64)} {s t : BitVec 64}, lst (msk l s) t = lst l (s ||| t)
  | [], s, t => rfl
  | w :: l, s, t => by
    show lst ((w &&& ~~~s) :: msk l s) t = _
    rw [lst, lst, msk_w]
    simp only [msk_fullB, BitVec.or_assoc, lst_msk]
theorem z_not (w : BitVec 64) : w &&& ~~~0#64 = w := word_ext fun i hi => by rw [BitVec.getLsbD_and, BitVec.getLsbD_not, BitVec.getLsbD_zero, decide_eq_true hi]; simp
/-- the first place, the rest behind it -/
theorem lst_first {w : BitVec 64} {l : List (BitVec 64)} {u : Nat} (hu : u < 64) (h1 : w.getLsbD u = true) (h2 : fullB (msk l (1#64 <<< u)) 0#64 = true) (h3 : ∀ v, v < u → w.getLsbD v = true → fullB (msk l (1#64 <<< v)) 0#64 = false) : lst (w :: l) 0#64 = u :: lst (msk l (1#64 <<< u)) 0#64 := by
  have hor : ∀ v : Nat, 0#64 ||| 1#64 <<< v = 1#64 <<< v ||| 0#64 := fun v => by simp
  have hx : pl w 0 = (List.range u).filter w.getLsbD ++ u :: pl w (u + 1) := by
    have e1 : pl w 0 = (List.range u).filter w.getLsbD ++ pl w u := by
      unfold pl
      rw [show (64 : Nat) - 0 = u + (64 - u) by omega, List.range_eq_range', List.range'_append_1 |>.symm, List.filter_append, Nat.zero_add]
    rw [e1, pl_step w u, if_pos hu, if_pos h1]
  rw [lst, z_not, hx, find_yes (c := u) (fun v hv => ?_) (by rw [hor, ← msk_fullB]; exact h2)]
  · simp only
    rw [hor, lst_msk]
  · have hv := List.mem_filter.1 hv
    rw [hor, ← msk_fullB]; exact h3 v (List.mem_range.1 hv.1) hv.2
theorem first_ex {w : BitVec 64} {l : List (BitVec 64)} (h : fullB (w :: l) 0#64 = true) : ∃ u, u < 64 ∧ w.getLsbD u = true ∧ fullB (msk l (1#64 <<< u)) 0#64 = true := by
  obtain ⟨u, h1, h2⟩ := mat_cons.1 (full0.1 h)
  exact ⟨u, BitVec.lt_of_getLsbD h1, h1, full0.2 h2⟩
theorem LV.appW {h : Nat} {X : VHeap} {v : VVal} {l : List (BitVec 64)} {w : BitVec 64} {n : Nat} (r : LV h 1 X v (l.map iW ++ [iW w]) n) : LV h 1 X v ((l ++ [w]).map iW) n := by rw [List.map_append]; exact r
theorem LV.appN {h : Nat} {X : VHeap} {v : VVal} {l : List Nat} {u : Nat} {n : Nat} (r : LV h 1 X v (l.map iN ++ [iN u]) n) : LV h 1 X v ((l ++ [u]).map iN) n := by rw [List.map_append]; exact r

theorem given_spec {x : SW} (H : VHeap) (rows : List (BitVec 64)) (u : Nat) (h62 : rows.length ≤ 1000000) : F (psys x) 32 [fzW rows, iI (u : Nat)] H fun v G => v = fzW (msk (rows.drop 1) (1#64 <<< u)) ∧ G = H := by
  refine F_body Tryd.func32 rfl uS9n24 rfl ?_
  refine B_seq ?_
  refine B_region ?_
  refine L_op (env' := uS9n24) rfl rfl (v_const (VVal.slice none 0 0 true 0) (.inr rfl) rfl) rfl ?_
  refine L_nil ?_
  refine K_seq ?_
  refine B_seq ?_
  refine B_region ?_
  refine L_op (env' := uS9n24) rfl rfl (v_const (VVal.slice none 0 0 true 0) (.inr rfl) rfl) rfl ?_
  refine L_nil ?_
  refine K_seq ?_
  refine B_seq ?_
  refine B_seq ?_
  refine B_region ?_
  refine L_op (env' := uS9n24) rfl rfl (v_const (VVal.int .i64 1) (.inr rfl) rfl) rfl ?_
  refine L_nil ?_
  refine K_seq ?_
  refine B_block ?_
  refine B_clear [false,false,true,true,true,false,false,true,true,true,true,true,true,true,true,true,true,true,true,true,true,true,true,true] (env' := uS9n24) rfl ?_
  refine B_loopE (fun (⟨i, lv⟩ : Nat × VVal) => rows.length - i) (fun (⟨i, lv⟩ : Nat × VVal) => [(5, lv), (6, iI (i : Nat))]) (fun (⟨i, lv⟩ : Nat × VVal) G => (1 ≤ i ∧ (i ≤ rows.length ∨ i = 1)) ∧ ∃ X, G = H ++ X ∧ LV H.length 1 X lv ((gvT rows (1#64 <<< u) i).map iW) (i - 1)) ⟨1, _⟩ rfl ?_ ?_
  · refine ⟨?_, ⟨_, rfl, by rw [gvT_1]; exact LV.nil _ _ _⟩⟩
    exact ⟨Nat.le_refl _, .inr rfl⟩
  rintro ⟨i, lv⟩ _ ⟨⟨hi1, hi2⟩, ⟨X, rfl, hl⟩⟩
  refine B_env (env' := uS9n24) rfl ?_
  refine B_seq ?_
  refine B_seq ?_
  refine B_region ?_
  refine L_op (env' := uS9n24) rfl rfl (v_move (.inl rfl) rfl) rfl ?_
  refine L_op (env' := uS9n24) rfl rfl (v_move (.inl rfl) rfl) rfl ?_
  refine L_op (env' := uS9n24) rfl rfl (rfl) rfl ?_
  refine L_op (env' := uS9n24) rfl rfl (rfl) rfl ?_
  refine L_nil ?_
  refine K_seq ?_
  refine B_cond _ rfl (fun hc1 => ?_) (fun hc1 => ?_)
  · try simp only [decide_eq_true_eq, decide_eq_false_iff_not, Bool.not_eq_true', Bool.not_eq_false', bne_iff_ne, beq_iff_eq, Bool.and_eq_true, Bool.or_eq_true, Bool.not_eq_true, ge_iff_le, gt_iff_lt, Int.not_le, Int.not_lt, beq_eq_false_iff_ne, bne_eq_false_iff_eq, ne_eq, Decidable.not_not, wd_zero, wd_one, wd_inj] at hc1
    refine B_skip ?_
    refine K_seq ?_
    refine B_seq ?_
    refine B_block ?_
    refine B_draw [0, 1, 2, 3, 4, 5, 6, 7, 8, 9, 10] #[0, 0, 0, 6, 14, 0, 32, 126, 254, 511, 1023] (by kernel_rfl) (by kernel_rfl) (by kernel_rfl) ?_
    refine O_op (env' := uS9n24) (c := .calm) rfl rfl rfl (v_move (.inl rfl) rfl) rfl rfl rfl ?_
    refine O_op (env' := uS9n24) (c := .calm) rfl rfl rfl (v_move (.inl rfl) rfl) rfl rfl rfl ?_
    refine O_op (env' := uS9n24) (c := .calm) rfl rfl rfl (v_move (.inl rfl) rfl) rfl rfl rfl ?_
    refine O_op (env' := uS9n24) (c := .calm) rfl rfl rfl (by first | exact v_idxF rfl rfl rfl rfl rfl rfl rfl (by first | assumption | omega | (simp [*]; done) | (simp at *; omega)) | exact v_idx rfl rfl rfl rfl rfl rfl rfl (by first | assumption | omega | (simp [*]; done) | (simp at *; omega))) rfl rfl rfl ?_
    refine O_op (env' := uS9n24) (c := .look) rfl rfl rfl (by first | exact v_loadF rfl rfl rfl rfl (by first | rfl | assumption | exact fget (α := BitVec 64) 0 (by omega) | exact fget (α := Int) 0 (by omega) | exact fget0 (α := BitVec 64) 0 (by omega) | exact fget0 (α := Int) 0 (by omega) | exact fget (α := Bool) false (by omega) | exact fget0 (α := Bool) false (by omega) | (simp [*]; done)) | exact v_load rfl rfl rfl rfl (by first | exact get_app rfl rfl | exact get_out (by assumption) | assumption | (simp [*]; done)) (by first | rfl | assumption | exact fget (α := BitVec 64) 0 (by omega) | exact fget (α := Int) 0 (by omega) | exact fget0 (α := BitVec 64) 0 (by omega) | exact fget0 (α := Int) 0 (by omega) | exact fget (α := Bool) false (by omega) | exact fget0 (α := Bool) false (by omega) | (simp [*]; done))) rfl rfl rfl ?_
    refine O_op (env' := uS9n24) (c := .calm) rfl rfl rfl (v_move (.inl rfl) rfl) rfl rfl rfl ?_
    refine O_op (env' := uS9n24) (c := .calm) rfl rfl rfl (v_shl1 rfl rfl rfl (by first | assumption | omega | (simp [*]; done) | (simp at *; omega))) rfl rfl rfl ?_
    refine O_op (env' := uS9n24) (c := .calm) rfl rfl rfl (v_andNotW rfl rfl rfl) rfl rfl rfl ?_
    refine O_op (env' := uS9n24) (c := .grow) rfl rfl rfl (v_buildSlice rfl rfl (by decide) rfl) rfl rfl rfl ?_
    refine O_opX .turn rfl rfl rfl (v_appX rfl rfl rfl rfl rfl rfl rfl hl rfl rfl (by decide) (by show (i - 1 + 1) * 8 ≤ _ ∧ i - 1 + 1 ≤ _; omega) (by decide)) rfl rfl ?_
    rintro _ _ ⟨Y1, rfl, rfl, hY1, hY2, hY3⟩
    refine O_env (env' := uS9n24) rfl ?_
    refine O_op (env' := uS9n24) (c := .calm) rfl rfl rfl (v_move (.inr rfl) rfl) rfl rfl rfl ?_
    refine O_nil [] (by kernel_rfl) (trivial) ?_
    refine K_blk ?_
    refine K_seq ?_
    refine B_region ?_
    refine L_op (env' := uS9n24) rfl rfl (v_move (.inl rfl) rfl) rfl ?_
    refine L_op (env' := uS9n24) rfl rfl (v_addI rfl rfl rfl (by first | assumption | omega | (simp [*]; done) | (simp at *; omega))) rfl ?_
    refine L_op (env' := uS9n24) rfl rfl (v_move (.inr rfl) rfl) rfl ?_
    refine L_nil ?_
    refine K_loop [false,false,true,true,true,false,false,true,true,true,true,true,true,true,true,true,true,true,true,true,true,true,true,true] (env' := uS9n24) rfl ⟨⟨i + 1, _⟩, ?_, rfl, ?_⟩
    · first | omega | (simp only []; omega)
    · exact ⟨⟨by omega, .inl (by omega)⟩, _, rfl, by rw [gvT_succ hi1 (by omega), show i + 1 - 1 = i - 1 + 1 by omega]; exact LV.appW hY3⟩
  · try simp only [decide_eq_true_eq, decide_eq_false_iff_not, Bool.not_eq_true', Bool.not_eq_false', bne_iff_ne, beq_iff_eq, Bool.and_eq_true, Bool.or_eq_true, Bool.not_eq_true, ge_iff_le, gt_iff_lt, Int.not_le, Int.not_lt, beq_eq_false_iff_ne, bne_eq_false_iff_eq, ne_eq, Decidable.not_not, wd_zero, wd_one, wd_inj] at hc1
    refine B_exit ?_
    refine K_seqX ?_
    refine K_loopX ?_
    refine K_blkX ?_
    refine K_seq ?_
    refine B_seq ?_
    refine B_region ?_
    refine L_op (env' := uS9n24) rfl rfl (v_move (.inl rfl) rfl) rfl ?_
    refine L_op (env' := uS9n24) rfl rfl (v_move (.inr rfl) rfl) rfl ?_
    refine L_nil ?_
    refine K_seq ?_
    refine B_ret ?_
    refine E_gh (.inr rfl) (vres_tmp rfl rfl) (Gh.ansLV (BaseOk.refl _) hl (mapW_under _ _)) ?_
    have hE := gvT_all (rows := rows) (t := 1#64 <<< u) (i := i) (by omega)
    have hlen : (gvT rows (1#64 <<< u) i).length = i - 1 := by unfold gvT; rw [msk_len, List.length_drop, List.length_take]; omega
    refine ⟨?_, rfl⟩
    rw [← hE]
    show _ = VVal.fsl ((gvT rows (1#64 <<< u) i).map iW) (gvT rows (1#64 <<< u) i).length 1 false
    rw [hlen]
end Go.Proofs.YtpekleeidllllaaDoor.VT
