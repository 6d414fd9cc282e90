/- order's Downs: walks -/
import Derived.Test.YteocbhgdmpdklaaDoorS6
import Derived.Test.YteocbhgdmpdklaaDoorV25
import Derived.Test.YteocbhgdmpdklaaDoorP9
set_option autoImplicit false
set_option linter.unusedVariables false
set_option linter.unusedSimpArgs false
set_option maxHeartbeats 4000000
set_option maxRecDepth 100000
namespace Go.Proofs.YteocbhgdmpdklaaDoor.VT
open Go Go.V Go.RowKit

abbrev uS13n4 {a0 a1 a2 a3 : VVal} : VEnv := a0 :: a1 :: a2 :: a3 :: []
abbrev uS13n9 {a0 a1 a2 a3 a4 a5 a6 a7 a8 : VVal} : VEnv := a0 :: a1 :: a2 :: a3 :: a4 :: a5 :: a6 :: a7 :: a8 :: []
abbrev uS13n69 {a0 a1 a2 a3 a4 a5 a6 a7 a8 a9 a10 a11 a12 a13 a14 a15 a16 a17 a18 a19 a20 a21 a22 a23 a24 a25 a26 a27 a28 a29 a30 a31 a32 a33 a34 a35 a36 a37 a38 a39 a40 a41 a42 a43 a44 a45 a46 a47 a48 a49 a50 a51 a52 a53 a54 a55 a56 a57 a58 a59 a60 a61 a62 a63 a64 a65 a66 a67 a68 : VVal} : VEnv := a0 :: a1 :: a2 :: a3 :: a4 :: a5 :: a6 :: a7 :: a8 :: a9 :: a10 :: a11 :: a12 :: a13 :: a14 :: a15 :: a16 :: a17 :: a18 :: a19 :: a20 :: a21 :: a22 :: a23 :: a24 :: a25 :: a26 :: a27 :: a28 :: a29 :: a30 :: a31 :: a32 :: a33 :: a34 :: a35 :: a36 :: a37 :: a38 :: a39 :: a40 :: a41 :: a42 :: a43 :: a44 :: a45 :: a46 :: a47 :: a48 :: a49 :: a50 :: a51 :: a52 :: a53 :: a54 :: a55 :: a56 :: a57 :: a58 :: a59 :: a60 :: a61 :: a62 :: a63 :: a64 :: a65 :: a66 :: a67 :: a68 :: []

theorem downs_0 {x : SW} (l : Nat) (R : VHeap → Prop) (ps ss : List (BitVec 64)) (hps : ps.length ≤ 64) (hss : ss.length = ps.length) (H : VHeap) (i o : BitVec 64) (rest : List VVal) (hI : Iter (psys x) l ((dwn ps ss 0 i o).map iW ++ rest) H R) (a : Int) (ha : a = -1) : F (psys x) 65 [ordV ps ss, iI a, iW i, iW o, .yield l] H fun v G => (v = .bool true ∧ Iter (psys x) l (rest) G R) ∨ (v = .bool false ∧ R G) := by
  have hI : Iter (psys x) l (iW i :: rest) (H ++ []) R := by rw [List.append_nil]; exact hI
  refine F_body Tryd.func65 rfl uS13n69 rfl ?_
  refine B_seq ?_
  refine B_region ?_
  refine L_op (env' := uS13n69) rfl rfl (v_const (VVal.bool false) (.inr rfl) rfl) rfl ?_
  refine L_nil ?_
  refine K_seq ?_
  refine B_seq ?_
  refine B_block ?_
  refine B_seq ?_
  refine B_region ?_
  refine L_op (env' := uS13n69) rfl rfl (v_move (.inl rfl) rfl) rfl ?_
  refine L_op (env' := uS13n69) rfl rfl (v_is true rfl (decide_eq_true (by omega))) rfl ?_
  refine L_op (env' := uS13n69) rfl rfl (v_move (.inr rfl) rfl) rfl ?_
  refine L_nil ?_
  refine K_seq ?_
  refine B_true rfl rfl ?_
  refine B_seq ?_
  refine B_region ?_
  refine L_op (env' := uS13n69) rfl rfl (v_move (.inl rfl) rfl) rfl ?_
  refine L_op (env' := uS13n69) rfl rfl (v_move (.inl rfl) rfl) rfl ?_
  refine L_callV rfl rfl rfl (by exact hI) ?_
  rintro _ G1 ⟨t, rfl, hrest⟩
  refine L_env (env' := uS13n69) rfl ?_
  refine L_op (env' := uS13n69) rfl rfl (v_move (.inr rfl) rfl) rfl ?_
  refine L_nil ?_
  refine K_seq ?_
  refine B_ret ?_
  refine K_blkR ?_
  refine K_seqR ?_
  refine E_keep (.inr rfl) (vres_tmp rfl rfl) ?_
  cases t with
  | true => exact .inl ⟨rfl, hrest⟩
  | false => exact .inr ⟨rfl, hrest⟩

theorem downs_s {x : SW} (l : Nat) (R : VHeap → Prop) (ps ss : List (BitVec 64)) (hps : ps.length ≤ 64) (hss : ss.length = ps.length) (k : Nat) (hk : k < ps.length) (ih : ∀ (H : VHeap) (i o : BitVec 64) (rest : List VVal), Iter (psys x) l ((dwn ps ss k i o).map iW ++ rest) H R → ∀ a : Int, a = (k : Int) - 1 → F (psys x) 65 [ordV ps ss, iI a, iW i, iW o, .yield l] H (fun v G => (v = .bool true ∧ Iter (psys x) l (rest) G R) ∨ (v = .bool false ∧ R G))) (H : VHeap) (i o : BitVec 64) (rest : List VVal) (hI : Iter (psys x) l ((dwn ps ss (k + 1) i o).map iW ++ rest) H R) (a : Int) (ha : a = k) : F (psys x) 65 [ordV ps ss, iI a, iW i, iW o, .yield l] H fun v G => (v = .bool true ∧ Iter (psys x) l (rest) G R) ∨ (v = .bool false ∧ R G) := by
  subst ha
  rw [dwn, ← List.append_nil H] at hI
  refine F_body Tryd.func65 rfl uS13n69 rfl ?_
  refine B_seq ?_
  refine B_region ?_
  refine L_op (env' := uS13n69) rfl rfl (v_const (VVal.bool false) (.inr rfl) rfl) rfl ?_
  refine L_nil ?_
  refine K_seq ?_
  refine B_seq ?_
  refine B_block ?_
  refine B_seq ?_
  refine B_region ?_
  refine L_op (env' := uS13n69) rfl rfl (v_move (.inl rfl) rfl) rfl ?_
  refine L_op (env' := uS13n69) rfl rfl (v_is false rfl (decide_eq_false (by omega))) rfl ?_
  refine L_op (env' := uS13n69) rfl rfl (v_move (.inr rfl) rfl) rfl ?_
  refine L_nil ?_
  refine K_seq ?_
  refine B_false rfl rfl ?_
  refine B_seq ?_
  refine B_region ?_
  refine L_op (env' := uS13n69) rfl rfl (v_move (.inl rfl) rfl) rfl ?_
  refine L_op (env' := uS13n69) rfl rfl (v_move (.inl rfl) rfl) rfl ?_
  refine L_op (env' := uS13n69) rfl rfl (v_orW rfl rfl rfl) rfl ?_
  refine L_call rfl rfl rfl (by exact of_spec _ _) ?_
  rintro _ _ ⟨rfl, rfl⟩
  refine L_env (env' := uS13n69) rfl ?_
  refine L_op (env' := uS13n69) rfl rfl (v_move (.inl rfl) rfl) rfl ?_
  refine L_call rfl rfl rfl (by exact Has_spec _ _ _) ?_
  rintro v _ ⟨hv, rfl⟩; obtain rfl : v = .bool ((i ||| o).getLsbD k) := hv.trans (by rw [decide_eq_true (by omega), Bool.true_and]; rfl)
  refine L_env (env' := uS13n69) rfl ?_
  refine L_op (env' := uS13n69) rfl rfl (v_move (.inr rfl) rfl) rfl ?_
  refine L_nil ?_
  refine K_seq ?_
  refine B_cond _ rfl (fun hc1 => ?_) (fun hc1 => ?_)
  · try simp only [decide_eq_true_eq, decide_eq_false_iff_not, Bool.not_eq_true', Bool.not_eq_false', bne_iff_ne, beq_iff_eq, Bool.and_eq_true, Bool.or_eq_true, Bool.not_eq_true, ge_iff_le, gt_iff_lt, Int.not_le, Int.not_lt, beq_eq_false_iff_ne, bne_eq_false_iff_eq, ne_eq, Decidable.not_not, wd_zero, wd_one, wd_inj] at hc1
    rw [if_pos hc1] at hI
    refine B_seq ?_
    refine B_region ?_
    refine L_op (env' := uS13n69) rfl rfl (v_move (.inl rfl) rfl) rfl ?_
    refine L_op (env' := uS13n69) rfl rfl (v_move (.inl rfl) rfl) rfl ?_
    refine L_op (env' := uS13n69) rfl rfl (v_subI rfl rfl rfl (by first | assumption | omega | (simp [*]; done) | (simp at *; omega))) rfl ?_
    refine L_op (env' := uS13n69) rfl rfl (v_move (.inl rfl) rfl) rfl ?_
    refine L_op (env' := uS13n69) rfl rfl (v_move (.inl rfl) rfl) rfl ?_
    refine L_op (env' := uS13n69) rfl rfl (v_move (.inl rfl) rfl) rfl ?_
    refine L_call rfl rfl rfl (by exact ih _ _ _ _ hI ((k : Int) - 1) rfl) ?_
    rintro v G hv
    refine L_env (env' := uS13n69) rfl ?_
    refine L_op (env' := uS13n69) rfl rfl (v_move (.inr rfl) rfl) rfl ?_
    refine L_nil ?_
    refine K_seq ?_
    refine B_ret ?_
    refine K_blkR ?_
    refine K_seqR ?_
    refine E_keep (.inr rfl) (vres_tmp rfl rfl) ?_
    exact hv
  · try simp only [decide_eq_true_eq, decide_eq_false_iff_not, Bool.not_eq_true', Bool.not_eq_false', bne_iff_ne, beq_iff_eq, Bool.and_eq_true, Bool.or_eq_true, Bool.not_eq_true, ge_iff_le, gt_iff_lt, Int.not_le, Int.not_lt, beq_eq_false_iff_ne, bne_eq_false_iff_eq, ne_eq, Decidable.not_not, wd_zero, wd_one, wd_inj] at hc1
    rw [if_neg (by rw [hc1]; decide), List.map_append, List.append_assoc] at hI
    refine B_skip ?_
    refine K_blk ?_
    refine K_seq ?_
    refine B_seq ?_
    refine B_drawP #[0, 0, 2, 0, 0, 0, 32, 112, 0, 256, 768, 1792, 0, 7936, 16128, 32752, 0, 131071, 262143, 524287, 524287, 1572863, 524287, 524287, 8912895, 29884415, 524287, 67633151, 201850879, 470286335, 524287, 2080899071, 4228382719, 8586264575, 524287, 524287, 68719476735, 137438953471, 274877906943] (by kernel_rfl) ?_
    refine P_seg [0, 1, 2, 3, 4, 5, 8, 9, 10, 11, 12, 13, 14, 16, 6, 7, 15] (bef := #[0, 0, 2, 0, 0, 0, 32, 112, 0, 256, 768, 1792, 0, 7936, 16128, 32752, 0, 131071, 262143, 524287, 524287, 1572863, 524287, 524287, 8912895, 29884415, 524287, 67633151, 201850879, 470286335, 524287, 2080899071, 4228382719, 8586264575, 524287, 524287, 68719476735, 137438953471, 274877906943]) (by kernel_rfl) (by kernel_rfl) (by kernel_rfl) ?_
    refine O_op (env' := uS13n69) (c := .calm) rfl rfl rfl (v_move (.inl rfl) rfl) rfl rfl rfl ?_
    refine O_op (env' := uS13n69) (c := .calm) rfl rfl rfl (v_move (.inl rfl) rfl) rfl rfl rfl ?_
    refine O_op (env' := uS13n69) (c := .calm) rfl rfl rfl (v_subI rfl rfl rfl (by first | assumption | omega | (simp [*]; done) | (simp at *; omega))) rfl rfl rfl ?_
    refine O_op (env' := uS13n69) (c := .calm) rfl rfl rfl (v_move (.inl rfl) rfl) rfl rfl rfl ?_
    refine O_op (env' := uS13n69) (c := .calm) rfl rfl rfl (v_move (.inl rfl) rfl) rfl rfl rfl ?_
    refine O_op (env' := uS13n69) (c := .calm) rfl rfl rfl (v_move (.inl rfl) rfl) rfl rfl rfl ?_
    refine O_op (env' := uS13n69) (c := .calm) rfl rfl rfl (v_move (.inl rfl) rfl) rfl rfl rfl ?_
    refine O_op (env' := uS13n69) (c := .calm) rfl rfl rfl (rfl) rfl rfl rfl ?_
    refine O_op (env' := uS13n69) (c := .calm) rfl rfl rfl (rfl) rfl rfl rfl ?_
    refine O_opI (env' := uS13n69) (x := .look _ _) rfl rfl rfl (by first | exact v_loadF rfl rfl rfl rfl (by first | rfl | assumption | exact fget (α := BitVec 64) 0 (by omega) | exact fget (α := Int) 0 (by omega) | exact fget0 (α := BitVec 64) 0 (by omega) | exact fget0 (α := Int) 0 (by omega) | exact fget (α := Bool) false (by omega) | exact fget0 (α := Bool) false (by omega) | (simp [*]; done)) | exact v_load rfl rfl rfl rfl (by first | exact get_app rfl rfl | exact get_out (by assumption) | assumption | (simp [*]; done)) (by first | rfl | assumption | exact fget (α := BitVec 64) 0 (by omega) | exact fget (α := Int) 0 (by omega) | exact fget0 (α := BitVec 64) 0 (by omega) | exact fget0 (α := Int) 0 (by omega) | exact fget (α := Bool) false (by omega) | exact fget0 (α := Bool) false (by omega) | (simp [*]; done))) rfl rfl rfl ?_
    refine O_op (env' := uS13n69) (c := .calm) rfl rfl rfl (v_move (.inl rfl) rfl) rfl rfl rfl ?_
    refine O_op (env' := uS13n69) (c := .calm) rfl rfl rfl (by first | exact v_idxF rfl rfl rfl rfl rfl rfl rfl (by first | assumption | omega | (simp [*]; done) | (simp at *; omega)) | exact v_idx rfl rfl rfl rfl rfl rfl rfl (by first | assumption | omega | (simp [*]; done) | (simp at *; omega))) rfl rfl rfl ?_
    refine O_opI (env' := uS13n69) (x := .look _ _) rfl rfl rfl (by first | exact v_loadF rfl rfl rfl rfl (by first | rfl | assumption | exact fget (α := BitVec 64) 0 (by omega) | exact fget (α := Int) 0 (by omega) | exact fget0 (α := BitVec 64) 0 (by omega) | exact fget0 (α := Int) 0 (by omega) | exact fget (α := Bool) false (by omega) | exact fget0 (α := Bool) false (by omega) | (simp [*]; done)) | exact v_load rfl rfl rfl rfl (by first | exact get_app rfl rfl | exact get_out (by assumption) | assumption | (simp [*]; done)) (by first | rfl | assumption | exact fget (α := BitVec 64) 0 (by omega) | exact fget (α := Int) 0 (by omega) | exact fget0 (α := BitVec 64) 0 (by omega) | exact fget0 (α := Int) 0 (by omega) | exact fget (α := Bool) false (by omega) | exact fget0 (α := Bool) false (by omega) | (simp [*]; done))) rfl rfl rfl ?_
    refine O_op (env' := uS13n69) (c := .calm) rfl rfl rfl (v_move (.inl rfl) rfl) rfl rfl rfl ?_
    refine O_call (env' := uS13n69) rfl rfl rfl rfl rfl (by exact one_spec _ _ (by omega)) (by first | exact Nat.le_refl _ | simp) rfl rfl ?_
    refine O_op (env' := uS13n69) (c := .calm) rfl rfl rfl (v_orW rfl rfl rfl) rfl rfl rfl ?_
    refine O_op (env' := uS13n69) (c := .calm) rfl rfl rfl (v_orW rfl rfl rfl) rfl rfl rfl ?_
    refine O_nil [_, _] (by rfl) (And.intro (And.intro (by first | exact v_loadF rfl rfl rfl rfl (by first | rfl | assumption | exact fget (α := BitVec 64) 0 (by omega) | exact fget (α := Int) 0 (by omega) | exact fget0 (α := BitVec 64) 0 (by omega) | exact fget0 (α := Int) 0 (by omega) | exact fget (α := Bool) false (by omega) | exact fget0 (α := Bool) false (by omega) | (simp [*]; done)) | exact v_load rfl rfl rfl rfl (by first | exact get_app rfl rfl | exact get_out (by assumption) | assumption | (simp [*]; done)) (by first | rfl | assumption | exact fget (α := BitVec 64) 0 (by omega) | exact fget (α := Int) 0 (by omega) | exact fget0 (α := BitVec 64) 0 (by omega) | exact fget0 (α := Int) 0 (by omega) | exact fget (α := Bool) false (by omega) | exact fget0 (α := Bool) false (by omega) | (simp [*]; done))) (by first | exact v_loadF rfl rfl rfl rfl (by first | rfl | assumption | exact fget (α := BitVec 64) 0 (by omega) | exact fget (α := Int) 0 (by omega) | exact fget0 (α := BitVec 64) 0 (by omega) | exact fget0 (α := Int) 0 (by omega) | exact fget (α := Bool) false (by omega) | exact fget0 (α := Bool) false (by omega) | (simp [*]; done)) | exact v_load rfl rfl rfl rfl (by first | exact get_app rfl rfl | exact get_out (by assumption) | assumption | (simp [*]; done)) (by first | rfl | assumption | exact fget (α := BitVec 64) 0 (by omega) | exact fget (α := Int) 0 (by omega) | exact fget0 (α := BitVec 64) 0 (by omega) | exact fget0 (α := Int) 0 (by omega) | exact fget (α := Bool) false (by omega) | exact fget0 (α := Bool) false (by omega) | (simp [*]; done)))) (And.intro (And.intro (by first | exact v_loadF rfl rfl rfl rfl (by first | rfl | assumption | exact fget (α := BitVec 64) 0 (by omega) | exact fget (α := Int) 0 (by omega) | exact fget0 (α := BitVec 64) 0 (by omega) | exact fget0 (α := Int) 0 (by omega) | exact fget (α := Bool) false (by omega) | exact fget0 (α := Bool) false (by omega) | (simp [*]; done)) | exact v_load rfl rfl rfl rfl (by first | exact get_app rfl rfl | exact get_out (by assumption) | assumption | (simp [*]; done)) (by first | rfl | assumption | exact fget (α := BitVec 64) 0 (by omega) | exact fget (α := Int) 0 (by omega) | exact fget0 (α := BitVec 64) 0 (by omega) | exact fget0 (α := Int) 0 (by omega) | exact fget (α := Bool) false (by omega) | exact fget0 (α := Bool) false (by omega) | (simp [*]; done))) (by first | exact v_loadF rfl rfl rfl rfl (by first | rfl | assumption | exact fget (α := BitVec 64) 0 (by omega) | exact fget (α := Int) 0 (by omega) | exact fget0 (α := BitVec 64) 0 (by omega) | exact fget0 (α := Int) 0 (by omega) | exact fget (α := Bool) false (by omega) | exact fget0 (α := Bool) false (by omega) | (simp [*]; done)) | exact v_load rfl rfl rfl rfl (by first | exact get_app rfl rfl | exact get_out (by assumption) | assumption | (simp [*]; done)) (by first | rfl | assumption | exact fget (α := BitVec 64) 0 (by omega) | exact fget (α := Int) 0 (by omega) | exact fget0 (α := BitVec 64) 0 (by omega) | exact fget0 (α := Int) 0 (by omega) | exact fget (α := Bool) false (by omega) | exact fget0 (α := Bool) false (by omega) | (simp [*]; done)))) trivial)) ?_
    refine P_call 17 (bef := #[0, 0, 2, 0, 0, 0, 32, 112, 0, 256, 768, 1792, 0, 7936, 16128, 32752, 0, 131071, 262143, 524287, 524287, 1572863, 524287, 524287, 8912895, 29884415, 524287, 67633151, 201850879, 470286335, 524287, 2080899071, 4228382719, 8586264575, 524287, 524287, 68719476735, 137438953471, 274877906943]) (by kernel_rfl) (by kernel_rfl) rfl rfl rfl rfl (by exact ih _ _ _ _ hI ((k : Int) - 1) rfl) ?_
    rintro _ G (⟨rfl, hI2⟩ | ⟨rfl, hR2⟩)
    · skip
      refine P_env (env' := uS13n69) rfl ?_
      refine P_seg [18, 19, 20, 21, 22, 23, 26, 27, 28, 29, 30, 31, 32, 34, 35, 24, 25, 33] (bef := #[0, 0, 2, 0, 0, 0, 32, 112, 0, 256, 768, 1792, 0, 7936, 16128, 32752, 0, 131071, 262143, 524287, 524287, 1572863, 524287, 524287, 8912895, 29884415, 524287, 67633151, 201850879, 470286335, 524287, 2080899071, 4228382719, 8586264575, 524287, 524287, 68719476735, 137438953471, 274877906943]) (by kernel_rfl) (by kernel_rfl) (by kernel_rfl) ?_
      refine O_op (env' := uS13n69) (c := .calm) rfl rfl rfl (v_move (.inl rfl) rfl) rfl rfl rfl ?_
      refine O_op (env' := uS13n69) (c := .calm) rfl rfl rfl (v_move (.inl rfl) rfl) rfl rfl rfl ?_
      refine O_op (env' := uS13n69) (c := .calm) rfl rfl rfl (v_move (.inl rfl) rfl) rfl rfl rfl ?_
      refine O_op (env' := uS13n69) (c := .calm) rfl rfl rfl (v_subI rfl rfl rfl (by first | assumption | omega | (simp [*]; done) | (simp at *; omega))) rfl rfl rfl ?_
      refine O_op (env' := uS13n69) (c := .calm) rfl rfl rfl (v_move (.inl rfl) rfl) rfl rfl rfl ?_
      refine O_op (env' := uS13n69) (c := .calm) rfl rfl rfl (v_move (.inl rfl) rfl) rfl rfl rfl ?_
      refine O_op (env' := uS13n69) (c := .calm) rfl rfl rfl (v_move (.inl rfl) rfl) rfl rfl rfl ?_
      refine O_op (env' := uS13n69) (c := .calm) rfl rfl rfl (rfl) rfl rfl rfl ?_
      refine O_op (env' := uS13n69) (c := .calm) rfl rfl rfl (rfl) rfl rfl rfl ?_
      refine O_opI (env' := uS13n69) (x := .look _ _) rfl rfl rfl (by first | exact v_loadF rfl rfl rfl rfl (by first | rfl | assumption | exact fget (α := BitVec 64) 0 (by omega) | exact fget (α := Int) 0 (by omega) | exact fget0 (α := BitVec 64) 0 (by omega) | exact fget0 (α := Int) 0 (by omega) | exact fget (α := Bool) false (by omega) | exact fget0 (α := Bool) false (by omega) | (simp [*]; done)) | exact v_load rfl rfl rfl rfl (by first | exact get_app rfl rfl | exact get_out (by assumption) | assumption | (simp [*]; done)) (by first | rfl | assumption | exact fget (α := BitVec 64) 0 (by omega) | exact fget (α := Int) 0 (by omega) | exact fget0 (α := BitVec 64) 0 (by omega) | exact fget0 (α := Int) 0 (by omega) | exact fget (α := Bool) false (by omega) | exact fget0 (α := Bool) false (by omega) | (simp [*]; done))) rfl rfl rfl ?_
      refine O_op (env' := uS13n69) (c := .calm) rfl rfl rfl (v_move (.inl rfl) rfl) rfl rfl rfl ?_
      refine O_op (env' := uS13n69) (c := .calm) rfl rfl rfl (by first | exact v_idxF rfl rfl rfl rfl rfl rfl rfl (by first | assumption | omega | (simp [*]; done) | (simp at *; omega)) | exact v_idx rfl rfl rfl rfl rfl rfl rfl (by first | assumption | omega | (simp [*]; done) | (simp at *; omega))) rfl rfl rfl ?_
      refine O_opI (env' := uS13n69) (x := .look _ _) rfl rfl rfl (by first | exact v_loadF rfl rfl rfl rfl (by first | rfl | assumption | exact fget (α := BitVec 64) 0 (by omega) | exact fget (α := Int) 0 (by omega) | exact fget0 (α := BitVec 64) 0 (by omega) | exact fget0 (α := Int) 0 (by omega) | exact fget (α := Bool) false (by omega) | exact fget0 (α := Bool) false (by omega) | (simp [*]; done)) | exact v_load rfl rfl rfl rfl (by first | exact get_app rfl rfl | exact get_out (by assumption) | assumption | (simp [*]; done)) (by first | rfl | assumption | exact fget (α := BitVec 64) 0 (by omega) | exact fget (α := Int) 0 (by omega) | exact fget0 (α := BitVec 64) 0 (by omega) | exact fget0 (α := Int) 0 (by omega) | exact fget (α := Bool) false (by omega) | exact fget0 (α := Bool) false (by omega) | (simp [*]; done))) rfl rfl rfl ?_
      refine O_op (env' := uS13n69) (c := .calm) rfl rfl rfl (v_move (.inl rfl) rfl) rfl rfl rfl ?_
      refine O_op (env' := uS13n69) (c := .calm) rfl rfl rfl (v_move (.inl rfl) rfl) rfl rfl rfl ?_
      refine O_call (env' := uS13n69) rfl rfl rfl rfl rfl (by exact one_spec _ _ (by omega)) (by first | exact Nat.le_refl _ | simp) rfl rfl ?_
      refine O_op (env' := uS13n69) (c := .calm) rfl rfl rfl (v_orW rfl rfl rfl) rfl rfl rfl ?_
      refine O_op (env' := uS13n69) (c := .calm) rfl rfl rfl (v_orW rfl rfl rfl) rfl rfl rfl ?_
      refine O_nil [_, _] (by rfl) (And.intro (And.intro (by first | exact v_loadF rfl rfl rfl rfl (by first | rfl | assumption | exact fget (α := BitVec 64) 0 (by omega) | exact fget (α := Int) 0 (by omega) | exact fget0 (α := BitVec 64) 0 (by omega) | exact fget0 (α := Int) 0 (by omega) | exact fget (α := Bool) false (by omega) | exact fget0 (α := Bool) false (by omega) | (simp [*]; done)) | exact v_load rfl rfl rfl rfl (by first | exact get_app rfl rfl | exact get_out (by assumption) | assumption | (simp [*]; done)) (by first | rfl | assumption | exact fget (α := BitVec 64) 0 (by omega) | exact fget (α := Int) 0 (by omega) | exact fget0 (α := BitVec 64) 0 (by omega) | exact fget0 (α := Int) 0 (by omega) | exact fget (α := Bool) false (by omega) | exact fget0 (α := Bool) false (by omega) | (simp [*]; done))) (by first | exact v_loadF rfl rfl rfl rfl (by first | rfl | assumption | exact fget (α := BitVec 64) 0 (by omega) | exact fget (α := Int) 0 (by omega) | exact fget0 (α := BitVec 64) 0 (by omega) | exact fget0 (α := Int) 0 (by omega) | exact fget (α := Bool) false (by omega) | exact fget0 (α := Bool) false (by omega) | (simp [*]; done)) | exact v_load rfl rfl rfl rfl (by first | exact get_app rfl rfl | exact get_out (by assumption) | assumption | (simp [*]; done)) (by first | rfl | assumption | exact fget (α := BitVec 64) 0 (by omega) | exact fget (α := Int) 0 (by omega) | exact fget0 (α := BitVec 64) 0 (by omega) | exact fget0 (α := Int) 0 (by omega) | exact fget (α := Bool) false (by omega) | exact fget0 (α := Bool) false (by omega) | (simp [*]; done)))) (And.intro (And.intro (by first | exact v_loadF rfl rfl rfl rfl (by first | rfl | assumption | exact fget (α := BitVec 64) 0 (by omega) | exact fget (α := Int) 0 (by omega) | exact fget0 (α := BitVec 64) 0 (by omega) | exact fget0 (α := Int) 0 (by omega) | exact fget (α := Bool) false (by omega) | exact fget0 (α := Bool) false (by omega) | (simp [*]; done)) | exact v_load rfl rfl rfl rfl (by first | exact get_app rfl rfl | exact get_out (by assumption) | assumption | (simp [*]; done)) (by first | rfl | assumption | exact fget (α := BitVec 64) 0 (by omega) | exact fget (α := Int) 0 (by omega) | exact fget0 (α := BitVec 64) 0 (by omega) | exact fget0 (α := Int) 0 (by omega) | exact fget (α := Bool) false (by omega) | exact fget0 (α := Bool) false (by omega) | (simp [*]; done))) (by first | exact v_loadF rfl rfl rfl rfl (by first | rfl | assumption | exact fget (α := BitVec 64) 0 (by omega) | exact fget (α := Int) 0 (by omega) | exact fget0 (α := BitVec 64) 0 (by omega) | exact fget0 (α := Int) 0 (by omega) | exact fget (α := Bool) false (by omega) | exact fget0 (α := Bool) false (by omega) | (simp [*]; done)) | exact v_load rfl rfl rfl rfl (by first | exact get_app rfl rfl | exact get_out (by assumption) | assumption | (simp [*]; done)) (by first | rfl | assumption | exact fget (α := BitVec 64) 0 (by omega) | exact fget (α := Int) 0 (by omega) | exact fget0 (α := BitVec 64) 0 (by omega) | exact fget0 (α := Int) 0 (by omega) | exact fget (α := Bool) false (by omega) | exact fget0 (α := Bool) false (by omega) | (simp [*]; done)))) trivial)) ?_
      refine P_call 36 (bef := #[0, 0, 2, 0, 0, 0, 32, 112, 0, 256, 768, 1792, 0, 7936, 16128, 32752, 0, 131071, 262143, 524287, 524287, 1572863, 524287, 524287, 8912895, 29884415, 524287, 67633151, 201850879, 470286335, 524287, 2080899071, 4228382719, 8586264575, 524287, 524287, 68719476735, 137438953471, 274877906943]) (by kernel_rfl) (by kernel_rfl) rfl rfl rfl rfl (by exact ih _ _ _ _ hI2 ((k : Int) - 1) rfl) ?_
      rintro v G2 hv
      refine P_env (env' := uS13n69) rfl ?_
      refine P_seg [37, 38] (bef := #[0, 0, 2, 0, 0, 0, 32, 112, 0, 256, 768, 1792, 0, 7936, 16128, 32752, 0, 131071, 262143, 524287, 524287, 1572863, 524287, 524287, 8912895, 29884415, 524287, 67633151, 201850879, 470286335, 524287, 2080899071, 4228382719, 8586264575, 524287, 524287, 68719476735, 137438953471, 274877906943]) (by kernel_rfl) (by kernel_rfl) (by kernel_rfl) ?_
      refine O_op (env' := uS13n69) (c := .calm) rfl rfl rfl (v_pickT rfl rfl rfl) rfl rfl rfl ?_
      refine O_op (env' := uS13n69) (c := .calm) rfl rfl rfl (v_move (.inr rfl) rfl) rfl rfl rfl ?_
      refine O_nil [] (by kernel_rfl) (trivial) ?_
      refine P_end (by kernel_rfl) ?_
      refine K_seq ?_
      refine B_ret ?_
      refine E_keep (.inr rfl) (vres_tmp rfl rfl) ?_
      exact hv
    · skip
      refine P_env (env' := uS13n69) rfl ?_
      refine P_seg [18, 19, 20, 21, 22, 23, 26, 27, 28, 29, 30, 31, 32, 34, 35, 24, 25, 33] (bef := #[0, 0, 2, 0, 0, 0, 32, 112, 0, 256, 768, 1792, 0, 7936, 16128, 32752, 0, 131071, 262143, 524287, 524287, 1572863, 524287, 524287, 8912895, 29884415, 524287, 67633151, 201850879, 470286335, 524287, 2080899071, 4228382719, 8586264575, 524287, 524287, 68719476735, 137438953471, 274877906943]) (by kernel_rfl) (by kernel_rfl) (by kernel_rfl) ?_
      refine O_op (env' := uS13n69) (c := .calm) rfl rfl rfl (v_move (.inl rfl) rfl) rfl rfl rfl ?_
      refine O_off (env' := uS13n69) rfl rfl rfl rfl ?_
      refine O_off (env' := uS13n69) rfl rfl rfl rfl ?_
      refine O_off (env' := uS13n69) rfl rfl rfl rfl ?_
      refine O_off (env' := uS13n69) rfl rfl rfl rfl ?_
      refine O_off (env' := uS13n69) rfl rfl rfl rfl ?_
      refine O_off (env' := uS13n69) rfl rfl rfl rfl ?_
      refine O_off (env' := uS13n69) rfl rfl rfl rfl ?_
      refine O_off (env' := uS13n69) rfl rfl rfl rfl ?_
      refine O_off (env' := uS13n69) rfl rfl rfl rfl ?_
      refine O_off (env' := uS13n69) rfl rfl rfl rfl ?_
      refine O_off (env' := uS13n69) rfl rfl rfl rfl ?_
      refine O_off (env' := uS13n69) rfl rfl rfl rfl ?_
      refine O_off (env' := uS13n69) rfl rfl rfl rfl ?_
      refine O_off (env' := uS13n69) rfl rfl rfl rfl ?_
      refine O_off (env' := uS13n69) rfl rfl rfl rfl ?_
      refine O_off (env' := uS13n69) rfl rfl rfl rfl ?_
      refine O_off (env' := uS13n69) rfl rfl rfl rfl ?_
      refine O_nil [] (by kernel_rfl) (trivial) ?_
      refine P_seg [36, 37, 38] (bef := #[0, 0, 2, 0, 0, 0, 32, 112, 0, 256, 768, 1792, 0, 7936, 16128, 32752, 0, 131071, 262143, 524287, 524287, 1572863, 524287, 524287, 8912895, 29884415, 524287, 67633151, 201850879, 470286335, 524287, 2080899071, 4228382719, 8586264575, 524287, 524287, 68719476735, 137438953471, 274877906943]) (by kernel_rfl) (by kernel_rfl) (by kernel_rfl) ?_
      refine O_off (env' := uS13n69) rfl rfl rfl rfl ?_
      refine O_op (env' := uS13n69) (c := .calm) rfl rfl rfl (v_pickFC (VVal.bool false) rfl rfl rfl) rfl rfl rfl ?_
      refine O_op (env' := uS13n69) (c := .calm) rfl rfl rfl (v_move (.inr rfl) rfl) rfl rfl rfl ?_
      refine O_nil [] (by kernel_rfl) (trivial) ?_
      refine P_end (by kernel_rfl) ?_
      refine K_seq ?_
      refine B_ret ?_
      refine E_keep (.inr rfl) (vres_tmp rfl rfl) ?_
      exact .inr ⟨rfl, hR2⟩

theorem downs_spec {x : SW} (l : Nat) (R : VHeap → Prop) (ps ss : List (BitVec 64)) (hps : ps.length ≤ 64) (hss : ss.length = ps.length) : ∀ (k : Nat), k ≤ ps.length → ∀ (H : VHeap) (i o : BitVec 64) (rest : List VVal), Iter (psys x) l ((dwn ps ss k i o).map iW ++ rest) H R → ∀ a : Int, a = (k : Int) - 1 → F (psys x) 65 [ordV ps ss, iI a, iW i, iW o, .yield l] H (fun v G => (v = .bool true ∧ Iter (psys x) l (rest) G R) ∨ (v = .bool false ∧ R G))
  | 0, _, H, i, o, rest, hI, a, ha => downs_0 l R ps ss hps hss H i o rest hI a (by omega)
  | k + 1, hk, H, i, o, rest, hI, a, ha => downs_s l R ps ss hps hss k (by omega) (fun H i o rest hI a ha => downs_spec l R ps ss hps hss k (by omega) H i o rest hI a ha) H i o rest hI a (by omega)

theorem Downs1_spec {x : SW} (l : Nat) (R : VHeap → Prop) (ps ss : List (BitVec 64)) (hps : ps.length ≤ 64) (hss : ss.length = ps.length) (H : VHeap) (hI : Iter (psys x) l ((dwn ps ss ps.length 0#64 0#64).map iW) H R) : F (psys x) 64 ([.yield l] ++ [.fptr [ordV ps ss] 0]) H fun v G => R G := by
  refine F_body Tryd.func64 rfl uS13n9 rfl ?_
  refine B_drawP #[0, 0, 2, 6, 0, 31] (by kernel_rfl) ?_
  refine P_seg [0, 1, 4, 2, 3] (bef := #[0, 0, 2, 6, 0, 31]) (by kernel_rfl) (by kernel_rfl) (by kernel_rfl) ?_
  refine O_opI (env' := uS13n9) (x := .look _ _) rfl rfl rfl (by first | exact v_loadF rfl rfl rfl rfl (by first | rfl | assumption | exact fget (α := BitVec 64) 0 (by omega) | exact fget (α := Int) 0 (by omega) | exact fget0 (α := BitVec 64) 0 (by omega) | exact fget0 (α := Int) 0 (by omega) | exact fget (α := Bool) false (by omega) | exact fget0 (α := Bool) false (by omega) | (simp [*]; done)) | exact v_load rfl rfl rfl rfl (by first | exact get_app rfl rfl | exact get_out (by assumption) | assumption | (simp [*]; done)) (by first | rfl | assumption | exact fget (α := BitVec 64) 0 (by omega) | exact fget (α := Int) 0 (by omega) | exact fget0 (α := BitVec 64) 0 (by omega) | exact fget0 (α := Int) 0 (by omega) | exact fget (α := Bool) false (by omega) | exact fget0 (α := Bool) false (by omega) | (simp [*]; done))) rfl rfl rfl ?_
  refine O_op (env' := uS13n9) (c := .look) rfl rfl rfl (by first | exact v_loadF rfl rfl rfl rfl (by first | rfl | assumption | exact fget (α := BitVec 64) 0 (by omega) | exact fget (α := Int) 0 (by omega) | exact fget0 (α := BitVec 64) 0 (by omega) | exact fget0 (α := Int) 0 (by omega) | exact fget (α := Bool) false (by omega) | exact fget0 (α := Bool) false (by omega) | (simp [*]; done)) | exact v_load rfl rfl rfl rfl (by first | exact get_app rfl rfl | exact get_out (by assumption) | assumption | (simp [*]; done)) (by first | rfl | assumption | exact fget (α := BitVec 64) 0 (by omega) | exact fget (α := Int) 0 (by omega) | exact fget0 (α := BitVec 64) 0 (by omega) | exact fget0 (α := Int) 0 (by omega) | exact fget (α := Bool) false (by omega) | exact fget0 (α := Bool) false (by omega) | (simp [*]; done))) rfl rfl rfl ?_
  refine O_op (env' := uS13n9) (c := .calm) rfl rfl rfl (v_move (.inl rfl) rfl) rfl rfl rfl ?_
  refine O_call (env' := uS13n9) rfl rfl rfl rfl rfl (by exact Len_spec _ _ _) (by first | exact Nat.le_refl _ | simp) rfl rfl ?_
  refine O_op (env' := uS13n9) (c := .calm) rfl rfl rfl (v_subI rfl rfl rfl (by first | assumption | omega | (simp [*]; done) | (simp at *; omega))) rfl rfl rfl ?_
  refine O_nil [_] (by rfl) (And.intro (And.intro (by first | exact v_loadF rfl rfl rfl rfl (by first | rfl | assumption | exact fget (α := BitVec 64) 0 (by omega) | exact fget (α := Int) 0 (by omega) | exact fget0 (α := BitVec 64) 0 (by omega) | exact fget0 (α := Int) 0 (by omega) | exact fget (α := Bool) false (by omega) | exact fget0 (α := Bool) false (by omega) | (simp [*]; done)) | exact v_load rfl rfl rfl rfl (by first | exact get_app rfl rfl | exact get_out (by assumption) | assumption | (simp [*]; done)) (by first | rfl | assumption | exact fget (α := BitVec 64) 0 (by omega) | exact fget (α := Int) 0 (by omega) | exact fget0 (α := BitVec 64) 0 (by omega) | exact fget0 (α := Int) 0 (by omega) | exact fget (α := Bool) false (by omega) | exact fget0 (α := Bool) false (by omega) | (simp [*]; done))) (by first | exact v_loadF rfl rfl rfl rfl (by first | rfl | assumption | exact fget (α := BitVec 64) 0 (by omega) | exact fget (α := Int) 0 (by omega) | exact fget0 (α := BitVec 64) 0 (by omega) | exact fget0 (α := Int) 0 (by omega) | exact fget (α := Bool) false (by omega) | exact fget0 (α := Bool) false (by omega) | (simp [*]; done)) | exact v_load rfl rfl rfl rfl (by first | exact get_app rfl rfl | exact get_out (by assumption) | assumption | (simp [*]; done)) (by first | rfl | assumption | exact fget (α := BitVec 64) 0 (by omega) | exact fget (α := Int) 0 (by omega) | exact fget0 (α := BitVec 64) 0 (by omega) | exact fget0 (α := Int) 0 (by omega) | exact fget (α := Bool) false (by omega) | exact fget0 (α := Bool) false (by omega) | (simp [*]; done)))) trivial) ?_
  refine P_call 5 (bef := #[0, 0, 2, 6, 0, 31]) (by kernel_rfl) (by kernel_rfl) rfl rfl rfl rfl (by exact downs_spec l R ps ss hps hss ps.length (Nat.le_refl _) _ 0#64 0#64 [] (by simp only [List.append_nil]; exact hI) _ rfl) ?_
  rintro v G hv; have hR : R G := hv.elim (fun h => h.2) fun h => h.2
  refine P_env (env' := uS13n9) rfl ?_
  refine P_end (by kernel_rfl) ?_
  refine E_keep (.inl rfl) (vres_none rfl) ?_
  exact hR

theorem Downs_spec {x : SW} (H : VHeap) (ps ss : List (BitVec 64)) : F (psys x) 20 [ordV ps ss] H fun v G => v = .func 64 [] [.fptr [ordV ps ss] 0] ∧ G = H := by
  refine F_body Tryd.func20 rfl uS13n4 rfl ?_
  refine B_seq ?_
  refine B_region ?_
  refine L_op (env' := uS13n4) rfl rfl (v_boxT rfl rfl rfl) rfl ?_
  refine L_op (env' := uS13n4) rfl rfl (v_const (VVal.nilFunc) (.inr rfl) rfl) rfl ?_
  refine L_nil ?_
  refine K_seq ?_
  refine B_seq ?_
  refine B_region ?_
  refine L_op (env' := uS13n4) rfl rfl (v_func [_] rfl rfl) rfl ?_
  refine L_op (env' := uS13n4) rfl rfl (v_move (.inr rfl) rfl) rfl ?_
  refine L_nil ?_
  refine K_seq ?_
  refine B_ret ?_
  refine E_gh (.inr rfl) (vres_tmp rfl rfl) (Gh.cap1 (BaseOk.refl _) (j := 0) rfl (by simp [VVal.underL, ord_under])) ?_
  exact ⟨rfl, rfl⟩
end Go.Proofs.YteocbhgdmpdklaaDoor.VT
