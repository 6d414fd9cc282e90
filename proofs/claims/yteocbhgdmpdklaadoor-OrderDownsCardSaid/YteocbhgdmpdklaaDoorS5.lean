/- orders: Ready, Down; walks -/
import Derived.Test.YteocbhgdmpdklaaDoorS4
import Derived.Test.YteocbhgdmpdklaaDoorP4
set_option autoImplicit false
set_option linter.unusedVariables false
set_option linter.unusedSimpArgs false
set_option maxHeartbeats 4000000
set_option maxRecDepth 100000
namespace Go.Proofs.YteocbhgdmpdklaaDoor.VT
open Go Go.V

abbrev uS5n26 {a0 a1 a2 a3 a4 a5 a6 a7 a8 a9 a10 a11 a12 a13 a14 a15 a16 a17 a18 a19 a20 a21 a22 a23 a24 a25 : VVal} : VEnv := a0 :: a1 :: a2 :: a3 :: a4 :: a5 :: a6 :: a7 :: a8 :: a9 :: a10 :: a11 :: a12 :: a13 :: a14 :: a15 :: a16 :: a17 :: a18 :: a19 :: a20 :: a21 :: a22 :: a23 :: a24 :: a25 :: []
abbrev uS5n30 {a0 a1 a2 a3 a4 a5 a6 a7 a8 a9 a10 a11 a12 a13 a14 a15 a16 a17 a18 a19 a20 a21 a22 a23 a24 a25 a26 a27 a28 a29 : VVal} : VEnv := a0 :: a1 :: a2 :: a3 :: a4 :: a5 :: a6 :: a7 :: a8 :: a9 :: a10 :: a11 :: a12 :: a13 :: a14 :: a15 :: a16 :: a17 :: a18 :: a19 :: a20 :: a21 :: a22 :: a23 :: a24 :: a25 :: a26 :: a27 :: a28 :: a29 :: []

theorem Ready_spec {x : SW} (H : VHeap) (ps ss : List (BitVec 64)) (hl : ps.length ≤ 64) (d : BitVec 64) : F (psys x) 22 [ordV ps ss, iW d] H fun v G => v = iW (readyW ps d) ∧ G = H := by
  refine F_body Tryd.func22 rfl uS5n30 rfl ?_
  refine B_seq ?_
  refine B_region ?_
  refine L_op (env' := uS5n30) rfl rfl (v_const (VVal.int .u64 0) (.inr rfl) rfl) rfl ?_
  refine L_nil ?_
  refine K_seq ?_
  refine B_seq ?_
  refine B_region ?_
  refine L_op (env' := uS5n30) rfl rfl (v_const (VVal.int .u64 0) (.inr rfl) rfl) rfl ?_
  refine L_nil ?_
  refine K_seq ?_
  refine B_seq ?_
  refine B_seq ?_
  refine B_region ?_
  refine L_op (env' := uS5n30) rfl rfl (v_move (.inl rfl) rfl) rfl ?_
  refine L_op (env' := uS5n30) rfl rfl (rfl) rfl ?_
  refine L_op (env' := uS5n30) rfl rfl (rfl) rfl ?_
  refine L_op (env' := uS5n30) rfl rfl (by first | exact v_loadF rfl rfl rfl rfl (by first | rfl | assumption | exact fget (α := BitVec 64) 0 (by omega) | exact fget (α := Int) 0 (by omega) | exact fget0 (α := BitVec 64) 0 (by omega) | exact fget0 (α := Int) 0 (by omega) | exact fget (α := Bool) false (by omega) | exact fget0 (α := Bool) false (by omega) | (simp [*]; done)) | exact v_load rfl rfl rfl rfl (by first | exact get_app rfl rfl | exact get_out (by assumption) | assumption | (simp [*]; done)) (by first | rfl | assumption | exact fget (α := BitVec 64) 0 (by omega) | exact fget (α := Int) 0 (by omega) | exact fget0 (α := BitVec 64) 0 (by omega) | exact fget0 (α := Int) 0 (by omega) | exact fget (α := Bool) false (by omega) | exact fget0 (α := Bool) false (by omega) | (simp [*]; done))) rfl ?_
  refine L_op (env' := uS5n30) rfl rfl (rfl) rfl ?_
  refine L_op (env' := uS5n30) rfl rfl (v_const (VVal.int .i64 0) (.inl rfl) rfl) rfl ?_
  refine L_nil ?_
  refine K_seq ?_
  refine B_block ?_
  refine B_clear [true,false,true,true,true,false,true,true,true,true,true,false,false,false,true,true,true,true,true,true,true,true,true,true,true,true,true,true,true,true] (env' := uS5n30) rfl ?_
  refine B_loopE (fun (k : Nat) => ps.length - k) (fun (k : Nat) => [(5, iW (rdyN ps d k)), (13, iI (k : Nat))]) (fun (k : Nat) G => (k ≤ ps.length) ∧ G = H ++ []) 0 (by rw [rdyN_0]; rfl) ?_ ?_
  · refine ⟨?_, rfl⟩
    exact Nat.zero_le _
  rintro k _ ⟨hk, rfl⟩
  refine B_env (env' := uS5n30) rfl ?_
  refine B_seq ?_
  refine B_region ?_
  refine L_op (env' := uS5n30) rfl rfl (rfl) rfl ?_
  refine L_nil ?_
  refine K_seq ?_
  refine B_seq ?_
  refine B_cond _ rfl (fun hc1 => ?_) (fun hc1 => ?_)
  · try simp only [decide_eq_true_eq, decide_eq_false_iff_not, Bool.not_eq_true', Bool.not_eq_false', bne_iff_ne, beq_iff_eq, Bool.and_eq_true, Bool.or_eq_true, Bool.not_eq_true, ge_iff_le, gt_iff_lt, Int.not_le, Int.not_lt, beq_eq_false_iff_ne, bne_eq_false_iff_eq, ne_eq, Decidable.not_not, wd_zero, wd_one, wd_inj] at hc1
    refine B_skip ?_
    refine K_seq ?_
    refine B_seq ?_
    refine B_block ?_
    refine B_seq ?_
    refine B_region ?_
    refine L_op (env' := uS5n30) rfl rfl (v_move (.inl rfl) rfl) rfl ?_
    refine L_op (env' := uS5n30) rfl rfl (by first | exact v_idxF rfl rfl rfl rfl rfl rfl rfl (by first | assumption | omega | (simp [*]; done) | (simp at *; omega)) | exact v_idx rfl rfl rfl rfl rfl rfl rfl (by first | assumption | omega | (simp [*]; done) | (simp at *; omega))) rfl ?_
    refine L_op (env' := uS5n30) rfl rfl (by first | exact v_loadF rfl rfl rfl rfl (by first | rfl | assumption | exact fget (α := BitVec 64) 0 (by omega) | exact fget (α := Int) 0 (by omega) | exact fget0 (α := BitVec 64) 0 (by omega) | exact fget0 (α := Int) 0 (by omega) | exact fget (α := Bool) false (by omega) | exact fget0 (α := Bool) false (by omega) | (simp [*]; done)) | exact v_load rfl rfl rfl rfl (by first | exact get_app rfl rfl | exact get_out (by assumption) | assumption | (simp [*]; done)) (by first | rfl | assumption | exact fget (α := BitVec 64) 0 (by omega) | exact fget (α := Int) 0 (by omega) | exact fget0 (α := BitVec 64) 0 (by omega) | exact fget0 (α := Int) 0 (by omega) | exact fget (α := Bool) false (by omega) | exact fget0 (α := Bool) false (by omega) | (simp [*]; done))) rfl ?_
    refine L_op (env' := uS5n30) rfl rfl (v_move (.inr rfl) rfl) rfl ?_
    refine L_op (env' := uS5n30) rfl rfl (v_move (.inr rfl) rfl) rfl ?_
    refine L_nil ?_
    refine K_seq ?_
    refine B_seq ?_
    refine B_region ?_
    refine L_op (env' := uS5n30) rfl rfl (v_move (.inl rfl) rfl) rfl ?_
    refine L_op (env' := uS5n30) rfl rfl (v_move (.inl rfl) rfl) rfl ?_
    refine L_op (env' := uS5n30) rfl rfl (v_andNotW rfl rfl rfl) rfl ?_
    refine L_op (env' := uS5n30) rfl rfl (rfl) rfl ?_
    refine L_nil ?_
    refine K_seq ?_
    refine B_cond _ rfl (fun hc2 => ?_) (fun hc2 => ?_)
    · try simp only [decide_eq_true_eq, decide_eq_false_iff_not, Bool.not_eq_true', Bool.not_eq_false', bne_iff_ne, beq_iff_eq, Bool.and_eq_true, Bool.or_eq_true, Bool.not_eq_true, ge_iff_le, gt_iff_lt, Int.not_le, Int.not_lt, beq_eq_false_iff_ne, bne_eq_false_iff_eq, ne_eq, Decidable.not_not, wd_zero, wd_one, wd_inj] at hc2
      refine B_region ?_
      refine L_op (env' := uS5n30) rfl rfl (v_move (.inl rfl) rfl) rfl ?_
      refine L_op (env' := uS5n30) rfl rfl (v_move (.inl rfl) rfl) rfl ?_
      refine L_call rfl rfl rfl (by exact one_spec _ _ (by omega)) ?_
      rintro _ _ ⟨rfl, rfl⟩
      refine L_env (env' := uS5n30) rfl ?_
      refine L_op (env' := uS5n30) rfl rfl (v_orW rfl rfl rfl) rfl ?_
      refine L_op (env' := uS5n30) rfl rfl (v_move (.inr rfl) rfl) rfl ?_
      refine L_nil ?_
      refine K_blk ?_
      refine K_seq ?_
      refine B_region ?_
      refine L_op (env' := uS5n30) rfl rfl (v_addI rfl rfl rfl (by first | assumption | omega | (simp [*]; done) | (simp at *; omega))) rfl ?_
      refine L_op (env' := uS5n30) rfl rfl (v_move (.inl rfl) rfl) rfl ?_
      refine L_nil ?_
      first
        | (have hE : rdyN ps d k ||| 1#64 <<< (k : Int).toNat = rdyN ps d (k + 1) := rdyN_yes (by assumption)); rw [hE]
        | (have hE : rdyN ps d k = rdyN ps d (k + 1) := rdyN_no (by assumption)); rw [hE]
      refine K_loop [true,false,true,true,true,false,true,true,true,true,true,false,false,false,true,true,true,true,true,true,true,true,true,true,true,true,true,true,true,true] (env' := uS5n30) rfl ⟨k + 1, ?_, rfl, ?_⟩
      · first | omega | (simp only []; omega)
      · exact ⟨by omega, rfl⟩
    · try simp only [decide_eq_true_eq, decide_eq_false_iff_not, Bool.not_eq_true', Bool.not_eq_false', bne_iff_ne, beq_iff_eq, Bool.and_eq_true, Bool.or_eq_true, Bool.not_eq_true, ge_iff_le, gt_iff_lt, Int.not_le, Int.not_lt, beq_eq_false_iff_ne, bne_eq_false_iff_eq, ne_eq, Decidable.not_not, wd_zero, wd_one, wd_inj] at hc2
      refine B_skip ?_
      refine K_blk ?_
      refine K_seq ?_
      refine B_region ?_
      refine L_op (env' := uS5n30) rfl rfl (v_addI rfl rfl rfl (by first | assumption | omega | (simp [*]; done) | (simp at *; omega))) rfl ?_
      refine L_op (env' := uS5n30) rfl rfl (v_move (.inl rfl) rfl) rfl ?_
      refine L_nil ?_
      first
        | (have hE : rdyN ps d k ||| 1#64 <<< (k : Int).toNat = rdyN ps d (k + 1) := rdyN_yes (by assumption)); rw [hE]
        | (have hE : rdyN ps d k = rdyN ps d (k + 1) := rdyN_no (by assumption)); rw [hE]
      refine K_loop [true,false,true,true,true,false,true,true,true,true,true,false,false,false,true,true,true,true,true,true,true,true,true,true,true,true,true,true,true,true] (env' := uS5n30) rfl ⟨k + 1, ?_, rfl, ?_⟩
      · first | omega | (simp only []; omega)
      · exact ⟨by omega, rfl⟩
  · try simp only [decide_eq_true_eq, decide_eq_false_iff_not, Bool.not_eq_true', Bool.not_eq_false', bne_iff_ne, beq_iff_eq, Bool.and_eq_true, Bool.or_eq_true, Bool.not_eq_true, ge_iff_le, gt_iff_lt, Int.not_le, Int.not_lt, beq_eq_false_iff_ne, bne_eq_false_iff_eq, ne_eq, Decidable.not_not, wd_zero, wd_one, wd_inj] at hc1
    refine B_exit ?_
    refine K_seqX ?_
    refine K_loopX ?_
    refine K_blkX ?_
    refine K_seq ?_
    refine B_seq ?_
    refine B_region ?_
    refine L_op (env' := uS5n30) rfl rfl (v_move (.inl rfl) rfl) rfl ?_
    refine L_op (env' := uS5n30) rfl rfl (v_move (.inl rfl) rfl) rfl ?_
    refine L_op (env' := uS5n30) rfl rfl (v_andNotW rfl rfl rfl) rfl ?_
    refine L_op (env' := uS5n30) rfl rfl (v_move (.inr rfl) rfl) rfl ?_
    refine L_nil ?_
    refine K_seq ?_
    refine B_ret ?_
    refine E_app (.inr rfl) (vres_tmp rfl rfl) (by first | exact BaseOk.refl _ | exact BaseOk.set (BaseOk.refl _) _ rfl) (by first | rfl | simp [VVal.under, VVal.underL, *]) ?_
    obtain rfl : k = ps.length := by omega
    exact ⟨rfl, rfl⟩

theorem Down_spec {x : SW} (H : VHeap) (ps ss : List (BitVec 64)) (w : BitVec 64) : F (psys x) 23 [ordV ps ss, iW w] H fun v G => v = .bool (downW ps w) ∧ G = H := by
  refine F_body Tryd.func23 rfl uS5n26 rfl ?_
  refine B_seq ?_
  refine B_region ?_
  refine L_op (env' := uS5n26) rfl rfl (v_boxT rfl rfl rfl) rfl ?_
  refine L_op (env' := uS5n26) rfl rfl (v_boxT rfl rfl rfl) rfl ?_
  refine L_op (env' := uS5n26) rfl rfl (v_alloc rfl rfl) rfl ?_
  refine L_nil ?_
  refine K_seq ?_
  refine B_seq ?_
  refine B_seq ?_
  refine B_region ?_
  refine L_op (env' := uS5n26) rfl rfl (by first | exact v_loadF rfl rfl rfl rfl (by first | rfl | assumption | exact fget (α := BitVec 64) 0 (by omega) | exact fget (α := Int) 0 (by omega) | exact fget0 (α := BitVec 64) 0 (by omega) | exact fget0 (α := Int) 0 (by omega) | exact fget (α := Bool) false (by omega) | exact fget0 (α := Bool) false (by omega) | (simp [*]; done)) | exact v_load rfl rfl rfl rfl (by first | exact get_app rfl rfl | exact get_out (by assumption) | assumption | (simp [*]; done)) (by first | rfl | assumption | exact fget (α := BitVec 64) 0 (by omega) | exact fget (α := Int) 0 (by omega) | exact fget0 (α := BitVec 64) 0 (by omega) | exact fget0 (α := Int) 0 (by omega) | exact fget (α := Bool) false (by omega) | exact fget0 (α := Bool) false (by omega) | (simp [*]; done))) rfl ?_
  refine L_call rfl rfl rfl (by exact of_spec _ _) ?_
  rintro _ _ ⟨rfl, rfl⟩
  refine L_env (env' := uS5n26) rfl ?_
  refine L_call rfl rfl rfl (by exact All_spec _ _) ?_
  rintro _ _ ⟨rfl, rfl⟩
  refine L_env (env' := uS5n26) rfl ?_
  refine L_nil ?_
  refine K_seq ?_
  refine B_block ?_
  refine B_clear [true,true,false,false,false,true,true,true,false,true,true,true,true,true,true,true,true,true,true,true,true,true,true,true,true,true] (env' := uS5n26) rfl ?_
  refine B_rangeM cI (pl w 0) (fun l0 h => by cases h) rfl (fun l G R h => All1_spec _ _ _ _ h) (σ := Unit) (fun k s => H ++ [.cells [ordV ps ss] true, .cells [iW w] true, .cells [.bool false] true, k]) () (fun k => by rw [List.append_assoc]; rfl) (fun k s => by rw [List.length_append]; exact get_app rfl rfl) (fun k k1 s => by rw [List.length_append]; exact set_app rfl) (fun pre s => ∀ b, b ∈ pre → downA ps w b = true) ?_ (fun j pre c s => (j = Code.ret ∧ (downW ps w = false))) rfl ?_ ?_ ?_
  · exact fun b h => by cases h
  · intro pre c post s hx hI kr kb hkr hkb
    try dsimp only at hI ⊢
    have hc : c ∈ pl w 0 := by rw [hx]; simp
    obtain ⟨_, hc64, hcb⟩ := mem_pl.1 hc
    refine B_env (env' := uS5n26) rfl ?_
    refine B_region ?_
    refine L_op (env' := uS5n26) rfl rfl (v_move (.inr rfl) rfl) rfl ?_
    refine L_nil ?_
    refine ⟨rfl, (), rfl, ?_⟩
    try dsimp only
    refine B_block ?_
    refine B_seq ?_
    refine B_draw [0, 1, 2, 3, 4, 5, 6, 7, 8, 9, 10, 11, 12, 13, 14, 15] #[0, 0, 3, 7, 15, 31, 63, 127, 255, 31, 1023, 2047, 31, 8191, 16383, 32767] (by kernel_rfl) (by kernel_rfl) (by kernel_rfl) ?_
    refine O_op (env' := uS5n26) (c := .look) rfl rfl rfl (by first | exact v_loadF rfl rfl rfl rfl (by first | rfl | assumption | exact fget (α := BitVec 64) 0 (by omega) | exact fget (α := Int) 0 (by omega) | exact fget0 (α := BitVec 64) 0 (by omega) | exact fget0 (α := Int) 0 (by omega) | exact fget (α := Bool) false (by omega) | exact fget0 (α := Bool) false (by omega) | (simp [*]; done)) | exact v_load rfl rfl rfl rfl (by first | exact get_app rfl rfl | exact get_out (by assumption) | assumption | (simp [*]; done)) (by first | rfl | assumption | exact fget (α := BitVec 64) 0 (by omega) | exact fget (α := Int) 0 (by omega) | exact fget0 (α := BitVec 64) 0 (by omega) | exact fget0 (α := Int) 0 (by omega) | exact fget (α := Bool) false (by omega) | exact fget0 (α := Bool) false (by omega) | (simp [*]; done))) rfl rfl rfl ?_
    refine O_op (env' := uS5n26) (c := .calm) rfl rfl rfl (v_move (.inl rfl) rfl) rfl rfl rfl ?_
    refine O_call (env' := uS5n26) rfl rfl rfl rfl rfl (by exact is_spec _ _ _ _) (by first | exact Nat.le_refl _ | simp) rfl rfl ?_
    refine O_op (env' := uS5n26) (c := .calm) rfl rfl rfl (rfl) rfl rfl rfl ?_
    refine O_op (env' := uS5n26) (c := .calm) rfl rfl rfl (v_move (.inl rfl) rfl) rfl rfl rfl ?_
    refine O_split 14 (env1 := uS5n26) (env2 := uS5n26) rfl rfl rfl (fun hg1 => ?_) (fun hg1 => ?_)
    · try simp only [decide_eq_true_eq, decide_eq_false_iff_not, Bool.not_eq_true', Bool.not_eq_false', bne_iff_ne, beq_iff_eq, Bool.and_eq_true, Bool.or_eq_true, Bool.not_eq_true, ge_iff_le, gt_iff_lt, Int.not_le, Int.not_lt, beq_eq_false_iff_ne, bne_eq_false_iff_eq, ne_eq, Decidable.not_not, wd_zero, wd_one, wd_inj] at hg1
      refine O_off (env' := uS5n26) rfl rfl rfl rfl ?_
      refine O_off (env' := uS5n26) rfl rfl rfl rfl ?_
      refine O_off (env' := uS5n26) rfl rfl rfl rfl ?_
      refine O_off (env' := uS5n26) rfl rfl rfl rfl ?_
      refine O_off (env' := uS5n26) rfl rfl rfl rfl ?_
      refine O_off (env' := uS5n26) rfl rfl rfl rfl ?_
      refine O_off (env' := uS5n26) rfl rfl rfl rfl ?_
      refine O_off (env' := uS5n26) rfl rfl rfl rfl ?_
      refine O_off (env' := uS5n26) rfl rfl rfl rfl ?_
      refine O_off (env' := uS5n26) rfl rfl rfl rfl ?_
      refine O_op (env' := uS5n26) (c := .calm) rfl rfl rfl (v_pickTC (VVal.bool true) rfl rfl rfl) rfl rfl rfl ?_
      refine O_nil [] (by kernel_rfl) (trivial) ?_
      refine K_seq ?_
      refine B_true rfl rfl ?_
      refine B_seq ?_
      refine B_region ?_
      refine L_op (env' := uS5n26) rfl rfl (v_storeC (VVal.bool false) rfl rfl rfl rfl rfl rfl rfl (by first | exact get_app rfl rfl | exact get_out (by assumption) | assumption | (simp [*]; done)) (by first | exact Nat.le_of_ble_eq_true rfl | (simp only [List.length_map, List.length_cons, List.length_nil]; omega) | omega | (simp; done) | (simp; omega)) (by first | exact set_app rfl | exact set_out (lt_of_get (by assumption)) | rfl)) rfl ?_
      refine L_nil ?_
      refine K_seq ?_
      refine B_ret ?_
      refine K_blkR ?_
      refine ⟨(), rfl, .inr ⟨Code.ret, rfl, ⟨rfl, ?_⟩⟩⟩
      exact downW_no hc (fun h => by first | exact hc2 h.2 | omega)
    · try simp only [decide_eq_true_eq, decide_eq_false_iff_not, Bool.not_eq_true', Bool.not_eq_false', bne_iff_ne, beq_iff_eq, Bool.and_eq_true, Bool.or_eq_true, Bool.not_eq_true, ge_iff_le, gt_iff_lt, Int.not_le, Int.not_lt, beq_eq_false_iff_ne, bne_eq_false_iff_eq, ne_eq, Decidable.not_not, wd_zero, wd_one, wd_inj] at hg1
      refine O_op (env' := uS5n26) (c := .look) rfl rfl rfl (by first | exact v_loadF rfl rfl rfl rfl (by first | rfl | assumption | exact fget (α := BitVec 64) 0 (by omega) | exact fget (α := Int) 0 (by omega) | exact fget0 (α := BitVec 64) 0 (by omega) | exact fget0 (α := Int) 0 (by omega) | exact fget (α := Bool) false (by omega) | exact fget0 (α := Bool) false (by omega) | (simp [*]; done)) | exact v_load rfl rfl rfl rfl (by first | exact get_app rfl rfl | exact get_out (by assumption) | assumption | (simp [*]; done)) (by first | rfl | assumption | exact fget (α := BitVec 64) 0 (by omega) | exact fget (α := Int) 0 (by omega) | exact fget0 (α := BitVec 64) 0 (by omega) | exact fget0 (α := Int) 0 (by omega) | exact fget (α := Bool) false (by omega) | exact fget0 (α := Bool) false (by omega) | (simp [*]; done))) rfl rfl rfl ?_
      refine O_op (env' := uS5n26) (c := .calm) rfl rfl rfl (rfl) rfl rfl rfl ?_
      refine O_op (env' := uS5n26) (c := .calm) rfl rfl rfl (rfl) rfl rfl rfl ?_
      refine O_op (env' := uS5n26) (c := .look) rfl rfl rfl (by first | exact v_loadF rfl rfl rfl rfl (by first | rfl | assumption | exact fget (α := BitVec 64) 0 (by omega) | exact fget (α := Int) 0 (by omega) | exact fget0 (α := BitVec 64) 0 (by omega) | exact fget0 (α := Int) 0 (by omega) | exact fget (α := Bool) false (by omega) | exact fget0 (α := Bool) false (by omega) | (simp [*]; done)) | exact v_load rfl rfl rfl rfl (by first | exact get_app rfl rfl | exact get_out (by assumption) | assumption | (simp [*]; done)) (by first | rfl | assumption | exact fget (α := BitVec 64) 0 (by omega) | exact fget (α := Int) 0 (by omega) | exact fget0 (α := BitVec 64) 0 (by omega) | exact fget0 (α := Int) 0 (by omega) | exact fget (α := Bool) false (by omega) | exact fget0 (α := Bool) false (by omega) | (simp [*]; done))) rfl rfl rfl ?_
      refine O_op (env' := uS5n26) (c := .calm) rfl rfl rfl (v_move (.inl rfl) rfl) rfl rfl rfl ?_
      refine O_op (env' := uS5n26) (c := .calm) rfl rfl rfl (by first | exact v_idxF rfl rfl rfl rfl rfl rfl rfl (by first | assumption | omega | (simp [*]; done) | (simp at *; omega)) | exact v_idx rfl rfl rfl rfl rfl rfl rfl (by first | assumption | omega | (simp [*]; done) | (simp at *; omega))) rfl rfl rfl ?_
      refine O_op (env' := uS5n26) (c := .look) rfl rfl rfl (by first | exact v_loadF rfl rfl rfl rfl (by first | rfl | assumption | exact fget (α := BitVec 64) 0 (by omega) | exact fget (α := Int) 0 (by omega) | exact fget0 (α := BitVec 64) 0 (by omega) | exact fget0 (α := Int) 0 (by omega) | exact fget (α := Bool) false (by omega) | exact fget0 (α := Bool) false (by omega) | (simp [*]; done)) | exact v_load rfl rfl rfl rfl (by first | exact get_app rfl rfl | exact get_out (by assumption) | assumption | (simp [*]; done)) (by first | rfl | assumption | exact fget (α := BitVec 64) 0 (by omega) | exact fget (α := Int) 0 (by omega) | exact fget0 (α := BitVec 64) 0 (by omega) | exact fget0 (α := Int) 0 (by omega) | exact fget (α := Bool) false (by omega) | exact fget0 (α := Bool) false (by omega) | (simp [*]; done))) rfl rfl rfl ?_
      refine O_op (env' := uS5n26) (c := .look) rfl rfl rfl (by first | exact v_loadF rfl rfl rfl rfl (by first | rfl | assumption | exact fget (α := BitVec 64) 0 (by omega) | exact fget (α := Int) 0 (by omega) | exact fget0 (α := BitVec 64) 0 (by omega) | exact fget0 (α := Int) 0 (by omega) | exact fget (α := Bool) false (by omega) | exact fget0 (α := Bool) false (by omega) | (simp [*]; done)) | exact v_load rfl rfl rfl rfl (by first | exact get_app rfl rfl | exact get_out (by assumption) | assumption | (simp [*]; done)) (by first | rfl | assumption | exact fget (α := BitVec 64) 0 (by omega) | exact fget (α := Int) 0 (by omega) | exact fget0 (α := BitVec 64) 0 (by omega) | exact fget0 (α := Int) 0 (by omega) | exact fget (α := Bool) false (by omega) | exact fget0 (α := Bool) false (by omega) | (simp [*]; done))) rfl rfl rfl ?_
      refine O_op (env' := uS5n26) (c := .calm) rfl rfl rfl (v_andNotW rfl rfl rfl) rfl rfl rfl ?_
      refine O_op (env' := uS5n26) (c := .calm) rfl rfl rfl (rfl) rfl rfl rfl ?_
      refine O_op (env' := uS5n26) (c := .calm) rfl rfl rfl (v_pickF rfl rfl rfl) rfl rfl rfl ?_
      refine O_nil [] (by kernel_rfl) (trivial) ?_
      refine K_seq ?_
      refine B_cond _ rfl (fun hc2 => ?_) (fun hc2 => ?_)
      · try simp only [decide_eq_true_eq, decide_eq_false_iff_not, Bool.not_eq_true', Bool.not_eq_false', bne_iff_ne, beq_iff_eq, Bool.and_eq_true, Bool.or_eq_true, Bool.not_eq_true, ge_iff_le, gt_iff_lt, Int.not_le, Int.not_lt, beq_eq_false_iff_ne, bne_eq_false_iff_eq, ne_eq, Decidable.not_not, wd_zero, wd_one, wd_inj] at hc2
        refine B_seq ?_
        refine B_region ?_
        refine L_op (env' := uS5n26) rfl rfl (v_storeC (VVal.bool false) rfl rfl rfl rfl rfl rfl rfl (by first | exact get_app rfl rfl | exact get_out (by assumption) | assumption | (simp [*]; done)) (by first | exact Nat.le_of_ble_eq_true rfl | (simp only [List.length_map, List.length_cons, List.length_nil]; omega) | omega | (simp; done) | (simp; omega)) (by first | exact set_app rfl | exact set_out (lt_of_get (by assumption)) | rfl)) rfl ?_
        refine L_nil ?_
        refine K_seq ?_
        refine B_ret ?_
        refine K_blkR ?_
        refine ⟨(), rfl, .inr ⟨Code.ret, rfl, ⟨rfl, ?_⟩⟩⟩
        exact downW_no hc (fun h => by first | exact hc2 h.2 | omega)
      · try simp only [decide_eq_true_eq, decide_eq_false_iff_not, Bool.not_eq_true', Bool.not_eq_false', bne_iff_ne, beq_iff_eq, Bool.and_eq_true, Bool.or_eq_true, Bool.not_eq_true, ge_iff_le, gt_iff_lt, Int.not_le, Int.not_lt, beq_eq_false_iff_ne, bne_eq_false_iff_eq, ne_eq, Decidable.not_not, wd_zero, wd_one, wd_inj] at hc2
        refine B_skip ?_
        refine K_blk ?_
        refine ⟨(), rfl, .inl ⟨rfl, ?_⟩⟩
        intro b hb
        rcases List.mem_append.1 hb with h | h
        · exact hI b h
        · simp at h; subst h; exact downA_yes (by omega) hc2
  · intro s k hk hI
    try dsimp only at hI ⊢
    refine K_blk ?_
    refine K_seq ?_
    refine B_seq ?_
    refine B_region ?_
    refine L_op (env' := uS5n26) rfl rfl (v_storeC (VVal.bool true) rfl rfl rfl rfl rfl rfl rfl (by first | exact get_app rfl rfl | exact get_out (by assumption) | assumption | (simp [*]; done)) (by first | exact Nat.le_of_ble_eq_true rfl | (simp only [List.length_map, List.length_cons, List.length_nil]; omega) | omega | (simp; done) | (simp; omega)) (by first | exact set_app rfl | exact set_out (lt_of_get (by assumption)) | rfl)) rfl ?_
    refine L_nil ?_
    refine K_seq ?_
    refine B_ret ?_
    refine E_app (.inr rfl) (vres_cell rfl rfl rfl rfl (by first | exact get_app rfl rfl | exact get_out (by assumption) | assumption | (simp [*]; done)) (by first | rfl | assumption | exact fget (α := BitVec 64) 0 (by omega) | exact fget (α := Int) 0 (by omega) | exact fget0 (α := BitVec 64) 0 (by omega) | exact fget0 (α := Int) 0 (by omega) | exact fget (α := Bool) false (by omega) | exact fget0 (α := Bool) false (by omega) | (simp [*]; done))) (by first | exact BaseOk.refl _ | exact BaseOk.set (BaseOk.refl _) _ rfl) (by first | rfl | simp [VVal.under, VVal.underL, *]) ?_
    exact ⟨by rw [show downW ps w = true from List.all_eq_true.2 hI], rfl⟩
  · rintro j pre c post s k hk hx (⟨rfl, hX⟩)
    try dsimp only
    refine J_ret ?_
    refine K_blkR ?_
    refine K_seqR ?_
    refine E_app (.inr rfl) (vres_cell rfl rfl rfl rfl (by first | exact get_app rfl rfl | exact get_out (by assumption) | assumption | (simp [*]; done)) (by first | rfl | assumption | exact fget (α := BitVec 64) 0 (by omega) | exact fget (α := Int) 0 (by omega) | exact fget0 (α := BitVec 64) 0 (by omega) | exact fget0 (α := Int) 0 (by omega) | exact fget (α := Bool) false (by omega) | exact fget0 (α := Bool) false (by omega) | (simp [*]; done))) (by first | exact BaseOk.refl _ | exact BaseOk.set (BaseOk.refl _) _ rfl) (by first | rfl | simp [VVal.under, VVal.underL, *]) ?_
    exact ⟨by rw [hX], rfl⟩
end Go.Proofs.YteocbhgdmpdklaaDoor.VT
