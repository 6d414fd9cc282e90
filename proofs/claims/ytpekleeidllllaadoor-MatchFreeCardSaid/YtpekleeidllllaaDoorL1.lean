/- MatchFree: the law -/
import Derived.Test.YtpekleeidllllaaDoorS6
import Derived.Test.YtpekleeidllllaaDoorR1
set_option autoImplicit false
set_option linter.unusedVariables false
set_option linter.unusedSimpArgs false
set_option maxHeartbeats 4000000
set_option maxRecDepth 100000
namespace Go.Proofs.YtpekleeidllllaaDoor.VT
open Go Go.V Go.RowKit

abbrev uL1n124 {a0 a1 a2 a3 a4 a5 a6 a7 a8 a9 a10 a11 a12 a13 a14 a15 a16 a17 a18 a19 a20 a21 a22 a23 a24 a25 a26 a27 a28 a29 a30 a31 a32 a33 a34 a35 a36 a37 a38 a39 a40 a41 a42 a43 a44 a45 a46 a47 a48 a49 a50 a51 a52 a53 a54 a55 a56 a57 a58 a59 a60 a61 a62 a63 a64 a65 a66 a67 a68 a69 a70 a71 a72 a73 a74 a75 a76 a77 a78 a79 a80 a81 a82 a83 a84 a85 a86 a87 a88 a89 a90 a91 a92 a93 a94 a95 a96 a97 a98 a99 a100 a101 a102 a103 a104 a105 a106 a107 a108 a109 a110 a111 a112 a113 a114 a115 a116 a117 a118 a119 a120 a121 a122 a123 : VVal} : VEnv := a0 :: a1 :: a2 :: a3 :: a4 :: a5 :: a6 :: a7 :: a8 :: a9 :: a10 :: a11 :: a12 :: a13 :: a14 :: a15 :: a16 :: a17 :: a18 :: a19 :: a20 :: a21 :: a22 :: a23 :: a24 :: a25 :: a26 :: a27 :: a28 :: a29 :: a30 :: a31 :: a32 :: a33 :: a34 :: a35 :: a36 :: a37 :: a38 :: a39 :: a40 :: a41 :: a42 :: a43 :: a44 :: a45 :: a46 :: a47 :: a48 :: a49 :: a50 :: a51 :: a52 :: a53 :: a54 :: a55 :: a56 :: a57 :: a58 :: a59 :: a60 :: a61 :: a62 :: a63 :: a64 :: a65 :: a66 :: a67 :: a68 :: a69 :: a70 :: a71 :: a72 :: a73 :: a74 :: a75 :: a76 :: a77 :: a78 :: a79 :: a80 :: a81 :: a82 :: a83 :: a84 :: a85 :: a86 :: a87 :: a88 :: a89 :: a90 :: a91 :: a92 :: a93 :: a94 :: a95 :: a96 :: a97 :: a98 :: a99 :: a100 :: a101 :: a102 :: a103 :: a104 :: a105 :: a106 :: a107 :: a108 :: a109 :: a110 :: a111 :: a112 :: a113 :: a114 :: a115 :: a116 :: a117 :: a118 :: a119 :: a120 :: a121 :: a122 :: a123 :: []

theorem freeV_in {l : List (BitVec 64)} {i : Nat} (h : l.length ≤ 12) (hi : i < l.length) : freeV l (i : Int) = frW l i := by
  rw [freeV, if_pos (by omega)]; rfl
theorem frW_ok {l : List (BitVec 64)} {i : Nat} (hi : i < l.length) : (((frW l i).toNat : Int) != 0) = fullB l 0#64 := by
  rw [Bool.eq_iff_iff, full0, ← frW_ne hi, bne_iff_ne]
  constructor
  · intro h e; exact h (by rw [e]; rfl)
  · intro h e; exact h (BitVec.eq_of_toNat_eq (by simpa using e))
theorem us_at {l : List (BitVec 64)} {i : Nat} (h : fullB l 0#64 = true) (hi : i < l.length) : (usL l).getD i 0 < 64 ∧ i < (usL l).length ∧ (frW l i).getLsbD ((usL l).getD i 0) = true := by
  have hm := usL_ok h
  have hb := hm.ok i hi
  exact ⟨BitVec.lt_of_getLsbD hb, by rw [hm.len]; exact hi, matU_erase hm hi⟩
theorem one_can {l : List (BitVec 64)} {i u : Nat} (hi : i < l.length) (hu : u < 64) : fullB (l.set i (l.getD i 0 &&& 1#64 <<< u)) 0#64 = (((frW l i >>> u &&& 1#64).toNat : Int) == 1) := by
  rw [Bool.eq_iff_iff, full0, ← frW_one hi hu, ← sh1 (k := u), beq_iff_eq]
  constructor
  · intro h; rw [h]; rfl
  · intro h; exact BitVec.eq_of_toNat_eq (by have h : ((frW l i >>> u &&& 1#64).toNat : Int) = 1 := h; show (frW l i >>> u &&& 1#64).toNat = 1; omega)
theorem us_cell {us : List Nat} {n : Int} (h : 0 ≤ n ∧ n < us.length) : (us.map iN)[n.toNat * 1]? = some (iN (us.getD n.toNat 0)) := fget (α := Nat) 0 h

theorem MatchFree_walk {x : SW} (H : VHeap) (rows : List (BitVec 64)) : F (psys x) 4 [fzW rows] H fun v G => v = .bool true ∧ G = H := by
  have h20 : (rows.take 20).length ≤ 20 := by rw [List.length_take]; omega
  refine F_body Tryd.func4 rfl uL1n124 rfl ?_
  refine B_seq ?_
  refine B_region ?_
  refine L_op (env' := uL1n124) rfl rfl (v_const (VVal.bool false) (.inr rfl) rfl) rfl ?_
  refine L_nil ?_
  refine K_seq ?_
  refine B_seq ?_
  refine B_region ?_
  refine L_op (env' := uL1n124) rfl rfl (v_move (.inl rfl) rfl) rfl ?_
  refine L_call rfl rfl rfl (by exact few_spec _ _) ?_
  rintro _ _ ⟨rfl, rfl⟩
  refine L_env (env' := uL1n124) rfl ?_
  refine L_op (env' := uL1n124) rfl rfl (v_move (.inr rfl) rfl) rfl ?_
  refine L_nil ?_
  refine K_seq ?_
  refine B_seqJ (true :: true :: true :: false :: true :: true :: true :: true :: true :: true :: true :: true :: true :: true :: true :: true :: true :: true :: true :: true :: true :: true :: true :: true :: true :: true :: true :: true :: true :: true :: true :: true :: true :: true :: true :: true :: true :: true :: true :: true :: true :: true :: true :: true :: true :: true :: true :: true :: true :: true :: true :: true :: true :: true :: true :: true :: true :: true :: true :: true :: true :: true :: true :: true :: true :: true :: true :: true :: true :: true :: true :: true :: true :: true :: true :: true :: true :: true :: true :: true :: true :: true :: true :: true :: true :: true :: true :: true :: true :: true :: true :: true :: true :: true :: true :: true :: true :: true :: true :: true :: true :: true :: true :: true :: true :: true :: true :: true :: true :: true :: true :: true :: true :: true :: true :: true :: true :: true :: true :: true :: true :: true :: true :: true :: []) (fun (l : List (BitVec 64)) => [(3, fzW l)]) (fun (l : List (BitVec 64)) G => (l.length ≤ 12) ∧ G = H ++ []) ?_ ?_
  · skip
    refine B_seq ?_
    refine B_region ?_
    refine L_op (env' := uL1n124) rfl rfl (v_move (.inl rfl) rfl) rfl ?_
    refine L_op (env' := uL1n124) rfl rfl (rfl) rfl ?_
    refine L_op (env' := uL1n124) rfl rfl (rfl) rfl ?_
    refine L_nil ?_
    refine K_seq ?_
    refine B_cond _ rfl (fun hc1 => ?_) (fun hc1 => ?_)
    · try simp only [decide_eq_true_eq, decide_eq_false_iff_not, Bool.not_eq_true', Bool.not_eq_false', bne_iff_ne, beq_iff_eq, Bool.and_eq_true, Bool.or_eq_true, Bool.not_eq_true, ge_iff_le, gt_iff_lt, Int.not_le, Int.not_lt, beq_eq_false_iff_ne, bne_eq_false_iff_eq, ne_eq, Decidable.not_not, wd_zero, wd_one, wd_inj] at hc1
      refine B_region ?_
      refine L_op (env' := uL1n124) rfl rfl (v_move (.inl rfl) rfl) rfl ?_
      refine L_op (env' := uL1n124) rfl rfl (v_wHi (k := 12) rfl rfl rfl rfl rfl rfl rfl (by omega)) rfl ?_
      refine L_op (env' := uL1n124) rfl rfl (v_move (.inr rfl) rfl) rfl ?_
      refine L_nil ?_
      refine K_loop (true :: true :: true :: false :: true :: true :: true :: true :: true :: true :: true :: true :: true :: true :: true :: true :: true :: true :: true :: true :: true :: true :: true :: true :: true :: true :: true :: true :: true :: true :: true :: true :: true :: true :: true :: true :: true :: true :: true :: true :: true :: true :: true :: true :: true :: true :: true :: true :: true :: true :: true :: true :: true :: true :: true :: true :: true :: true :: true :: true :: true :: true :: true :: true :: true :: true :: true :: true :: true :: true :: true :: true :: true :: true :: true :: true :: true :: true :: true :: true :: true :: true :: true :: true :: true :: true :: true :: true :: true :: true :: true :: true :: true :: true :: true :: true :: true :: true :: true :: true :: true :: true :: true :: true :: true :: true :: true :: true :: true :: true :: true :: true :: true :: true :: true :: true :: true :: true :: true :: true :: true :: true :: true :: true :: []) (env' := uL1n124) rfl ⟨_, rfl, ?_⟩
      first
        | exact ⟨(by show (List.take 12 _).length ≤ 12; rw [List.length_take]; omega), rfl⟩
        | exact ⟨by omega, rfl⟩
    · try simp only [decide_eq_true_eq, decide_eq_false_iff_not, Bool.not_eq_true', Bool.not_eq_false', bne_iff_ne, beq_iff_eq, Bool.and_eq_true, Bool.or_eq_true, Bool.not_eq_true, ge_iff_le, gt_iff_lt, Int.not_le, Int.not_lt, beq_eq_false_iff_ne, bne_eq_false_iff_eq, ne_eq, Decidable.not_not, wd_zero, wd_one, wd_inj] at hc1
      refine B_skip ?_
      refine K_loop (true :: true :: true :: false :: true :: true :: true :: true :: true :: true :: true :: true :: true :: true :: true :: true :: true :: true :: true :: true :: true :: true :: true :: true :: true :: true :: true :: true :: true :: true :: true :: true :: true :: true :: true :: true :: true :: true :: true :: true :: true :: true :: true :: true :: true :: true :: true :: true :: true :: true :: true :: true :: true :: true :: true :: true :: true :: true :: true :: true :: true :: true :: true :: true :: true :: true :: true :: true :: true :: true :: true :: true :: true :: true :: true :: true :: true :: true :: true :: true :: true :: true :: true :: true :: true :: true :: true :: true :: true :: true :: true :: true :: true :: true :: true :: true :: true :: true :: true :: true :: true :: true :: true :: true :: true :: true :: true :: true :: true :: true :: true :: true :: true :: true :: true :: true :: true :: true :: true :: true :: true :: true :: true :: true :: []) (env' := uL1n124) rfl ⟨_, rfl, ?_⟩
      first
        | exact ⟨(by show (List.take 12 _).length ≤ 12; rw [List.length_take]; omega), rfl⟩
        | exact ⟨by omega, rfl⟩
  · rintro l _ ⟨hl12, rfl⟩
    refine B_env (env' := uL1n124) rfl ?_
    refine B_seq ?_
    refine B_region ?_
    refine L_op (env' := uL1n124) rfl rfl (v_move (.inl rfl) rfl) rfl ?_
    refine L_call rfl rfl rfl (by exact few_s _ l hl12) ?_
    rintro _ _ ⟨rfl, rfl⟩
    refine L_env (env' := uL1n124) rfl ?_
    refine L_call rfl rfl rfl (by exact Least_m _ l rfl hl12) ?_
    rintro _ _ ⟨rfl, rfl⟩
    refine L_env (env' := uL1n124) rfl ?_
    refine L_op (env' := uL1n124) rfl rfl (v_move (.inl rfl) rfl) rfl ?_
    refine L_op (env' := uL1n124) rfl rfl (rfl) rfl ?_
    refine L_op (env' := uL1n124) rfl rfl (rfl) rfl ?_
    refine L_op (env' := uL1n124) rfl rfl (v_move (.inr rfl) rfl) rfl ?_
    refine L_op (env' := uL1n124) rfl rfl (v_move (.inr rfl) rfl) rfl ?_
    refine L_nil ?_
    refine K_seq ?_
    refine B_seq ?_
    refine B_seq ?_
    refine B_region ?_
    refine L_op (env' := uL1n124) rfl rfl (v_const (VVal.int .i64 0) (.inr rfl) rfl) rfl ?_
    refine L_nil ?_
    refine K_seq ?_
    refine B_block ?_
    refine B_clear (true :: true :: true :: false :: false :: false :: false :: true :: true :: true :: true :: true :: true :: true :: true :: true :: true :: true :: true :: true :: true :: true :: true :: true :: true :: true :: true :: true :: true :: true :: true :: true :: true :: true :: true :: true :: true :: true :: true :: true :: true :: true :: true :: true :: true :: true :: true :: true :: true :: true :: true :: true :: true :: true :: true :: true :: true :: true :: true :: true :: true :: true :: true :: true :: true :: true :: true :: true :: true :: true :: true :: true :: true :: true :: true :: true :: true :: true :: true :: true :: true :: true :: true :: true :: true :: true :: true :: true :: true :: true :: true :: true :: true :: true :: true :: true :: true :: true :: true :: true :: true :: true :: true :: true :: true :: true :: true :: true :: true :: true :: true :: true :: true :: true :: true :: true :: true :: true :: true :: true :: true :: true :: true :: true :: []) (env' := uL1n124) rfl ?_
    refine B_loopE (fun (i : Nat) => l.length - i) (fun (i : Nat) => [(6, iI (i : Nat))]) (fun (i : Nat) G => (i ≤ l.length) ∧ G = H ++ []) 0 rfl ?_ ?_
    · refine ⟨?_, rfl⟩
      exact Nat.zero_le _
    rintro i _ ⟨hi, rfl⟩
    refine B_env (env' := uL1n124) rfl ?_
    refine B_seq ?_
    refine B_seq ?_
    refine B_region ?_
    refine L_op (env' := uL1n124) rfl rfl (v_move (.inl rfl) rfl) rfl ?_
    refine L_op (env' := uL1n124) rfl rfl (v_move (.inl rfl) rfl) rfl ?_
    refine L_op (env' := uL1n124) rfl rfl (rfl) rfl ?_
    refine L_op (env' := uL1n124) rfl rfl (rfl) rfl ?_
    refine L_nil ?_
    refine K_seq ?_
    refine B_cond _ rfl (fun hc2 => ?_) (fun hc2 => ?_)
    · try simp only [decide_eq_true_eq, decide_eq_false_iff_not, Bool.not_eq_true', Bool.not_eq_false', bne_iff_ne, beq_iff_eq, Bool.and_eq_true, Bool.or_eq_true, Bool.not_eq_true, ge_iff_le, gt_iff_lt, Int.not_le, Int.not_lt, beq_eq_false_iff_ne, bne_eq_false_iff_eq, ne_eq, Decidable.not_not, wd_zero, wd_one, wd_inj] at hc2
      refine B_skip ?_
      refine K_seq ?_
      refine B_seq ?_
      refine B_block ?_
      refine B_seq ?_
      refine B_region ?_
      refine L_op (env' := uL1n124) rfl rfl (v_move (.inl rfl) rfl) rfl ?_
      refine L_call rfl rfl rfl (by exact few_s _ l hl12) ?_
      rintro _ _ ⟨rfl, rfl⟩
      refine L_env (env' := uL1n124) rfl ?_
      refine L_op (env' := uL1n124) rfl rfl (v_move (.inl rfl) rfl) rfl ?_
      refine L_call rfl rfl rfl (by exact Free_spec _ l i (by omega)) ?_
      rintro v _ ⟨hv, rfl⟩; obtain rfl : v = iW (frW l i) := hv.trans (by rw [freeV_in hl12 (by omega)])
      refine L_env (env' := uL1n124) rfl ?_
      refine L_op (env' := uL1n124) rfl rfl (v_move (.inr rfl) rfl) rfl ?_
      refine L_nil ?_
      refine K_seq ?_
      refine B_seq ?_
      refine B_seq ?_
      refine B_region ?_
      refine L_op (env' := uL1n124) rfl rfl (v_move (.inl rfl) rfl) rfl ?_
      refine L_op (env' := uL1n124) rfl rfl (v_move (.inl rfl) rfl) rfl ?_
      refine L_op (env' := uL1n124) rfl rfl (v_move (.inl rfl) rfl) rfl ?_
      refine L_op (env' := uL1n124) rfl rfl (by first | exact v_idxF rfl rfl rfl rfl rfl rfl rfl (by first | assumption | omega | (have h9 := us_at (l := l) (i := i) (by assumption) (by omega); omega)) | exact v_idx rfl rfl rfl rfl rfl rfl rfl (by first | assumption | omega | (have h9 := us_at (l := l) (i := i) (by assumption) (by omega); omega))) rfl ?_
      refine L_op (env' := uL1n124) rfl rfl (by first | exact v_loadF rfl rfl rfl rfl (by first | rfl | assumption | exact us_cell (by first | omega | (have h9 := us_at (l := l) (i := i) (by assumption) (by omega); omega)) | exact fget (α := BitVec 64) 0 (by omega) | exact fget0 (α := BitVec 64) 0 (by omega)) | exact v_load rfl rfl rfl rfl (by first | exact get_app rfl rfl | exact get_out (by assumption) | assumption | (simp [*]; done)) (by first | rfl | assumption | exact us_cell (by first | omega | (have h9 := us_at (l := l) (i := i) (by assumption) (by omega); omega)) | exact fget (α := BitVec 64) 0 (by omega) | exact fget0 (α := BitVec 64) 0 (by omega))) rfl ?_
      refine L_op (env' := uL1n124) rfl rfl (v_andNotW rfl rfl rfl) rfl ?_
      refine L_op (env' := uL1n124) rfl rfl (v_is false rfl (by rw [show frW l i &&& ~~~(l.getD (i : Int).toNat 0) = 0#64 from frW_sub]; rfl)) rfl ?_
      refine L_op (env' := uL1n124) rfl rfl (v_move (.inl rfl) rfl) rfl ?_
      refine L_op (env' := uL1n124) rfl rfl (v_move (.inl rfl) rfl) rfl ?_
      refine L_op (env' := uL1n124) rfl rfl (rfl) rfl ?_
      refine L_op (env' := uL1n124) rfl rfl (v_move (.inl rfl) rfl) rfl ?_
      refine L_op (env' := uL1n124) rfl rfl (v_is false rfl (by rw [frW_ok (by omega)]; simp)) rfl ?_
      refine L_op (env' := uL1n124) rfl rfl (v_pickF rfl rfl rfl) rfl ?_
      refine L_op (env' := uL1n124) rfl rfl (v_move (.inl rfl) rfl) rfl ?_
      refine L_op (env' := uL1n124) rfl rfl (v_move (.inl rfl) rfl) rfl ?_
      refine L_op (env' := uL1n124) rfl rfl (v_move (.inl rfl) rfl) rfl ?_
      refine L_split 50 (env1 := uL1n124) (env2 := uL1n124) rfl rfl rfl (fun hg3 => ?_) (fun hg3 => ?_)
      · try simp only [decide_eq_true_eq, decide_eq_false_iff_not, Bool.not_eq_true', Bool.not_eq_false', bne_iff_ne, beq_iff_eq, Bool.and_eq_true, Bool.or_eq_true, Bool.not_eq_true, ge_iff_le, gt_iff_lt, Int.not_le, Int.not_lt, beq_eq_false_iff_ne, bne_eq_false_iff_eq, ne_eq, Decidable.not_not, wd_zero, wd_one, wd_inj] at hg3
        refine L_op (env' := uL1n124) rfl rfl (v_move (.inl rfl) rfl) rfl ?_
        refine L_op (env' := uL1n124) rfl rfl (v_move (.inl rfl) rfl) rfl ?_
        refine L_op (env' := uL1n124) rfl rfl (rfl) rfl ?_
        refine L_op (env' := uL1n124) rfl rfl (v_is false rfl (decide_eq_false (by have h9 := us_at (l := l) (i := i) (by assumption) (by omega); omega))) rfl ?_
        refine L_op (env' := uL1n124) rfl rfl (v_move (.inl rfl) rfl) rfl ?_
        refine L_op (env' := uL1n124) rfl rfl (v_move (.inl rfl) rfl) rfl ?_
        refine L_op (env' := uL1n124) rfl rfl (v_move (.inl rfl) rfl) rfl ?_
        refine L_op (env' := uL1n124) rfl rfl (by first | exact v_idxF rfl rfl rfl rfl rfl rfl rfl (by first | assumption | omega | (have h9 := us_at (l := l) (i := i) (by assumption) (by omega); omega)) | exact v_idx rfl rfl rfl rfl rfl rfl rfl (by first | assumption | omega | (have h9 := us_at (l := l) (i := i) (by assumption) (by omega); omega))) rfl ?_
        refine L_op (env' := uL1n124) rfl rfl (by first | exact v_loadF rfl rfl rfl rfl (by first | rfl | assumption | exact us_cell (by first | omega | (have h9 := us_at (l := l) (i := i) (by assumption) (by omega); omega)) | exact fget (α := BitVec 64) 0 (by omega) | exact fget0 (α := BitVec 64) 0 (by omega)) | exact v_load rfl rfl rfl rfl (by first | exact get_app rfl rfl | exact get_out (by assumption) | assumption | (simp [*]; done)) (by first | rfl | assumption | exact us_cell (by first | omega | (have h9 := us_at (l := l) (i := i) (by assumption) (by omega); omega)) | exact fget (α := BitVec 64) 0 (by omega) | exact fget0 (α := BitVec 64) 0 (by omega))) rfl ?_
        refine L_op (env' := uL1n124) rfl rfl (v_is false rfl (decide_eq_false (by omega))) rfl ?_
        refine L_op (env' := uL1n124) rfl rfl (v_pickF rfl rfl rfl) rfl ?_
        refine L_op (env' := uL1n124) rfl rfl (v_move (.inl rfl) rfl) rfl ?_
        refine L_op (env' := uL1n124) rfl rfl (v_move (.inl rfl) rfl) rfl ?_
        refine L_op (env' := uL1n124) rfl rfl (v_move (.inl rfl) rfl) rfl ?_
        refine L_op (env' := uL1n124) rfl rfl (by first | exact v_idxF rfl rfl rfl rfl rfl rfl rfl (by first | assumption | omega | (have h9 := us_at (l := l) (i := i) (by assumption) (by omega); omega)) | exact v_idx rfl rfl rfl rfl rfl rfl rfl (by first | assumption | omega | (have h9 := us_at (l := l) (i := i) (by assumption) (by omega); omega))) rfl ?_
        refine L_op (env' := uL1n124) rfl rfl (by first | exact v_loadF rfl rfl rfl rfl (by first | rfl | assumption | exact us_cell (by first | omega | (have h9 := us_at (l := l) (i := i) (by assumption) (by omega); omega)) | exact fget (α := BitVec 64) 0 (by omega) | exact fget0 (α := BitVec 64) 0 (by omega)) | exact v_load rfl rfl rfl rfl (by first | exact get_app rfl rfl | exact get_out (by assumption) | assumption | (simp [*]; done)) (by first | rfl | assumption | exact us_cell (by first | omega | (have h9 := us_at (l := l) (i := i) (by assumption) (by omega); omega)) | exact fget (α := BitVec 64) 0 (by omega) | exact fget0 (α := BitVec 64) 0 (by omega))) rfl ?_
        refine L_op (env' := uL1n124) rfl rfl (v_is false rfl (decide_eq_false (by have h9 := (us_at (l := l) (i := i) (by assumption) (by omega)).1; show ¬ (63 : Int) < ((usL l).getD i 0 : Nat); omega))) rfl ?_
        refine L_op (env' := uL1n124) rfl rfl (v_pickF rfl rfl rfl) rfl ?_
        refine L_op (env' := uL1n124) rfl rfl (v_move (.inl rfl) rfl) rfl ?_
        refine L_op (env' := uL1n124) rfl rfl (v_move (.inl rfl) rfl) rfl ?_
        refine L_op (env' := uL1n124) rfl rfl (v_move (.inl rfl) rfl) rfl ?_
        refine L_op (env' := uL1n124) rfl rfl (v_move (.inl rfl) rfl) rfl ?_
        refine L_op (env' := uL1n124) rfl rfl (by first | exact v_idxF rfl rfl rfl rfl rfl rfl rfl (by first | assumption | omega | (have h9 := us_at (l := l) (i := i) (by assumption) (by omega); omega)) | exact v_idx rfl rfl rfl rfl rfl rfl rfl (by first | assumption | omega | (have h9 := us_at (l := l) (i := i) (by assumption) (by omega); omega))) rfl ?_
        refine L_op (env' := uL1n124) rfl rfl (by first | exact v_loadF rfl rfl rfl rfl (by first | rfl | assumption | exact us_cell (by first | omega | (have h9 := us_at (l := l) (i := i) (by assumption) (by omega); omega)) | exact fget (α := BitVec 64) 0 (by omega) | exact fget0 (α := BitVec 64) 0 (by omega)) | exact v_load rfl rfl rfl rfl (by first | exact get_app rfl rfl | exact get_out (by assumption) | assumption | (simp [*]; done)) (by first | rfl | assumption | exact us_cell (by first | omega | (have h9 := us_at (l := l) (i := i) (by assumption) (by omega); omega)) | exact fget (α := BitVec 64) 0 (by omega) | exact fget0 (α := BitVec 64) 0 (by omega))) rfl ?_
        refine L_op (env' := uL1n124) rfl rfl (v_shrW rfl rfl rfl (by show (0 : Int) ≤ ((usL l).getD i 0 : Nat); omega)) rfl ?_
        refine L_op (env' := uL1n124) rfl rfl (v_andW (b := 1#64) rfl rfl rfl) rfl ?_
        refine L_op (env' := uL1n124) rfl rfl (v_is false rfl (by rw [show frW l i >>> (((usL l).getD (i : Int).toNat 0 : Nat) : Int).toNat &&& 1#64 = 1#64 from sh1.2 (us_at (l := l) (i := i) (by assumption) (by omega)).2.2]; rfl)) rfl ?_
        refine L_op (env' := uL1n124) rfl rfl (v_pickF rfl rfl rfl) rfl ?_
        refine L_op (env' := uL1n124) rfl rfl (v_pickT rfl rfl rfl) rfl ?_
        refine L_op (env' := uL1n124) rfl rfl (v_pickF rfl rfl rfl) rfl ?_
        refine L_nil ?_
        refine K_seq ?_
        refine B_false rfl rfl ?_
        refine B_skip ?_
        refine K_seq ?_
        refine B_seq ?_
        refine B_region ?_
        refine L_op (env' := uL1n124) rfl rfl (v_const (VVal.int .i64 0) (.inr rfl) rfl) rfl ?_
        refine L_nil ?_
        refine K_seq ?_
        refine B_block ?_
        refine B_clear (true :: true :: true :: false :: false :: false :: false :: false :: false :: true :: true :: true :: true :: true :: true :: true :: true :: true :: true :: true :: true :: true :: true :: true :: true :: true :: true :: true :: true :: true :: true :: true :: true :: true :: true :: true :: true :: true :: true :: true :: true :: true :: true :: true :: true :: true :: true :: true :: true :: true :: true :: true :: true :: true :: true :: true :: true :: true :: true :: true :: true :: true :: true :: true :: true :: true :: true :: true :: true :: true :: true :: true :: true :: true :: true :: true :: true :: true :: true :: true :: true :: true :: true :: true :: true :: true :: true :: true :: true :: true :: true :: true :: true :: true :: true :: true :: true :: true :: true :: true :: true :: true :: true :: true :: true :: true :: true :: true :: true :: true :: true :: true :: true :: true :: true :: true :: true :: true :: true :: true :: true :: true :: true :: true :: []) (env' := uL1n124) rfl ?_
        refine B_loopE (fun (u : Nat) => 64 - u) (fun (u : Nat) => [(8, iI (u : Nat))]) (fun (u : Nat) G => (u ≤ 64) ∧ G = H ++ []) 0 rfl ?_ ?_
        · refine ⟨?_, rfl⟩
          exact Nat.zero_le _
        rintro u _ ⟨hu, rfl⟩
        refine B_env (env' := uL1n124) rfl ?_
        refine B_seq ?_
        refine B_seq ?_
        refine B_region ?_
        refine L_op (env' := uL1n124) rfl rfl (v_move (.inl rfl) rfl) rfl ?_
        refine L_op (env' := uL1n124) rfl rfl (rfl) rfl ?_
        refine L_nil ?_
        refine K_seq ?_
        refine B_cond _ rfl (fun hc4 => ?_) (fun hc4 => ?_)
        · try simp only [decide_eq_true_eq, decide_eq_false_iff_not, Bool.not_eq_true', Bool.not_eq_false', bne_iff_ne, beq_iff_eq, Bool.and_eq_true, Bool.or_eq_true, Bool.not_eq_true, ge_iff_le, gt_iff_lt, Int.not_le, Int.not_lt, beq_eq_false_iff_ne, bne_eq_false_iff_eq, ne_eq, Decidable.not_not, wd_zero, wd_one, wd_inj] at hc4
          refine B_skip ?_
          refine K_seq ?_
          refine B_seq ?_
          refine B_block ?_
          refine B_seq ?_
          refine B_region ?_
          refine L_op (env' := uL1n124) rfl rfl (v_move (.inl rfl) rfl) rfl ?_
          refine L_call rfl rfl rfl (by exact few_L _ _ l hl12) ?_
          rintro _ _ ⟨rfl, rfl⟩
          refine L_env (env' := uL1n124) rfl ?_
          refine L_op (env' := uL1n124) rfl rfl (v_move (.inr rfl) rfl) rfl ?_
          refine L_nil ?_
          refine K_seq ?_
          refine B_seq ?_
          refine B_draw [0, 1, 2, 3, 4, 5, 6, 7, 8, 9, 10] #[0, 0, 0, 0, 12, 28, 0, 64, 252, 511, 1023] (by kernel_rfl) (by kernel_rfl) (by kernel_rfl) ?_
          refine O_op (env' := uL1n124) (c := .calm) rfl rfl rfl (v_move (.inl rfl) rfl) rfl rfl rfl ?_
          refine O_op (env' := uL1n124) (c := .calm) rfl rfl rfl (v_move (.inl rfl) rfl) rfl rfl rfl ?_
          refine O_op (env' := uL1n124) (c := .calm) rfl rfl rfl (v_move (.inl rfl) rfl) rfl rfl rfl ?_
          refine O_op (env' := uL1n124) (c := .calm) rfl rfl rfl (v_move (.inl rfl) rfl) rfl rfl rfl ?_
          refine O_op (env' := uL1n124) (c := .calm) rfl rfl rfl (by first | exact v_idxF rfl rfl rfl rfl rfl rfl rfl (by first | assumption | omega | (have h9 := us_at (l := l) (i := i) (by assumption) (by omega); omega)) | exact v_idx rfl rfl rfl rfl rfl rfl rfl (by first | assumption | omega | (have h9 := us_at (l := l) (i := i) (by assumption) (by omega); omega))) rfl rfl rfl ?_
          refine O_op (env' := uL1n124) (c := .look) rfl rfl rfl (by first | exact v_loadF rfl rfl rfl rfl (by first | rfl | assumption | exact us_cell (by first | omega | (have h9 := us_at (l := l) (i := i) (by assumption) (by omega); omega)) | exact fget (α := BitVec 64) 0 (by omega) | exact fget0 (α := BitVec 64) 0 (by omega)) | exact v_load rfl rfl rfl rfl (by first | exact get_app rfl rfl | exact get_out (by assumption) | assumption | (simp [*]; done)) (by first | rfl | assumption | exact us_cell (by first | omega | (have h9 := us_at (l := l) (i := i) (by assumption) (by omega); omega)) | exact fget (α := BitVec 64) 0 (by omega) | exact fget0 (α := BitVec 64) 0 (by omega))) rfl rfl rfl ?_
          refine O_op (env' := uL1n124) (c := .calm) rfl rfl rfl (v_move (.inl rfl) rfl) rfl rfl rfl ?_
          refine O_op (env' := uL1n124) (c := .calm) rfl rfl rfl (v_shl1 rfl rfl rfl (by first | assumption | omega | (have h9 := us_at (l := l) (i := i) (by assumption) (by omega); omega))) rfl rfl rfl ?_
          refine O_op (env' := uL1n124) (c := .calm) rfl rfl rfl (v_andW rfl rfl rfl) rfl rfl rfl ?_
          refine O_op (env' := uL1n124) (c := .calm) rfl rfl rfl (by first | exact v_idxF rfl rfl rfl rfl rfl rfl rfl (by first | assumption | omega | (have h9 := us_at (l := l) (i := i) (by assumption) (by omega); omega)) | exact v_idx rfl rfl rfl rfl rfl rfl rfl (by first | assumption | omega | (have h9 := us_at (l := l) (i := i) (by assumption) (by omega); omega))) rfl rfl rfl ?_
          refine O_op (env' := uL1n124) (c := .turn) rfl rfl rfl (v_storeT rfl rfl rfl rfl rfl rfl rfl (by first | exact get_app rfl rfl | exact get_out (by assumption) | assumption | (simp [*]; done)) (by first | exact Nat.le_of_ble_eq_true rfl | (simp only [List.length_map, List.length_cons, List.length_nil]; omega) | omega | (simp; done) | (simp; omega)) (by exact (set_app rfl).trans (by rw [splice_w (by omega)]))) rfl rfl rfl ?_
          refine O_nil [] (by kernel_rfl) (trivial) ?_
          refine K_seq ?_
          refine B_seq ?_
          refine B_region ?_
          refine L_op (env' := uL1n124) rfl rfl (v_move (.inl rfl) rfl) rfl ?_
          refine L_gh (Gh.freezeL (l := (l.set i (l.getD i 0 &&& 1#64 <<< u)).map iW) 98 0 rfl rfl (by rw [show l.length * 1 = (l.set i (l.getD i 0 &&& 1#64 <<< u)).length * 1 by rw [List.length_set]]; exact mapW_all) (Nat.le_refl _) rfl) ?_
          refine L_call rfl rfl rfl (by exact Least_m _ (l.set i (l.getD i 0 &&& 1#64 <<< u)) (by rw [List.length_set]) (by rw [List.length_set]; exact hl12)) ?_
          rintro _ _ ⟨rfl, rfl⟩
          refine L_env (env' := uL1n124) rfl ?_
          refine L_op (env' := uL1n124) rfl rfl (v_move (.inl rfl) rfl) rfl ?_
          refine L_op (env' := uL1n124) rfl rfl (rfl) rfl ?_
          refine L_op (env' := uL1n124) rfl rfl (rfl) rfl ?_
          refine L_op (env' := uL1n124) rfl rfl (v_move (.inr rfl) rfl) rfl ?_
          refine L_op (env' := uL1n124) rfl rfl (v_move (.inr rfl) rfl) rfl ?_
          refine L_nil ?_
          refine K_seq ?_
          refine B_seq ?_
          refine B_region ?_
          refine L_op (env' := uL1n124) rfl rfl (v_move (.inl rfl) rfl) rfl ?_
          refine L_op (env' := uL1n124) rfl rfl (v_move (.inl rfl) rfl) rfl ?_
          refine L_op (env' := uL1n124) rfl rfl (v_move (.inl rfl) rfl) rfl ?_
          refine L_op (env' := uL1n124) rfl rfl (v_shrW rfl rfl rfl (by first | assumption | omega | (have h9 := us_at (l := l) (i := i) (by assumption) (by omega); omega))) rfl ?_
          refine L_op (env' := uL1n124) rfl rfl (v_andW (b := 1#64) rfl rfl rfl) rfl ?_
          refine L_op (env' := uL1n124) rfl rfl (rfl) rfl ?_
          refine L_op (env' := uL1n124) rfl rfl (v_is false rfl (by rw [one_can (by omega) (by omega)]; simp)) rfl ?_
          refine L_nil ?_
          refine K_seq ?_
          refine B_false rfl rfl ?_
          refine B_skip ?_
          refine K_blk ?_
          refine K_seq ?_
          refine B_region ?_
          refine L_op (env' := uL1n124) rfl rfl (v_move (.inl rfl) rfl) rfl ?_
          refine L_op (env' := uL1n124) rfl rfl (v_addI rfl rfl rfl (by first | assumption | omega | (have h9 := us_at (l := l) (i := i) (by assumption) (by omega); omega))) rfl ?_
          refine L_op (env' := uL1n124) rfl rfl (v_move (.inr rfl) rfl) rfl ?_
          refine L_nil ?_
          refine K_loopG (true :: true :: true :: false :: false :: false :: false :: false :: false :: true :: true :: true :: true :: true :: true :: true :: true :: true :: true :: true :: true :: true :: true :: true :: true :: true :: true :: true :: true :: true :: true :: true :: true :: true :: true :: true :: true :: true :: true :: true :: true :: true :: true :: true :: true :: true :: true :: true :: true :: true :: true :: true :: true :: true :: true :: true :: true :: true :: true :: true :: true :: true :: true :: true :: true :: true :: true :: true :: true :: true :: true :: true :: true :: true :: true :: true :: true :: true :: true :: true :: true :: true :: true :: true :: true :: true :: true :: true :: true :: true :: true :: true :: true :: true :: true :: true :: true :: true :: true :: true :: true :: true :: true :: true :: true :: true :: true :: true :: true :: true :: true :: true :: true :: true :: true :: true :: true :: true :: true :: true :: true :: true :: true :: true :: []) (env' := uL1n124) rfl (Gh.dropTo (L := []) (X := [.dead]) 0 rfl (BaseOk.refl _) (by first | (simp [VVal.underL, VVal.under, fzW_under, mapN_under]; done) | (simp [VVal.underL, VVal.under, fzW_under, mapN_under]; omega)) rfl) ⟨u + 1, ?_, rfl, ?_⟩
          · first | omega | (simp only []; omega)
          · exact ⟨by omega, rfl⟩
        · try simp only [decide_eq_true_eq, decide_eq_false_iff_not, Bool.not_eq_true', Bool.not_eq_false', bne_iff_ne, beq_iff_eq, Bool.and_eq_true, Bool.or_eq_true, Bool.not_eq_true, ge_iff_le, gt_iff_lt, Int.not_le, Int.not_lt, beq_eq_false_iff_ne, bne_eq_false_iff_eq, ne_eq, Decidable.not_not, wd_zero, wd_one, wd_inj] at hc4
          refine B_exit ?_
          refine K_seqX ?_
          refine K_loopX ?_
          refine K_blkX ?_
          refine K_blk ?_
          refine K_seq ?_
          refine B_region ?_
          refine L_op (env' := uL1n124) rfl rfl (v_move (.inl rfl) rfl) rfl ?_
          refine L_op (env' := uL1n124) rfl rfl (v_addI rfl rfl rfl (by first | assumption | omega | (have h9 := us_at (l := l) (i := i) (by assumption) (by omega); omega))) rfl ?_
          refine L_op (env' := uL1n124) rfl rfl (v_move (.inr rfl) rfl) rfl ?_
          refine L_nil ?_
          refine K_loop (true :: true :: true :: false :: false :: false :: false :: true :: true :: true :: true :: true :: true :: true :: true :: true :: true :: true :: true :: true :: true :: true :: true :: true :: true :: true :: true :: true :: true :: true :: true :: true :: true :: true :: true :: true :: true :: true :: true :: true :: true :: true :: true :: true :: true :: true :: true :: true :: true :: true :: true :: true :: true :: true :: true :: true :: true :: true :: true :: true :: true :: true :: true :: true :: true :: true :: true :: true :: true :: true :: true :: true :: true :: true :: true :: true :: true :: true :: true :: true :: true :: true :: true :: true :: true :: true :: true :: true :: true :: true :: true :: true :: true :: true :: true :: true :: true :: true :: true :: true :: true :: true :: true :: true :: true :: true :: true :: true :: true :: true :: true :: true :: true :: true :: true :: true :: true :: true :: true :: true :: true :: true :: true :: true :: []) (env' := uL1n124) rfl ⟨i + 1, ?_, rfl, ?_⟩
          · first | omega | (simp only []; omega)
          · exact ⟨by omega, rfl⟩
      · try simp only [decide_eq_true_eq, decide_eq_false_iff_not, Bool.not_eq_true', Bool.not_eq_false', bne_iff_ne, beq_iff_eq, Bool.and_eq_true, Bool.or_eq_true, Bool.not_eq_true, ge_iff_le, gt_iff_lt, Int.not_le, Int.not_lt, beq_eq_false_iff_ne, bne_eq_false_iff_eq, ne_eq, Decidable.not_not, wd_zero, wd_one, wd_inj] at hg3
        refine L_off (env' := uL1n124) rfl rfl ?_
        refine L_off (env' := uL1n124) rfl rfl ?_
        refine L_off (env' := uL1n124) rfl rfl ?_
        refine L_off (env' := uL1n124) rfl rfl ?_
        refine L_off (env' := uL1n124) rfl rfl ?_
        refine L_off (env' := uL1n124) rfl rfl ?_
        refine L_off (env' := uL1n124) rfl rfl ?_
        refine L_off (env' := uL1n124) rfl rfl ?_
        refine L_off (env' := uL1n124) rfl rfl ?_
        refine L_off (env' := uL1n124) rfl rfl ?_
        refine L_off (env' := uL1n124) rfl rfl ?_
        refine L_off (env' := uL1n124) rfl rfl ?_
        refine L_off (env' := uL1n124) rfl rfl ?_
        refine L_off (env' := uL1n124) rfl rfl ?_
        refine L_off (env' := uL1n124) rfl rfl ?_
        refine L_off (env' := uL1n124) rfl rfl ?_
        refine L_off (env' := uL1n124) rfl rfl ?_
        refine L_off (env' := uL1n124) rfl rfl ?_
        refine L_off (env' := uL1n124) rfl rfl ?_
        refine L_off (env' := uL1n124) rfl rfl ?_
        refine L_off (env' := uL1n124) rfl rfl ?_
        refine L_off (env' := uL1n124) rfl rfl ?_
        refine L_off (env' := uL1n124) rfl rfl ?_
        refine L_off (env' := uL1n124) rfl rfl ?_
        refine L_off (env' := uL1n124) rfl rfl ?_
        refine L_off (env' := uL1n124) rfl rfl ?_
        refine L_off (env' := uL1n124) rfl rfl ?_
        refine L_off (env' := uL1n124) rfl rfl ?_
        refine L_op (env' := uL1n124) rfl rfl (v_pickFC (VVal.bool false) rfl rfl rfl) rfl ?_
        refine L_op (env' := uL1n124) rfl rfl (v_pickF rfl rfl rfl) rfl ?_
        refine L_nil ?_
        refine K_seq ?_
        refine B_false rfl rfl ?_
        refine B_skip ?_
        refine K_seq ?_
        refine B_seq ?_
        refine B_region ?_
        refine L_op (env' := uL1n124) rfl rfl (v_const (VVal.int .i64 0) (.inr rfl) rfl) rfl ?_
        refine L_nil ?_
        refine K_seq ?_
        refine B_block ?_
        refine B_clear (true :: true :: true :: false :: false :: false :: false :: false :: false :: true :: true :: true :: true :: true :: true :: true :: true :: true :: true :: true :: true :: true :: true :: true :: true :: true :: true :: true :: true :: true :: true :: true :: true :: true :: true :: true :: true :: true :: true :: true :: true :: true :: true :: true :: true :: true :: true :: true :: true :: true :: true :: true :: true :: true :: true :: true :: true :: true :: true :: true :: true :: true :: true :: true :: true :: true :: true :: true :: true :: true :: true :: true :: true :: true :: true :: true :: true :: true :: true :: true :: true :: true :: true :: true :: true :: true :: true :: true :: true :: true :: true :: true :: true :: true :: true :: true :: true :: true :: true :: true :: true :: true :: true :: true :: true :: true :: true :: true :: true :: true :: true :: true :: true :: true :: true :: true :: true :: true :: true :: true :: true :: true :: true :: true :: []) (env' := uL1n124) rfl ?_
        refine B_loopE (fun (u : Nat) => 64 - u) (fun (u : Nat) => [(8, iI (u : Nat))]) (fun (u : Nat) G => (u ≤ 64) ∧ G = H ++ []) 0 rfl ?_ ?_
        · refine ⟨?_, rfl⟩
          exact Nat.zero_le _
        rintro u _ ⟨hu, rfl⟩
        refine B_env (env' := uL1n124) rfl ?_
        refine B_seq ?_
        refine B_seq ?_
        refine B_region ?_
        refine L_op (env' := uL1n124) rfl rfl (v_move (.inl rfl) rfl) rfl ?_
        refine L_op (env' := uL1n124) rfl rfl (rfl) rfl ?_
        refine L_nil ?_
        refine K_seq ?_
        refine B_cond _ rfl (fun hc5 => ?_) (fun hc5 => ?_)
        · try simp only [decide_eq_true_eq, decide_eq_false_iff_not, Bool.not_eq_true', Bool.not_eq_false', bne_iff_ne, beq_iff_eq, Bool.and_eq_true, Bool.or_eq_true, Bool.not_eq_true, ge_iff_le, gt_iff_lt, Int.not_le, Int.not_lt, beq_eq_false_iff_ne, bne_eq_false_iff_eq, ne_eq, Decidable.not_not, wd_zero, wd_one, wd_inj] at hc5
          refine B_skip ?_
          refine K_seq ?_
          refine B_seq ?_
          refine B_block ?_
          refine B_seq ?_
          refine B_region ?_
          refine L_op (env' := uL1n124) rfl rfl (v_move (.inl rfl) rfl) rfl ?_
          refine L_call rfl rfl rfl (by exact few_L _ _ l hl12) ?_
          rintro _ _ ⟨rfl, rfl⟩
          refine L_env (env' := uL1n124) rfl ?_
          refine L_op (env' := uL1n124) rfl rfl (v_move (.inr rfl) rfl) rfl ?_
          refine L_nil ?_
          refine K_seq ?_
          refine B_seq ?_
          refine B_draw [0, 1, 2, 3, 4, 5, 6, 7, 8, 9, 10] #[0, 0, 0, 0, 12, 28, 0, 64, 252, 511, 1023] (by kernel_rfl) (by kernel_rfl) (by kernel_rfl) ?_
          refine O_op (env' := uL1n124) (c := .calm) rfl rfl rfl (v_move (.inl rfl) rfl) rfl rfl rfl ?_
          refine O_op (env' := uL1n124) (c := .calm) rfl rfl rfl (v_move (.inl rfl) rfl) rfl rfl rfl ?_
          refine O_op (env' := uL1n124) (c := .calm) rfl rfl rfl (v_move (.inl rfl) rfl) rfl rfl rfl ?_
          refine O_op (env' := uL1n124) (c := .calm) rfl rfl rfl (v_move (.inl rfl) rfl) rfl rfl rfl ?_
          refine O_op (env' := uL1n124) (c := .calm) rfl rfl rfl (by first | exact v_idxF rfl rfl rfl rfl rfl rfl rfl (by first | assumption | omega | (have h9 := us_at (l := l) (i := i) (by assumption) (by omega); omega)) | exact v_idx rfl rfl rfl rfl rfl rfl rfl (by first | assumption | omega | (have h9 := us_at (l := l) (i := i) (by assumption) (by omega); omega))) rfl rfl rfl ?_
          refine O_op (env' := uL1n124) (c := .look) rfl rfl rfl (by first | exact v_loadF rfl rfl rfl rfl (by first | rfl | assumption | exact us_cell (by first | omega | (have h9 := us_at (l := l) (i := i) (by assumption) (by omega); omega)) | exact fget (α := BitVec 64) 0 (by omega) | exact fget0 (α := BitVec 64) 0 (by omega)) | exact v_load rfl rfl rfl rfl (by first | exact get_app rfl rfl | exact get_out (by assumption) | assumption | (simp [*]; done)) (by first | rfl | assumption | exact us_cell (by first | omega | (have h9 := us_at (l := l) (i := i) (by assumption) (by omega); omega)) | exact fget (α := BitVec 64) 0 (by omega) | exact fget0 (α := BitVec 64) 0 (by omega))) rfl rfl rfl ?_
          refine O_op (env' := uL1n124) (c := .calm) rfl rfl rfl (v_move (.inl rfl) rfl) rfl rfl rfl ?_
          refine O_op (env' := uL1n124) (c := .calm) rfl rfl rfl (v_shl1 rfl rfl rfl (by first | assumption | omega | (have h9 := us_at (l := l) (i := i) (by assumption) (by omega); omega))) rfl rfl rfl ?_
          refine O_op (env' := uL1n124) (c := .calm) rfl rfl rfl (v_andW rfl rfl rfl) rfl rfl rfl ?_
          refine O_op (env' := uL1n124) (c := .calm) rfl rfl rfl (by first | exact v_idxF rfl rfl rfl rfl rfl rfl rfl (by first | assumption | omega | (have h9 := us_at (l := l) (i := i) (by assumption) (by omega); omega)) | exact v_idx rfl rfl rfl rfl rfl rfl rfl (by first | assumption | omega | (have h9 := us_at (l := l) (i := i) (by assumption) (by omega); omega))) rfl rfl rfl ?_
          refine O_op (env' := uL1n124) (c := .turn) rfl rfl rfl (v_storeT rfl rfl rfl rfl rfl rfl rfl (by first | exact get_app rfl rfl | exact get_out (by assumption) | assumption | (simp [*]; done)) (by first | exact Nat.le_of_ble_eq_true rfl | (simp only [List.length_map, List.length_cons, List.length_nil]; omega) | omega | (simp; done) | (simp; omega)) (by exact (set_app rfl).trans (by rw [splice_w (by omega)]))) rfl rfl rfl ?_
          refine O_nil [] (by kernel_rfl) (trivial) ?_
          refine K_seq ?_
          refine B_seq ?_
          refine B_region ?_
          refine L_op (env' := uL1n124) rfl rfl (v_move (.inl rfl) rfl) rfl ?_
          refine L_gh (Gh.freezeL (l := (l.set i (l.getD i 0 &&& 1#64 <<< u)).map iW) 98 0 rfl rfl (by rw [show l.length * 1 = (l.set i (l.getD i 0 &&& 1#64 <<< u)).length * 1 by rw [List.length_set]]; exact mapW_all) (Nat.le_refl _) rfl) ?_
          refine L_call rfl rfl rfl (by exact Least_m _ (l.set i (l.getD i 0 &&& 1#64 <<< u)) (by rw [List.length_set]) (by rw [List.length_set]; exact hl12)) ?_
          rintro _ _ ⟨rfl, rfl⟩
          refine L_env (env' := uL1n124) rfl ?_
          refine L_op (env' := uL1n124) rfl rfl (v_move (.inl rfl) rfl) rfl ?_
          refine L_op (env' := uL1n124) rfl rfl (rfl) rfl ?_
          refine L_op (env' := uL1n124) rfl rfl (rfl) rfl ?_
          refine L_op (env' := uL1n124) rfl rfl (v_move (.inr rfl) rfl) rfl ?_
          refine L_op (env' := uL1n124) rfl rfl (v_move (.inr rfl) rfl) rfl ?_
          refine L_nil ?_
          refine K_seq ?_
          refine B_seq ?_
          refine B_region ?_
          refine L_op (env' := uL1n124) rfl rfl (v_move (.inl rfl) rfl) rfl ?_
          refine L_op (env' := uL1n124) rfl rfl (v_move (.inl rfl) rfl) rfl ?_
          refine L_op (env' := uL1n124) rfl rfl (v_move (.inl rfl) rfl) rfl ?_
          refine L_op (env' := uL1n124) rfl rfl (v_shrW rfl rfl rfl (by first | assumption | omega | (have h9 := us_at (l := l) (i := i) (by assumption) (by omega); omega))) rfl ?_
          refine L_op (env' := uL1n124) rfl rfl (v_andW (b := 1#64) rfl rfl rfl) rfl ?_
          refine L_op (env' := uL1n124) rfl rfl (rfl) rfl ?_
          refine L_op (env' := uL1n124) rfl rfl (v_is false rfl (by rw [one_can (by omega) (by omega)]; simp)) rfl ?_
          refine L_nil ?_
          refine K_seq ?_
          refine B_false rfl rfl ?_
          refine B_skip ?_
          refine K_blk ?_
          refine K_seq ?_
          refine B_region ?_
          refine L_op (env' := uL1n124) rfl rfl (v_move (.inl rfl) rfl) rfl ?_
          refine L_op (env' := uL1n124) rfl rfl (v_addI rfl rfl rfl (by first | assumption | omega | (have h9 := us_at (l := l) (i := i) (by assumption) (by omega); omega))) rfl ?_
          refine L_op (env' := uL1n124) rfl rfl (v_move (.inr rfl) rfl) rfl ?_
          refine L_nil ?_
          refine K_loopG (true :: true :: true :: false :: false :: false :: false :: false :: false :: true :: true :: true :: true :: true :: true :: true :: true :: true :: true :: true :: true :: true :: true :: true :: true :: true :: true :: true :: true :: true :: true :: true :: true :: true :: true :: true :: true :: true :: true :: true :: true :: true :: true :: true :: true :: true :: true :: true :: true :: true :: true :: true :: true :: true :: true :: true :: true :: true :: true :: true :: true :: true :: true :: true :: true :: true :: true :: true :: true :: true :: true :: true :: true :: true :: true :: true :: true :: true :: true :: true :: true :: true :: true :: true :: true :: true :: true :: true :: true :: true :: true :: true :: true :: true :: true :: true :: true :: true :: true :: true :: true :: true :: true :: true :: true :: true :: true :: true :: true :: true :: true :: true :: true :: true :: true :: true :: true :: true :: true :: true :: true :: true :: true :: true :: []) (env' := uL1n124) rfl (Gh.dropTo (L := []) (X := [.dead]) 0 rfl (BaseOk.refl _) (by first | (simp [VVal.underL, VVal.under, fzW_under, mapN_under]; done) | (simp [VVal.underL, VVal.under, fzW_under, mapN_under]; omega)) rfl) ⟨u + 1, ?_, rfl, ?_⟩
          · first | omega | (simp only []; omega)
          · exact ⟨by omega, rfl⟩
        · try simp only [decide_eq_true_eq, decide_eq_false_iff_not, Bool.not_eq_true', Bool.not_eq_false', bne_iff_ne, beq_iff_eq, Bool.and_eq_true, Bool.or_eq_true, Bool.not_eq_true, ge_iff_le, gt_iff_lt, Int.not_le, Int.not_lt, beq_eq_false_iff_ne, bne_eq_false_iff_eq, ne_eq, Decidable.not_not, wd_zero, wd_one, wd_inj] at hc5
          refine B_exit ?_
          refine K_seqX ?_
          refine K_loopX ?_
          refine K_blkX ?_
          refine K_blk ?_
          refine K_seq ?_
          refine B_region ?_
          refine L_op (env' := uL1n124) rfl rfl (v_move (.inl rfl) rfl) rfl ?_
          refine L_op (env' := uL1n124) rfl rfl (v_addI rfl rfl rfl (by first | assumption | omega | (have h9 := us_at (l := l) (i := i) (by assumption) (by omega); omega))) rfl ?_
          refine L_op (env' := uL1n124) rfl rfl (v_move (.inr rfl) rfl) rfl ?_
          refine L_nil ?_
          refine K_loop (true :: true :: true :: false :: false :: false :: false :: true :: true :: true :: true :: true :: true :: true :: true :: true :: true :: true :: true :: true :: true :: true :: true :: true :: true :: true :: true :: true :: true :: true :: true :: true :: true :: true :: true :: true :: true :: true :: true :: true :: true :: true :: true :: true :: true :: true :: true :: true :: true :: true :: true :: true :: true :: true :: true :: true :: true :: true :: true :: true :: true :: true :: true :: true :: true :: true :: true :: true :: true :: true :: true :: true :: true :: true :: true :: true :: true :: true :: true :: true :: true :: true :: true :: true :: true :: true :: true :: true :: true :: true :: true :: true :: true :: true :: true :: true :: true :: true :: true :: true :: true :: true :: true :: true :: true :: true :: true :: true :: true :: true :: true :: true :: true :: true :: true :: true :: true :: true :: true :: true :: true :: true :: true :: true :: []) (env' := uL1n124) rfl ⟨i + 1, ?_, rfl, ?_⟩
          · first | omega | (simp only []; omega)
          · exact ⟨by omega, rfl⟩
    · try simp only [decide_eq_true_eq, decide_eq_false_iff_not, Bool.not_eq_true', Bool.not_eq_false', bne_iff_ne, beq_iff_eq, Bool.and_eq_true, Bool.or_eq_true, Bool.not_eq_true, ge_iff_le, gt_iff_lt, Int.not_le, Int.not_lt, beq_eq_false_iff_ne, bne_eq_false_iff_eq, ne_eq, Decidable.not_not, wd_zero, wd_one, wd_inj] at hc2
      refine B_exit ?_
      refine K_seqX ?_
      refine K_loopX ?_
      refine K_blkX ?_
      refine K_seq ?_
      refine B_seq ?_
      refine B_region ?_
      refine L_op (env' := uL1n124) rfl rfl (v_move (.inl rfl) rfl) rfl ?_
      refine L_call rfl rfl rfl (by exact few_s _ l hl12) ?_
      rintro _ _ ⟨rfl, rfl⟩
      refine L_env (env' := uL1n124) rfl ?_
      refine L_op (env' := uL1n124) rfl rfl (v_move (.inl rfl) rfl) rfl ?_
      refine L_op (env' := uL1n124) rfl rfl (rfl) rfl ?_
      refine L_call rfl rfl rfl (by exact Free_spec _ l l.length (by omega)) ?_
      rintro _ _ ⟨rfl, rfl⟩
      refine L_env (env' := uL1n124) rfl ?_
      refine L_op (env' := uL1n124) rfl rfl (v_is true rfl (by rw [freeV, if_neg (by omega)]; rfl)) rfl ?_
      refine L_op (env' := uL1n124) rfl rfl (v_move (.inl rfl) rfl) rfl ?_
      refine L_op (env' := uL1n124) rfl rfl (v_move (.inl rfl) rfl) rfl ?_
      refine L_call rfl rfl rfl (by exact few_s _ l hl12) ?_
      rintro _ _ ⟨rfl, rfl⟩
      refine L_env (env' := uL1n124) rfl ?_
      refine L_call rfl rfl rfl (by exact Free_spec _ l (-1) (by omega)) ?_
      rintro _ _ ⟨rfl, rfl⟩
      refine L_env (env' := uL1n124) rfl ?_
      refine L_op (env' := uL1n124) rfl rfl (v_is true rfl (by rw [freeV, if_neg (by omega)]; rfl)) rfl ?_
      refine L_op (env' := uL1n124) rfl rfl (v_pickT rfl rfl rfl) rfl ?_
      refine L_op (env' := uL1n124) rfl rfl (v_move (.inl rfl) rfl) rfl ?_
      refine L_call rfl rfl rfl (by exact mWakes_spec _) ?_
      rintro _ _ ⟨rfl, rfl⟩
      refine L_env (env' := uL1n124) rfl ?_
      refine L_op (env' := uL1n124) rfl rfl (v_pickT rfl rfl rfl) rfl ?_
      refine L_op (env' := uL1n124) rfl rfl (v_move (.inr rfl) rfl) rfl ?_
      refine L_nil ?_
      refine K_seq ?_
      refine B_ret ?_
      refine E_app (.inr rfl) (vres_tmp rfl rfl) (by first | exact BaseOk.refl _ | exact BaseOk.set (BaseOk.refl _) _ rfl) (by first | rfl | simp [VVal.under, VVal.underL, *]) ?_
      exact ⟨rfl, rfl⟩

theorem MatchFree_law {x : SW} (rows : List (BitVec 64)) : F (psys x) 4 [fzW rows] [] fun v G => v = .bool true := (MatchFree_walk [] rows).mono fun v G h => h.1
end Go.Proofs.YtpekleeidllllaaDoor.VT
