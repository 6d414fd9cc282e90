/- OrderReady: walks -/
import Derived.Test.YteocbhgdmpdklaaDoorS6
set_option autoImplicit false
set_option linter.unusedVariables false
set_option linter.unusedSimpArgs false
set_option maxHeartbeats 4000000
set_option maxRecDepth 100000
namespace Go.Proofs.YteocbhgdmpdklaaDoor.VT
open Go Go.V Go.RowKit

abbrev uS7n108 {a0 a1 a2 a3 a4 a5 a6 a7 a8 a9 a10 a11 a12 a13 a14 a15 a16 a17 a18 a19 a20 a21 a22 a23 a24 a25 a26 a27 a28 a29 a30 a31 a32 a33 a34 a35 a36 a37 a38 a39 a40 a41 a42 a43 a44 a45 a46 a47 a48 a49 a50 a51 a52 a53 a54 a55 a56 a57 a58 a59 a60 a61 a62 a63 a64 a65 a66 a67 a68 a69 a70 a71 a72 a73 a74 a75 a76 a77 a78 a79 a80 a81 a82 a83 a84 a85 a86 a87 a88 a89 a90 a91 a92 a93 a94 a95 a96 a97 a98 a99 a100 a101 a102 a103 a104 a105 a106 a107 : VVal} : VEnv := a0 :: a1 :: a2 :: a3 :: a4 :: a5 :: a6 :: a7 :: a8 :: a9 :: a10 :: a11 :: a12 :: a13 :: a14 :: a15 :: a16 :: a17 :: a18 :: a19 :: a20 :: a21 :: a22 :: a23 :: a24 :: a25 :: a26 :: a27 :: a28 :: a29 :: a30 :: a31 :: a32 :: a33 :: a34 :: a35 :: a36 :: a37 :: a38 :: a39 :: a40 :: a41 :: a42 :: a43 :: a44 :: a45 :: a46 :: a47 :: a48 :: a49 :: a50 :: a51 :: a52 :: a53 :: a54 :: a55 :: a56 :: a57 :: a58 :: a59 :: a60 :: a61 :: a62 :: a63 :: a64 :: a65 :: a66 :: a67 :: a68 :: a69 :: a70 :: a71 :: a72 :: a73 :: a74 :: a75 :: a76 :: a77 :: a78 :: a79 :: a80 :: a81 :: a82 :: a83 :: a84 :: a85 :: a86 :: a87 :: a88 :: a89 :: a90 :: a91 :: a92 :: a93 :: a94 :: a95 :: a96 :: a97 :: a98 :: a99 :: a100 :: a101 :: a102 :: a103 :: a104 :: a105 :: a106 :: a107 :: []

theorem v_is {T : TypeId → Option VTy} {ρ : Operand → VVal} {H : VHeap} {op : Op} {t : Bool} (b : Bool) (h : vop T ρ H op = some (.bool t, H)) (e : t = b) : vop T ρ H op = some (.bool b, H) := e ▸ h
theorem tmod64 (p : Int) : -64 < p.tmod 64 ∧ p.tmod 64 < 64 := by
  have h1 := Int.tmod_lt_of_pos p (b := 64) (by omega)
  have h2 := Int.lt_tmod_of_pos p (b := 64) (by omega)
  omega
theorem tmod64n {a : Int} (h : 0 ≤ a) : (a + 1).tmod 64 = (((a.toNat + 1) % 64 : Nat) : Int) := by
  rw [Int.tmod_eq_emod_of_nonneg (by omega)]; omega
theorem wd_beq_ne {a : BitVec 64} (h : a ≠ 0#64) : ((a.toNat : Int) == 0) = false := by rw [beq_wd0]; simpa using h
theorem wd_beq_eq {a : BitVec 64} (h : a = 0#64) : ((a.toNat : Int) == 0) = true := by rw [beq_wd0]; simpa using h

theorem OrderReady_no {x : SW} (H : VHeap) (N A B : Int) (pairs : List (Int × Int)) (w : BitVec 64) (pr : List Int) (most : BitVec 64) (hl : pairs.length * 16 ≤ 140737488355328) (e : Int) (h1 : newV N pairs = .tuple [.ptr none, iI e]) (h2 : refNewV N pairs = .tuple [.ptr none, iI e]) : F (psys x) 5 [.agg [iI N, fzP pairs, iI A, iI B, iW w, fzI pr, iW most]] H fun v G => v = .bool true ∧ G = H := by
  refine F_body Tryd.func5 rfl uS7n108 rfl ?_
  refine B_seq ?_
  refine B_region ?_
  refine L_op (env' := uS7n108) rfl rfl (v_boxT rfl rfl rfl) rfl ?_
  refine L_op (env' := uS7n108) rfl rfl (v_const (VVal.bool false) (.inr rfl) rfl) rfl ?_
  refine L_nil ?_
  refine K_seq ?_
  refine B_seq ?_
  refine B_region ?_
  refine L_op (env' := uS7n108) rfl rfl (by first | exact v_loadFA rfl rfl rfl rfl (by first | rfl | assumption | exact fget (α := BitVec 64) 0 (by omega) | exact fget (α := Int) 0 (by omega) | exact fget0 (α := BitVec 64) 0 (by omega) | exact fget0 (α := Int) 0 (by omega) | exact fget (α := Bool) false (by omega) | exact fget0 (α := Bool) false (by omega) | (simp [*]; done)) | exact v_loadA rfl rfl rfl rfl (by first | exact get_app rfl rfl | exact get_out (by assumption) | assumption | (simp [*]; done)) (by first | rfl | assumption | exact fget (α := BitVec 64) 0 (by omega) | exact fget (α := Int) 0 (by omega) | exact fget0 (α := BitVec 64) 0 (by omega) | exact fget0 (α := Int) 0 (by omega) | exact fget (α := Bool) false (by omega) | exact fget0 (α := Bool) false (by omega) | (simp [*]; done))) rfl ?_
  refine L_call rfl rfl rfl (by exact both_no _ _ _ _ _ _ _ _ hl _ h1 h2) ?_
  rintro _ _ ⟨rfl, rfl⟩
  refine L_env (env' := uS7n108) rfl ?_
  refine L_op (env' := uS7n108) rfl rfl (v_move (.inl rfl) rfl) rfl ?_
  refine L_op (env' := uS7n108) rfl rfl (rfl) rfl ?_
  refine L_op (env' := uS7n108) rfl rfl (rfl) rfl ?_
  refine L_op (env' := uS7n108) rfl rfl (rfl) rfl ?_
  refine L_op (env' := uS7n108) rfl rfl (v_move (.inr rfl) rfl) rfl ?_
  refine L_op (env' := uS7n108) rfl rfl (v_move (.inr rfl) rfl) rfl ?_
  refine L_op (env' := uS7n108) rfl rfl (v_move (.inr rfl) rfl) rfl ?_
  refine L_nil ?_
  refine K_seq ?_
  refine B_seq ?_
  refine B_seq ?_
  refine B_region ?_
  refine L_op (env' := uS7n108) rfl rfl (v_move (.inl rfl) rfl) rfl ?_
  refine L_op (env' := uS7n108) rfl rfl (rfl) rfl ?_
  refine L_op (env' := uS7n108) rfl rfl (v_move (.inl rfl) rfl) rfl ?_
  refine L_op (env' := uS7n108) rfl rfl (v_move (.inl rfl) rfl) rfl ?_
  refine L_op (env' := uS7n108) rfl rfl (rfl) rfl ?_
  refine L_op (env' := uS7n108) rfl rfl (v_pickF rfl rfl rfl) rfl ?_
  refine L_nil ?_
  refine K_seq ?_
  refine B_true rfl rfl ?_
  refine B_seq ?_
  refine B_region ?_
  refine L_op (env' := uS7n108) rfl rfl (v_move (.inl rfl) rfl) rfl ?_
  refine L_op (env' := uS7n108) rfl rfl (v_move (.inr rfl) rfl) rfl ?_
  refine L_nil ?_
  refine K_seq ?_
  refine B_ret ?_
  refine K_seqR ?_
  refine E_app (.inr rfl) (vres_tmp rfl rfl) (by first | exact BaseOk.refl _ | exact BaseOk.set (BaseOk.refl _) _ rfl) (by simp [VVal.underL, VVal.under, VBlk.under, rows_under, fz_under, rows_under, fz_underI, fzP_under, under_mapW, under_mapI, under_flatP, under_repW, *]) ?_
  exact ⟨rfl, rfl⟩

theorem OrderReady_yes {x : SW} (H : VHeap) (N A B : Int) (pairs : List (Int × Int)) (w : BitVec 64) (pr : List Int) (most : BitVec 64) (hl : pairs.length * 16 ≤ 140737488355328) (m : Nat) (hN : N = m) (ho : Ord m (rch pairs m) (preL pairs m) (sucL pairs m)) (h1 : newV N pairs = .tuple [ordV (preL pairs m) (sucL pairs m), iI 0]) (h2 : refNewV N pairs = .tuple [refV m (rch pairs m), iI 0]) : F (psys x) 5 [.agg [iI N, fzP pairs, iI A, iI B, iW w, fzI pr, iW most]] H fun v G => v = .bool true ∧ G = H := by
  subst hN
  have hm := ho.le
  refine F_body Tryd.func5 rfl uS7n108 rfl ?_
  refine B_seq ?_
  refine B_region ?_
  refine L_op (env' := uS7n108) rfl rfl (v_boxT rfl rfl rfl) rfl ?_
  refine L_op (env' := uS7n108) rfl rfl (v_const (VVal.bool false) (.inr rfl) rfl) rfl ?_
  refine L_nil ?_
  refine K_seq ?_
  refine B_seq ?_
  refine B_region ?_
  refine L_op (env' := uS7n108) rfl rfl (by first | exact v_loadFA rfl rfl rfl rfl (by first | rfl | assumption | exact fget (α := BitVec 64) 0 (by omega) | exact fget (α := Int) 0 (by omega) | exact fget0 (α := BitVec 64) 0 (by omega) | exact fget0 (α := Int) 0 (by omega) | exact fget (α := Bool) false (by omega) | exact fget0 (α := Bool) false (by omega) | (simp [*]; done)) | exact v_loadA rfl rfl rfl rfl (by first | exact get_app rfl rfl | exact get_out (by assumption) | assumption | (simp [*]; done)) (by first | rfl | assumption | exact fget (α := BitVec 64) 0 (by omega) | exact fget (α := Int) 0 (by omega) | exact fget0 (α := BitVec 64) 0 (by omega) | exact fget0 (α := Int) 0 (by omega) | exact fget (α := Bool) false (by omega) | exact fget0 (α := Bool) false (by omega) | (simp [*]; done))) rfl ?_
  refine L_call rfl rfl rfl (by exact both_yes _ _ _ _ _ _ _ _ hl _ _ _ _ h1 h2) ?_
  rintro _ _ ⟨rfl, rfl⟩
  refine L_env (env' := uS7n108) rfl ?_
  refine L_op (env' := uS7n108) rfl rfl (v_move (.inl rfl) rfl) rfl ?_
  refine L_op (env' := uS7n108) rfl rfl (rfl) rfl ?_
  refine L_op (env' := uS7n108) rfl rfl (rfl) rfl ?_
  refine L_op (env' := uS7n108) rfl rfl (rfl) rfl ?_
  refine L_op (env' := uS7n108) rfl rfl (v_move (.inr rfl) rfl) rfl ?_
  refine L_op (env' := uS7n108) rfl rfl (v_move (.inr rfl) rfl) rfl ?_
  refine L_op (env' := uS7n108) rfl rfl (v_move (.inr rfl) rfl) rfl ?_
  refine L_nil ?_
  refine K_seq ?_
  refine B_seq ?_
  refine B_seq ?_
  refine B_region ?_
  refine L_op (env' := uS7n108) rfl rfl (v_move (.inl rfl) rfl) rfl ?_
  refine L_op (env' := uS7n108) rfl rfl (rfl) rfl ?_
  refine L_op (env' := uS7n108) rfl rfl (v_move (.inl rfl) rfl) rfl ?_
  refine L_op (env' := uS7n108) rfl rfl (v_move (.inl rfl) rfl) rfl ?_
  refine L_op (env' := uS7n108) rfl rfl (rfl) rfl ?_
  refine L_op (env' := uS7n108) rfl rfl (v_pickF rfl rfl rfl) rfl ?_
  refine L_nil ?_
  refine K_seq ?_
  refine B_false rfl rfl ?_
  refine B_skip ?_
  refine K_seq ?_
  refine B_seq ?_
  refine B_region ?_
  refine L_op (env' := uS7n108) rfl rfl (v_const (VVal.int .u64 0) (.inr rfl) rfl) rfl ?_
  refine L_nil ?_
  refine K_seq ?_
  refine B_seq ?_
  refine B_seq ?_
  refine B_region ?_
  refine L_op (env' := uS7n108) rfl rfl (v_const (VVal.int .i64 0) (.inr rfl) rfl) rfl ?_
  refine L_nil ?_
  refine K_seq ?_
  refine B_block ?_
  refine B_clear (true :: false :: true :: false :: false :: true :: false :: false :: true :: true :: true :: true :: true :: true :: true :: true :: true :: true :: true :: true :: true :: true :: true :: true :: true :: true :: true :: true :: true :: true :: true :: true :: true :: true :: true :: true :: true :: true :: true :: true :: true :: true :: true :: true :: true :: true :: true :: true :: true :: true :: true :: true :: true :: true :: true :: true :: true :: true :: true :: true :: true :: true :: true :: true :: true :: true :: true :: true :: true :: true :: true :: true :: true :: true :: true :: true :: true :: true :: true :: true :: true :: true :: true :: true :: true :: true :: true :: true :: true :: true :: true :: true :: true :: true :: true :: true :: true :: true :: true :: true :: true :: true :: true :: true :: true :: true :: true :: true :: []) (env' := uS7n108) rfl ?_
  refine B_loopE (fun (⟨d, k⟩ : BitVec 64 × Nat) => m - k) (fun (⟨d, k⟩ : BitVec 64 × Nat) => [(6, iW d), (7, iI (k : Nat))]) (fun (⟨d, k⟩ : BitVec 64 × Nat) G => (k ≤ m ∧ Come m (rch pairs m) d ∧ come m d = k) ∧ G = H ++ [.cells [iI (m : Nat), fzP pairs, iI A, iI B, iW w, fzI pr, iW most] true]) ⟨0#64, 0⟩ rfl ?_ ?_
  · refine ⟨?_, rfl⟩
    exact ⟨Nat.zero_le _, Come.nil, come_0⟩
  rintro ⟨d, k⟩ _ ⟨⟨hk, hcm, hck⟩, rfl⟩
  refine B_env (env' := uS7n108) rfl ?_
  refine B_seq ?_
  refine B_seq ?_
  refine B_region ?_
  refine L_op (env' := uS7n108) rfl rfl (v_move (.inl rfl) rfl) rfl ?_
  refine L_op (env' := uS7n108) rfl rfl (v_move (.inl rfl) rfl) rfl ?_
  refine L_op (env' := uS7n108) rfl rfl (rfl) rfl ?_
  refine L_op (env' := uS7n108) rfl rfl (rfl) rfl ?_
  refine L_op (env' := uS7n108) rfl rfl (by first | exact v_loadF rfl rfl rfl rfl (by first | rfl | assumption | exact fget (α := BitVec 64) 0 (by omega) | exact fget (α := Int) 0 (by omega) | exact fget0 (α := BitVec 64) 0 (by omega) | exact fget0 (α := Int) 0 (by omega) | exact fget (α := Bool) false (by omega) | exact fget0 (α := Bool) false (by omega) | (simp [*]; done)) | exact v_load rfl rfl rfl rfl (by first | exact get_app rfl rfl | exact get_out (by assumption) | assumption | (simp [*]; done)) (by first | rfl | assumption | exact fget (α := BitVec 64) 0 (by omega) | exact fget (α := Int) 0 (by omega) | exact fget0 (α := BitVec 64) 0 (by omega) | exact fget0 (α := Int) 0 (by omega) | exact fget (α := Bool) false (by omega) | exact fget0 (α := Bool) false (by omega) | (simp [*]; done))) rfl ?_
  refine L_op (env' := uS7n108) rfl rfl (rfl) rfl ?_
  refine L_nil ?_
  refine K_seq ?_
  refine B_cond _ rfl (fun hc1 => ?_) (fun hc1 => ?_)
  · try simp only [decide_eq_true_eq, decide_eq_false_iff_not, Bool.not_eq_true', Bool.not_eq_false', bne_iff_ne, beq_iff_eq, Bool.and_eq_true, Bool.or_eq_true, Bool.not_eq_true, ge_iff_le, gt_iff_lt, Int.not_le, Int.not_lt, beq_eq_false_iff_ne, bne_eq_false_iff_eq, ne_eq, Decidable.not_not, wd_zero, wd_one, wd_inj] at hc1
    refine B_skip ?_
    refine K_seq ?_
    refine B_seq ?_
    refine B_block ?_
    refine B_seq ?_
    refine B_region ?_
    refine L_op (env' := uS7n108) rfl rfl (v_move (.inl rfl) rfl) rfl ?_
    refine L_op (env' := uS7n108) rfl rfl (v_move (.inl rfl) rfl) rfl ?_
    refine L_call rfl rfl rfl (by exact Ready_spec _ _ _ (by rw [ho.pl]; exact ho.le) _) ?_
    rintro _ _ ⟨rfl, rfl⟩
    refine L_env (env' := uS7n108) rfl ?_
    refine L_op (env' := uS7n108) rfl rfl (v_move (.inr rfl) rfl) rfl ?_
    refine L_nil ?_
    refine K_seq ?_
    refine B_seq ?_
    refine B_seq ?_
    refine B_region ?_
    refine L_op (env' := uS7n108) rfl rfl (v_move (.inl rfl) rfl) rfl ?_
    refine L_op (env' := uS7n108) rfl rfl (v_is false rfl (by exact wd_beq_ne (ho.ready_ne (by omega)))) rfl ?_
    refine L_op (env' := uS7n108) rfl rfl (v_move (.inl rfl) rfl) rfl ?_
    refine L_op (env' := uS7n108) rfl rfl (v_move (.inl rfl) rfl) rfl ?_
    refine L_op (env' := uS7n108) rfl rfl (v_move (.inl rfl) rfl) rfl ?_
    refine L_op (env' := uS7n108) rfl rfl (v_andW rfl rfl rfl) rfl ?_
    refine L_op (env' := uS7n108) rfl rfl (v_is false rfl (by rw [show (readyW (preL pairs m) d &&& d) = 0#64 from ho.ready_and]; rfl)) rfl ?_
    refine L_op (env' := uS7n108) rfl rfl (v_pickF rfl rfl rfl) rfl ?_
    refine L_op (env' := uS7n108) rfl rfl (v_move (.inl rfl) rfl) rfl ?_
    refine L_op (env' := uS7n108) rfl rfl (v_move (.inl rfl) rfl) rfl ?_
    refine L_op (env' := uS7n108) rfl rfl (v_move (.inl rfl) rfl) rfl ?_
    refine L_call rfl rfl rfl (by exact Down_spec _ _ _ _) ?_
    rintro v _ ⟨hv, rfl⟩; obtain rfl : v = .bool true := hv.trans (by rw [ho.down.2 hcm])
    refine L_env (env' := uS7n108) rfl ?_
    refine L_op (env' := uS7n108) rfl rfl (rfl) rfl ?_
    refine L_op (env' := uS7n108) rfl rfl (v_pickF rfl rfl rfl) rfl ?_
    refine L_nil ?_
    refine K_seq ?_
    refine B_false rfl rfl ?_
    refine B_skip ?_
    refine K_seq ?_
    refine B_seq ?_
    refine B_region ?_
    refine L_op (env' := uS7n108) rfl rfl (v_const (VVal.int .i64 0) (.inr rfl) rfl) rfl ?_
    refine L_nil ?_
    refine K_seq ?_
    refine B_seq ?_
    refine B_seq ?_
    refine B_region ?_
    refine L_op (env' := uS7n108) rfl rfl (v_move (.inl rfl) rfl) rfl ?_
    refine L_op (env' := uS7n108) rfl rfl (rfl) rfl ?_
    refine L_op (env' := uS7n108) rfl rfl (by first | exact v_loadF rfl rfl rfl rfl (by first | rfl | assumption | exact fget (α := BitVec 64) 0 (by omega) | exact fget (α := Int) 0 (by omega) | exact fget0 (α := BitVec 64) 0 (by omega) | exact fget0 (α := Int) 0 (by omega) | exact fget (α := Bool) false (by omega) | exact fget0 (α := Bool) false (by omega) | (simp [*]; done)) | exact v_load rfl rfl rfl rfl (by first | exact get_app rfl rfl | exact get_out (by assumption) | assumption | (simp [*]; done)) (by first | rfl | assumption | exact fget (α := BitVec 64) 0 (by omega) | exact fget (α := Int) 0 (by omega) | exact fget0 (α := BitVec 64) 0 (by omega) | exact fget0 (α := Int) 0 (by omega) | exact fget (α := Bool) false (by omega) | exact fget0 (α := Bool) false (by omega) | (simp [*]; done))) rfl ?_
    refine L_op (env' := uS7n108) rfl rfl (rfl) rfl ?_
    refine L_op (env' := uS7n108) rfl rfl (rfl) rfl ?_
    refine L_nil ?_
    refine K_seq ?_
    refine B_cond _ rfl (fun hc2 => ?_) (fun hc2 => ?_)
    · try simp only [decide_eq_true_eq, decide_eq_false_iff_not, Bool.not_eq_true', Bool.not_eq_false', bne_iff_ne, beq_iff_eq, Bool.and_eq_true, Bool.or_eq_true, Bool.not_eq_true, ge_iff_le, gt_iff_lt, Int.not_le, Int.not_lt, beq_eq_false_iff_ne, bne_eq_false_iff_eq, ne_eq, Decidable.not_not, wd_zero, wd_one, wd_inj] at hc2
      refine B_region ?_
      refine L_op (env' := uS7n108) rfl rfl (rfl) rfl ?_
      refine L_op (env' := uS7n108) rfl rfl (by first | exact v_loadF rfl rfl rfl rfl (by first | rfl | assumption | exact fget (α := BitVec 64) 0 (by omega) | exact fget (α := Int) 0 (by omega) | exact fget0 (α := BitVec 64) 0 (by omega) | exact fget0 (α := Int) 0 (by omega) | exact fget (α := Bool) false (by omega) | exact fget0 (α := Bool) false (by omega) | (simp [*]; done)) | exact v_load rfl rfl rfl rfl (by first | exact get_app rfl rfl | exact get_out (by assumption) | assumption | (simp [*]; done)) (by first | rfl | assumption | exact fget (α := BitVec 64) 0 (by omega) | exact fget (α := Int) 0 (by omega) | exact fget0 (α := BitVec 64) 0 (by omega) | exact fget0 (α := Int) 0 (by omega) | exact fget (α := Bool) false (by omega) | exact fget0 (α := Bool) false (by omega) | (simp [*]; done))) rfl ?_
      refine L_op (env' := uS7n108) rfl rfl (v_move (.inl rfl) rfl) rfl ?_
      refine L_op (env' := uS7n108) rfl rfl (by first | exact v_idxF rfl rfl rfl rfl rfl rfl rfl (by first | assumption | omega | (simp [*]; done) | (simp at *; omega)) | exact v_idx rfl rfl rfl rfl rfl rfl rfl (by first | assumption | omega | (simp [*]; done) | (simp at *; omega))) rfl ?_
      refine L_op (env' := uS7n108) rfl rfl (by first | exact v_loadF rfl rfl rfl rfl (by first | rfl | assumption | exact fget (α := BitVec 64) 0 (by omega) | exact fget (α := Int) 0 (by omega) | exact fget0 (α := BitVec 64) 0 (by omega) | exact fget0 (α := Int) 0 (by omega) | exact fget (α := Bool) false (by omega) | exact fget0 (α := Bool) false (by omega) | (simp [*]; done)) | exact v_load rfl rfl rfl rfl (by first | exact get_app rfl rfl | exact get_out (by assumption) | assumption | (simp [*]; done)) (by first | rfl | assumption | exact fget (α := BitVec 64) 0 (by omega) | exact fget (α := Int) 0 (by omega) | exact fget0 (α := BitVec 64) 0 (by omega) | exact fget0 (α := Int) 0 (by omega) | exact fget (α := Bool) false (by omega) | exact fget0 (α := Bool) false (by omega) | (simp [*]; done))) rfl ?_
      refine L_op (env' := uS7n108) rfl rfl (v_move (.inr rfl) rfl) rfl ?_
      refine L_nil ?_
      refine K_seq ?_
      refine B_seq ?_
      refine B_region ?_
      refine L_op (env' := uS7n108) rfl rfl (v_move (.inl rfl) rfl) rfl ?_
      refine L_op (env' := uS7n108) rfl rfl (rfl) rfl ?_
      refine L_op (env' := uS7n108) rfl rfl (v_move (.inr rfl) rfl) rfl ?_
      refine L_nil ?_
      refine K_seq ?_
      refine B_seq ?_
      refine B_seq ?_
      refine B_region ?_
      refine L_op (env' := uS7n108) rfl rfl (v_move (.inl rfl) rfl) rfl ?_
      refine L_op (env' := uS7n108) rfl rfl (rfl) rfl ?_
      refine L_nil ?_
      refine K_seq ?_
      refine B_cond _ rfl (fun hc3 => ?_) (fun hc3 => ?_)
      · try simp only [decide_eq_true_eq, decide_eq_false_iff_not, Bool.not_eq_true', Bool.not_eq_false', bne_iff_ne, beq_iff_eq, Bool.and_eq_true, Bool.or_eq_true, Bool.not_eq_true, ge_iff_le, gt_iff_lt, Int.not_le, Int.not_lt, beq_eq_false_iff_ne, bne_eq_false_iff_eq, ne_eq, Decidable.not_not, wd_zero, wd_one, wd_inj] at hc3
        refine B_region ?_
        refine L_op (env' := uS7n108) rfl rfl (v_move (.inl rfl) rfl) rfl ?_
        refine L_op (env' := uS7n108) rfl rfl (v_addI rfl rfl rfl (by have h1 := tmod64 (pr.getD (k : Int).toNat 0); have h2 : (0 : Int).tmod 64 = 0 := rfl; omega)) rfl ?_
        refine L_op (env' := uS7n108) rfl rfl (v_move (.inr rfl) rfl) rfl ?_
        refine L_nil ?_
        refine K_seq ?_
        refine B_seq ?_
        refine B_block ?_
        refine B_clear (true :: false :: true :: false :: false :: true :: false :: false :: false :: true :: false :: true :: true :: true :: true :: true :: true :: true :: true :: true :: true :: true :: true :: true :: true :: true :: true :: true :: true :: true :: true :: true :: true :: true :: true :: true :: true :: true :: true :: true :: true :: true :: true :: true :: true :: true :: true :: true :: true :: true :: true :: true :: true :: true :: true :: true :: true :: true :: true :: true :: true :: true :: true :: true :: true :: true :: true :: true :: true :: true :: true :: true :: true :: true :: true :: true :: true :: true :: true :: true :: true :: true :: true :: true :: true :: true :: true :: true :: true :: true :: true :: true :: true :: true :: true :: true :: true :: true :: true :: true :: true :: true :: true :: true :: true :: true :: true :: true :: []) (env' := uS7n108) rfl ?_
        obtain ⟨c, hc⟩ := ho.some_ready (come_lt (by omega : come m d < m))
        have hc64 : c < 64 := by have := (ho.ready.1 hc).1; omega
        refine B_loopE (fun (a : Int) => togo c a.toNat) (fun (a : Int) => [(10, iI a)]) (fun (a : Int) G => (0 ≤ a ∧ a < 64) ∧ G = H ++ [.cells [iI (m : Nat), fzP pairs, iI A, iI B, iW w, fzI pr, iW most] true]) _ rfl ?_ ?_
        · refine ⟨?_, rfl⟩
          have h1 := tmod64 (pr.getD (k : Int).toNat 0); have h2 : (0 : Int).tmod 64 = 0 := rfl; omega
        rintro a _ ⟨ha, rfl⟩
        refine B_env (env' := uS7n108) rfl ?_
        refine B_seq ?_
        refine B_seq ?_
        refine B_region ?_
        refine L_op (env' := uS7n108) rfl rfl (v_move (.inl rfl) rfl) rfl ?_
        refine L_op (env' := uS7n108) rfl rfl (v_move (.inl rfl) rfl) rfl ?_
        refine L_op (env' := uS7n108) rfl rfl (v_shrW rfl rfl rfl (by first | assumption | omega | (simp [*]; done) | (simp at *; omega))) rfl ?_
        refine L_op (env' := uS7n108) rfl rfl (v_andW (b := 1#64) rfl rfl rfl) rfl ?_
        refine L_op (env' := uS7n108) rfl rfl (rfl) rfl ?_
        refine L_nil ?_
        refine K_seq ?_
        refine B_cond _ rfl (fun hc4 => ?_) (fun hc4 => ?_)
        · try simp only [decide_eq_true_eq, decide_eq_false_iff_not, Bool.not_eq_true', Bool.not_eq_false', bne_iff_ne, beq_iff_eq, Bool.and_eq_true, Bool.or_eq_true, Bool.not_eq_true, ge_iff_le, gt_iff_lt, Int.not_le, Int.not_lt, beq_eq_false_iff_ne, bne_eq_false_iff_eq, ne_eq, Decidable.not_not, wd_zero, wd_one, wd_inj] at hc4
          refine B_skip ?_
          refine K_seq ?_
          refine B_block ?_
          refine B_region ?_
          refine L_op (env' := uS7n108) rfl rfl (v_move (.inl rfl) rfl) rfl ?_
          refine L_op (env' := uS7n108) rfl rfl (v_addI rfl rfl rfl (by first | assumption | omega | (simp [*]; done) | (simp at *; omega))) rfl ?_
          refine L_op (env' := uS7n108) rfl rfl (rfl) rfl ?_
          refine L_op (env' := uS7n108) rfl rfl (v_move (.inr rfl) rfl) rfl ?_
          refine L_nil ?_
          refine K_blk ?_
          have h9 : readyW (preL pairs m) d >>> a.toNat &&& 1#64 = 0#64 := by assumption
          rw [sh0] at h9
          have hne : a.toNat ≠ c := fun e => by rw [e, hc] at h9; cases h9
          have htn := tmod64n ha.1
          refine K_loop (true :: false :: true :: false :: false :: true :: false :: false :: false :: true :: false :: true :: true :: true :: true :: true :: true :: true :: true :: true :: true :: true :: true :: true :: true :: true :: true :: true :: true :: true :: true :: true :: true :: true :: true :: true :: true :: true :: true :: true :: true :: true :: true :: true :: true :: true :: true :: true :: true :: true :: true :: true :: true :: true :: true :: true :: true :: true :: true :: true :: true :: true :: true :: true :: true :: true :: true :: true :: true :: true :: true :: true :: true :: true :: true :: true :: true :: true :: true :: true :: true :: true :: true :: true :: true :: true :: true :: true :: true :: true :: true :: true :: true :: true :: true :: true :: true :: true :: true :: true :: true :: true :: true :: true :: true :: true :: true :: true :: []) (env' := uS7n108) rfl ⟨_, ?_, rfl, ?_⟩
          · show togo c (Int.tmod (a + 1) 64).toNat < togo c a.toNat; rw [htn]; exact togo_next hc64 (by omega) hne
          · exact ⟨by omega, rfl⟩
        · try simp only [decide_eq_true_eq, decide_eq_false_iff_not, Bool.not_eq_true', Bool.not_eq_false', bne_iff_ne, beq_iff_eq, Bool.and_eq_true, Bool.or_eq_true, Bool.not_eq_true, ge_iff_le, gt_iff_lt, Int.not_le, Int.not_lt, beq_eq_false_iff_ne, bne_eq_false_iff_eq, ne_eq, Decidable.not_not, wd_zero, wd_one, wd_inj] at hc4
          refine B_exit ?_
          refine K_seqX ?_
          refine K_loopX ?_
          refine K_blkX ?_
          refine K_seq ?_
          refine B_seq ?_
          refine B_seq ?_
          refine B_region ?_
          have hbit : (readyW (preL pairs m) d).getLsbD a.toNat = true := by
            have h9 : ¬ readyW (preL pairs m) d >>> a.toNat &&& 1#64 = 0#64 := by assumption
            rw [sh0] at h9; simpa using h9
          have ham : a.toNat < m := (ho.ready.1 hbit).1
          refine L_op (env' := uS7n108) rfl rfl (v_move (.inl rfl) rfl) rfl ?_
          refine L_op (env' := uS7n108) rfl rfl (v_move (.inl rfl) rfl) rfl ?_
          refine L_op (env' := uS7n108) rfl rfl (rfl) rfl ?_
          refine L_op (env' := uS7n108) rfl rfl (rfl) rfl ?_
          refine L_op (env' := uS7n108) rfl rfl (by first | exact v_loadF rfl rfl rfl rfl (by first | rfl | assumption | exact fget (α := BitVec 64) 0 (by omega) | exact fget (α := Int) 0 (by omega) | exact fget0 (α := BitVec 64) 0 (by omega) | exact fget0 (α := Int) 0 (by omega) | exact fget (α := Bool) false (by omega) | exact fget0 (α := Bool) false (by omega) | (simp [*]; done)) | exact v_load rfl rfl rfl rfl (by first | exact get_app rfl rfl | exact get_out (by assumption) | assumption | (simp [*]; done)) (by first | rfl | assumption | exact fget (α := BitVec 64) 0 (by omega) | exact fget (α := Int) 0 (by omega) | exact fget0 (α := BitVec 64) 0 (by omega) | exact fget0 (α := Int) 0 (by omega) | exact fget (α := Bool) false (by omega) | exact fget0 (α := Bool) false (by omega) | (simp [*]; done))) rfl ?_
          refine L_op (env' := uS7n108) rfl rfl (v_is false rfl (by simp; omega)) rfl ?_
          refine L_op (env' := uS7n108) rfl rfl (v_move (.inl rfl) rfl) rfl ?_
          refine L_op (env' := uS7n108) rfl rfl (v_move (.inl rfl) rfl) rfl ?_
          refine L_op (env' := uS7n108) rfl rfl (v_move (.inl rfl) rfl) rfl ?_
          refine L_call rfl rfl rfl (by exact Preds_spec _ _ _ _) ?_
          rintro v _ ⟨hv, rfl⟩; obtain rfl : v = iW ((preL pairs m).getD a.toNat 0) := hv.trans (by rw [if_pos (by rw [ho.pl]; omega)])
          refine L_env (env' := uS7n108) rfl ?_
          refine L_op (env' := uS7n108) rfl rfl (v_move (.inl rfl) rfl) rfl ?_
          refine L_op (env' := uS7n108) rfl rfl (v_andNotW rfl rfl rfl) rfl ?_
          refine L_op (env' := uS7n108) rfl rfl (v_is false rfl (by rw [(ho.pred ham).2 (ho.ready.1 hbit).2.1]; rfl)) rfl ?_
          refine L_op (env' := uS7n108) rfl rfl (v_pickF rfl rfl rfl) rfl ?_
          refine L_op (env' := uS7n108) rfl rfl (v_move (.inl rfl) rfl) rfl ?_
          refine L_op (env' := uS7n108) rfl rfl (v_move (.inl rfl) rfl) rfl ?_
          refine L_op (env' := uS7n108) rfl rfl (v_move (.inl rfl) rfl) rfl ?_
          refine L_call rfl rfl rfl (by exact Succs_spec _ _ _ (by rw [ho.pl, ho.sl]) _) ?_
          rintro v _ ⟨hv, rfl⟩; obtain rfl : v = iW ((sucL pairs m).getD a.toNat 0) := hv.trans (by rw [if_pos (by rw [ho.pl]; omega)])
          refine L_env (env' := uS7n108) rfl ?_
          refine L_op (env' := uS7n108) rfl rfl (v_move (.inl rfl) rfl) rfl ?_
          refine L_op (env' := uS7n108) rfl rfl (v_andW rfl rfl rfl) rfl ?_
          refine L_op (env' := uS7n108) rfl rfl (v_is false rfl (by rw [ho.succ_none hcm hbit]; rfl)) rfl ?_
          refine L_op (env' := uS7n108) rfl rfl (v_pickF rfl rfl rfl) rfl ?_
          refine L_nil ?_
          refine K_seq ?_
          refine B_false rfl rfl ?_
          refine B_skip ?_
          refine K_seq ?_
          refine B_region ?_
          refine L_op (env' := uS7n108) rfl rfl (v_move (.inl rfl) rfl) rfl ?_
          refine L_op (env' := uS7n108) rfl rfl (v_move (.inl rfl) rfl) rfl ?_
          refine L_op (env' := uS7n108) rfl rfl (v_shl1 rfl rfl rfl (by first | assumption | omega | (simp [*]; done) | (simp at *; omega))) rfl ?_
          refine L_op (env' := uS7n108) rfl rfl (v_orW rfl rfl rfl) rfl ?_
          refine L_op (env' := uS7n108) rfl rfl (v_move (.inr rfl) rfl) rfl ?_
          refine L_nil ?_
          refine K_blk ?_
          refine K_seq ?_
          refine B_region ?_
          refine L_op (env' := uS7n108) rfl rfl (v_move (.inl rfl) rfl) rfl ?_
          refine L_op (env' := uS7n108) rfl rfl (v_addI rfl rfl rfl (by first | assumption | omega | (simp [*]; done) | (simp at *; omega))) rfl ?_
          refine L_op (env' := uS7n108) rfl rfl (v_move (.inr rfl) rfl) rfl ?_
          refine L_nil ?_
          refine K_loop (true :: false :: true :: false :: false :: true :: false :: false :: true :: true :: true :: true :: true :: true :: true :: true :: true :: true :: true :: true :: true :: true :: true :: true :: true :: true :: true :: true :: true :: true :: true :: true :: true :: true :: true :: true :: true :: true :: true :: true :: true :: true :: true :: true :: true :: true :: true :: true :: true :: true :: true :: true :: true :: true :: true :: true :: true :: true :: true :: true :: true :: true :: true :: true :: true :: true :: true :: true :: true :: true :: true :: true :: true :: true :: true :: true :: true :: true :: true :: true :: true :: true :: true :: true :: true :: true :: true :: true :: true :: true :: true :: true :: true :: true :: true :: true :: true :: true :: true :: true :: true :: true :: true :: true :: true :: true :: true :: true :: []) (env' := uS7n108) rfl ⟨⟨_, k + 1⟩, ?_, rfl, ?_⟩
          · first | omega | (simp only []; omega)
          · exact ⟨⟨by omega, Come.next ho hcm hbit, by rw [come_next (by omega) hm (ho.ready.1 hbit).2.2]; omega⟩, rfl⟩
      · try simp only [decide_eq_true_eq, decide_eq_false_iff_not, Bool.not_eq_true', Bool.not_eq_false', bne_iff_ne, beq_iff_eq, Bool.and_eq_true, Bool.or_eq_true, Bool.not_eq_true, ge_iff_le, gt_iff_lt, Int.not_le, Int.not_lt, beq_eq_false_iff_ne, bne_eq_false_iff_eq, ne_eq, Decidable.not_not, wd_zero, wd_one, wd_inj] at hc3
        refine B_skip ?_
        refine K_seq ?_
        refine B_seq ?_
        refine B_block ?_
        refine B_clear (true :: false :: true :: false :: false :: true :: false :: false :: false :: true :: false :: true :: true :: true :: true :: true :: true :: true :: true :: true :: true :: true :: true :: true :: true :: true :: true :: true :: true :: true :: true :: true :: true :: true :: true :: true :: true :: true :: true :: true :: true :: true :: true :: true :: true :: true :: true :: true :: true :: true :: true :: true :: true :: true :: true :: true :: true :: true :: true :: true :: true :: true :: true :: true :: true :: true :: true :: true :: true :: true :: true :: true :: true :: true :: true :: true :: true :: true :: true :: true :: true :: true :: true :: true :: true :: true :: true :: true :: true :: true :: true :: true :: true :: true :: true :: true :: true :: true :: true :: true :: true :: true :: true :: true :: true :: true :: true :: true :: []) (env' := uS7n108) rfl ?_
        obtain ⟨c, hc⟩ := ho.some_ready (come_lt (by omega : come m d < m))
        have hc64 : c < 64 := by have := (ho.ready.1 hc).1; omega
        refine B_loopE (fun (a : Int) => togo c a.toNat) (fun (a : Int) => [(10, iI a)]) (fun (a : Int) G => (0 ≤ a ∧ a < 64) ∧ G = H ++ [.cells [iI (m : Nat), fzP pairs, iI A, iI B, iW w, fzI pr, iW most] true]) _ rfl ?_ ?_
        · refine ⟨?_, rfl⟩
          have h1 := tmod64 (pr.getD (k : Int).toNat 0); have h2 : (0 : Int).tmod 64 = 0 := rfl; omega
        rintro a _ ⟨ha, rfl⟩
        refine B_env (env' := uS7n108) rfl ?_
        refine B_seq ?_
        refine B_seq ?_
        refine B_region ?_
        refine L_op (env' := uS7n108) rfl rfl (v_move (.inl rfl) rfl) rfl ?_
        refine L_op (env' := uS7n108) rfl rfl (v_move (.inl rfl) rfl) rfl ?_
        refine L_op (env' := uS7n108) rfl rfl (v_shrW rfl rfl rfl (by first | assumption | omega | (simp [*]; done) | (simp at *; omega))) rfl ?_
        refine L_op (env' := uS7n108) rfl rfl (v_andW (b := 1#64) rfl rfl rfl) rfl ?_
        refine L_op (env' := uS7n108) rfl rfl (rfl) rfl ?_
        refine L_nil ?_
        refine K_seq ?_
        refine B_cond _ rfl (fun hc5 => ?_) (fun hc5 => ?_)
        · try simp only [decide_eq_true_eq, decide_eq_false_iff_not, Bool.not_eq_true', Bool.not_eq_false', bne_iff_ne, beq_iff_eq, Bool.and_eq_true, Bool.or_eq_true, Bool.not_eq_true, ge_iff_le, gt_iff_lt, Int.not_le, Int.not_lt, beq_eq_false_iff_ne, bne_eq_false_iff_eq, ne_eq, Decidable.not_not, wd_zero, wd_one, wd_inj] at hc5
          refine B_skip ?_
          refine K_seq ?_
          refine B_block ?_
          refine B_region ?_
          refine L_op (env' := uS7n108) rfl rfl (v_move (.inl rfl) rfl) rfl ?_
          refine L_op (env' := uS7n108) rfl rfl (v_addI rfl rfl rfl (by first | assumption | omega | (simp [*]; done) | (simp at *; omega))) rfl ?_
          refine L_op (env' := uS7n108) rfl rfl (rfl) rfl ?_
          refine L_op (env' := uS7n108) rfl rfl (v_move (.inr rfl) rfl) rfl ?_
          refine L_nil ?_
          refine K_blk ?_
          have h9 : readyW (preL pairs m) d >>> a.toNat &&& 1#64 = 0#64 := by assumption
          rw [sh0] at h9
          have hne : a.toNat ≠ c := fun e => by rw [e, hc] at h9; cases h9
          have htn := tmod64n ha.1
          refine K_loop (true :: false :: true :: false :: false :: true :: false :: false :: false :: true :: false :: true :: true :: true :: true :: true :: true :: true :: true :: true :: true :: true :: true :: true :: true :: true :: true :: true :: true :: true :: true :: true :: true :: true :: true :: true :: true :: true :: true :: true :: true :: true :: true :: true :: true :: true :: true :: true :: true :: true :: true :: true :: true :: true :: true :: true :: true :: true :: true :: true :: true :: true :: true :: true :: true :: true :: true :: true :: true :: true :: true :: true :: true :: true :: true :: true :: true :: true :: true :: true :: true :: true :: true :: true :: true :: true :: true :: true :: true :: true :: true :: true :: true :: true :: true :: true :: true :: true :: true :: true :: true :: true :: true :: true :: true :: true :: true :: true :: []) (env' := uS7n108) rfl ⟨_, ?_, rfl, ?_⟩
          · show togo c (Int.tmod (a + 1) 64).toNat < togo c a.toNat; rw [htn]; exact togo_next hc64 (by omega) hne
          · exact ⟨by omega, rfl⟩
        · try simp only [decide_eq_true_eq, decide_eq_false_iff_not, Bool.not_eq_true', Bool.not_eq_false', bne_iff_ne, beq_iff_eq, Bool.and_eq_true, Bool.or_eq_true, Bool.not_eq_true, ge_iff_le, gt_iff_lt, Int.not_le, Int.not_lt, beq_eq_false_iff_ne, bne_eq_false_iff_eq, ne_eq, Decidable.not_not, wd_zero, wd_one, wd_inj] at hc5
          refine B_exit ?_
          refine K_seqX ?_
          refine K_loopX ?_
          refine K_blkX ?_
          refine K_seq ?_
          refine B_seq ?_
          refine B_seq ?_
          refine B_region ?_
          have hbit : (readyW (preL pairs m) d).getLsbD a.toNat = true := by
            have h9 : ¬ readyW (preL pairs m) d >>> a.toNat &&& 1#64 = 0#64 := by assumption
            rw [sh0] at h9; simpa using h9
          have ham : a.toNat < m := (ho.ready.1 hbit).1
          refine L_op (env' := uS7n108) rfl rfl (v_move (.inl rfl) rfl) rfl ?_
          refine L_op (env' := uS7n108) rfl rfl (v_move (.inl rfl) rfl) rfl ?_
          refine L_op (env' := uS7n108) rfl rfl (rfl) rfl ?_
          refine L_op (env' := uS7n108) rfl rfl (rfl) rfl ?_
          refine L_op (env' := uS7n108) rfl rfl (by first | exact v_loadF rfl rfl rfl rfl (by first | rfl | assumption | exact fget (α := BitVec 64) 0 (by omega) | exact fget (α := Int) 0 (by omega) | exact fget0 (α := BitVec 64) 0 (by omega) | exact fget0 (α := Int) 0 (by omega) | exact fget (α := Bool) false (by omega) | exact fget0 (α := Bool) false (by omega) | (simp [*]; done)) | exact v_load rfl rfl rfl rfl (by first | exact get_app rfl rfl | exact get_out (by assumption) | assumption | (simp [*]; done)) (by first | rfl | assumption | exact fget (α := BitVec 64) 0 (by omega) | exact fget (α := Int) 0 (by omega) | exact fget0 (α := BitVec 64) 0 (by omega) | exact fget0 (α := Int) 0 (by omega) | exact fget (α := Bool) false (by omega) | exact fget0 (α := Bool) false (by omega) | (simp [*]; done))) rfl ?_
          refine L_op (env' := uS7n108) rfl rfl (v_is false rfl (by simp; omega)) rfl ?_
          refine L_op (env' := uS7n108) rfl rfl (v_move (.inl rfl) rfl) rfl ?_
          refine L_op (env' := uS7n108) rfl rfl (v_move (.inl rfl) rfl) rfl ?_
          refine L_op (env' := uS7n108) rfl rfl (v_move (.inl rfl) rfl) rfl ?_
          refine L_call rfl rfl rfl (by exact Preds_spec _ _ _ _) ?_
          rintro v _ ⟨hv, rfl⟩; obtain rfl : v = iW ((preL pairs m).getD a.toNat 0) := hv.trans (by rw [if_pos (by rw [ho.pl]; omega)])
          refine L_env (env' := uS7n108) rfl ?_
          refine L_op (env' := uS7n108) rfl rfl (v_move (.inl rfl) rfl) rfl ?_
          refine L_op (env' := uS7n108) rfl rfl (v_andNotW rfl rfl rfl) rfl ?_
          refine L_op (env' := uS7n108) rfl rfl (v_is false rfl (by rw [(ho.pred ham).2 (ho.ready.1 hbit).2.1]; rfl)) rfl ?_
          refine L_op (env' := uS7n108) rfl rfl (v_pickF rfl rfl rfl) rfl ?_
          refine L_op (env' := uS7n108) rfl rfl (v_move (.inl rfl) rfl) rfl ?_
          refine L_op (env' := uS7n108) rfl rfl (v_move (.inl rfl) rfl) rfl ?_
          refine L_op (env' := uS7n108) rfl rfl (v_move (.inl rfl) rfl) rfl ?_
          refine L_call rfl rfl rfl (by exact Succs_spec _ _ _ (by rw [ho.pl, ho.sl]) _) ?_
          rintro v _ ⟨hv, rfl⟩; obtain rfl : v = iW ((sucL pairs m).getD a.toNat 0) := hv.trans (by rw [if_pos (by rw [ho.pl]; omega)])
          refine L_env (env' := uS7n108) rfl ?_
          refine L_op (env' := uS7n108) rfl rfl (v_move (.inl rfl) rfl) rfl ?_
          refine L_op (env' := uS7n108) rfl rfl (v_andW rfl rfl rfl) rfl ?_
          refine L_op (env' := uS7n108) rfl rfl (v_is false rfl (by rw [ho.succ_none hcm hbit]; rfl)) rfl ?_
          refine L_op (env' := uS7n108) rfl rfl (v_pickF rfl rfl rfl) rfl ?_
          refine L_nil ?_
          refine K_seq ?_
          refine B_false rfl rfl ?_
          refine B_skip ?_
          refine K_seq ?_
          refine B_region ?_
          refine L_op (env' := uS7n108) rfl rfl (v_move (.inl rfl) rfl) rfl ?_
          refine L_op (env' := uS7n108) rfl rfl (v_move (.inl rfl) rfl) rfl ?_
          refine L_op (env' := uS7n108) rfl rfl (v_shl1 rfl rfl rfl (by first | assumption | omega | (simp [*]; done) | (simp at *; omega))) rfl ?_
          refine L_op (env' := uS7n108) rfl rfl (v_orW rfl rfl rfl) rfl ?_
          refine L_op (env' := uS7n108) rfl rfl (v_move (.inr rfl) rfl) rfl ?_
          refine L_nil ?_
          refine K_blk ?_
          refine K_seq ?_
          refine B_region ?_
          refine L_op (env' := uS7n108) rfl rfl (v_move (.inl rfl) rfl) rfl ?_
          refine L_op (env' := uS7n108) rfl rfl (v_addI rfl rfl rfl (by first | assumption | omega | (simp [*]; done) | (simp at *; omega))) rfl ?_
          refine L_op (env' := uS7n108) rfl rfl (v_move (.inr rfl) rfl) rfl ?_
          refine L_nil ?_
          refine K_loop (true :: false :: true :: false :: false :: true :: false :: false :: true :: true :: true :: true :: true :: true :: true :: true :: true :: true :: true :: true :: true :: true :: true :: true :: true :: true :: true :: true :: true :: true :: true :: true :: true :: true :: true :: true :: true :: true :: true :: true :: true :: true :: true :: true :: true :: true :: true :: true :: true :: true :: true :: true :: true :: true :: true :: true :: true :: true :: true :: true :: true :: true :: true :: true :: true :: true :: true :: true :: true :: true :: true :: true :: true :: true :: true :: true :: true :: true :: true :: true :: true :: true :: true :: true :: true :: true :: true :: true :: true :: true :: true :: true :: true :: true :: true :: true :: true :: true :: true :: true :: true :: true :: true :: true :: true :: true :: true :: true :: []) (env' := uS7n108) rfl ⟨⟨_, k + 1⟩, ?_, rfl, ?_⟩
          · first | omega | (simp only []; omega)
          · exact ⟨⟨by omega, Come.next ho hcm hbit, by rw [come_next (by omega) hm (ho.ready.1 hbit).2.2]; omega⟩, rfl⟩
    · try simp only [decide_eq_true_eq, decide_eq_false_iff_not, Bool.not_eq_true', Bool.not_eq_false', bne_iff_ne, beq_iff_eq, Bool.and_eq_true, Bool.or_eq_true, Bool.not_eq_true, ge_iff_le, gt_iff_lt, Int.not_le, Int.not_lt, beq_eq_false_iff_ne, bne_eq_false_iff_eq, ne_eq, Decidable.not_not, wd_zero, wd_one, wd_inj] at hc2
      refine B_skip ?_
      refine K_seq ?_
      refine B_seq ?_
      refine B_region ?_
      refine L_op (env' := uS7n108) rfl rfl (v_move (.inl rfl) rfl) rfl ?_
      refine L_op (env' := uS7n108) rfl rfl (rfl) rfl ?_
      refine L_op (env' := uS7n108) rfl rfl (v_move (.inr rfl) rfl) rfl ?_
      refine L_nil ?_
      refine K_seq ?_
      refine B_seq ?_
      refine B_seq ?_
      refine B_region ?_
      refine L_op (env' := uS7n108) rfl rfl (v_move (.inl rfl) rfl) rfl ?_
      refine L_op (env' := uS7n108) rfl rfl (rfl) rfl ?_
      refine L_nil ?_
      refine K_seq ?_
      refine B_cond _ rfl (fun hc6 => ?_) (fun hc6 => ?_)
      · try simp only [decide_eq_true_eq, decide_eq_false_iff_not, Bool.not_eq_true', Bool.not_eq_false', bne_iff_ne, beq_iff_eq, Bool.and_eq_true, Bool.or_eq_true, Bool.not_eq_true, ge_iff_le, gt_iff_lt, Int.not_le, Int.not_lt, beq_eq_false_iff_ne, bne_eq_false_iff_eq, ne_eq, Decidable.not_not, wd_zero, wd_one, wd_inj] at hc6
        refine B_region ?_
        refine L_op (env' := uS7n108) rfl rfl (v_move (.inl rfl) rfl) rfl ?_
        refine L_op (env' := uS7n108) rfl rfl (v_addI rfl rfl rfl (by have h1 := tmod64 (pr.getD (k : Int).toNat 0); have h2 : (0 : Int).tmod 64 = 0 := rfl; omega)) rfl ?_
        refine L_op (env' := uS7n108) rfl rfl (v_move (.inr rfl) rfl) rfl ?_
        refine L_nil ?_
        refine K_seq ?_
        refine B_seq ?_
        refine B_block ?_
        refine B_clear (true :: false :: true :: false :: false :: true :: false :: false :: false :: true :: false :: true :: true :: true :: true :: true :: true :: true :: true :: true :: true :: true :: true :: true :: true :: true :: true :: true :: true :: true :: true :: true :: true :: true :: true :: true :: true :: true :: true :: true :: true :: true :: true :: true :: true :: true :: true :: true :: true :: true :: true :: true :: true :: true :: true :: true :: true :: true :: true :: true :: true :: true :: true :: true :: true :: true :: true :: true :: true :: true :: true :: true :: true :: true :: true :: true :: true :: true :: true :: true :: true :: true :: true :: true :: true :: true :: true :: true :: true :: true :: true :: true :: true :: true :: true :: true :: true :: true :: true :: true :: true :: true :: true :: true :: true :: true :: true :: true :: []) (env' := uS7n108) rfl ?_
        obtain ⟨c, hc⟩ := ho.some_ready (come_lt (by omega : come m d < m))
        have hc64 : c < 64 := by have := (ho.ready.1 hc).1; omega
        refine B_loopE (fun (a : Int) => togo c a.toNat) (fun (a : Int) => [(10, iI a)]) (fun (a : Int) G => (0 ≤ a ∧ a < 64) ∧ G = H ++ [.cells [iI (m : Nat), fzP pairs, iI A, iI B, iW w, fzI pr, iW most] true]) _ rfl ?_ ?_
        · refine ⟨?_, rfl⟩
          have h1 := tmod64 (pr.getD (k : Int).toNat 0); have h2 : (0 : Int).tmod 64 = 0 := rfl; omega
        rintro a _ ⟨ha, rfl⟩
        refine B_env (env' := uS7n108) rfl ?_
        refine B_seq ?_
        refine B_seq ?_
        refine B_region ?_
        refine L_op (env' := uS7n108) rfl rfl (v_move (.inl rfl) rfl) rfl ?_
        refine L_op (env' := uS7n108) rfl rfl (v_move (.inl rfl) rfl) rfl ?_
        refine L_op (env' := uS7n108) rfl rfl (v_shrW rfl rfl rfl (by first | assumption | omega | (simp [*]; done) | (simp at *; omega))) rfl ?_
        refine L_op (env' := uS7n108) rfl rfl (v_andW (b := 1#64) rfl rfl rfl) rfl ?_
        refine L_op (env' := uS7n108) rfl rfl (rfl) rfl ?_
        refine L_nil ?_
        refine K_seq ?_
        refine B_cond _ rfl (fun hc7 => ?_) (fun hc7 => ?_)
        · try simp only [decide_eq_true_eq, decide_eq_false_iff_not, Bool.not_eq_true', Bool.not_eq_false', bne_iff_ne, beq_iff_eq, Bool.and_eq_true, Bool.or_eq_true, Bool.not_eq_true, ge_iff_le, gt_iff_lt, Int.not_le, Int.not_lt, beq_eq_false_iff_ne, bne_eq_false_iff_eq, ne_eq, Decidable.not_not, wd_zero, wd_one, wd_inj] at hc7
          refine B_skip ?_
          refine K_seq ?_
          refine B_block ?_
          refine B_region ?_
          refine L_op (env' := uS7n108) rfl rfl (v_move (.inl rfl) rfl) rfl ?_
          refine L_op (env' := uS7n108) rfl rfl (v_addI rfl rfl rfl (by first | assumption | omega | (simp [*]; done) | (simp at *; omega))) rfl ?_
          refine L_op (env' := uS7n108) rfl rfl (rfl) rfl ?_
          refine L_op (env' := uS7n108) rfl rfl (v_move (.inr rfl) rfl) rfl ?_
          refine L_nil ?_
          refine K_blk ?_
          have h9 : readyW (preL pairs m) d >>> a.toNat &&& 1#64 = 0#64 := by assumption
          rw [sh0] at h9
          have hne : a.toNat ≠ c := fun e => by rw [e, hc] at h9; cases h9
          have htn := tmod64n ha.1
          refine K_loop (true :: false :: true :: false :: false :: true :: false :: false :: false :: true :: false :: true :: true :: true :: true :: true :: true :: true :: true :: true :: true :: true :: true :: true :: true :: true :: true :: true :: true :: true :: true :: true :: true :: true :: true :: true :: true :: true :: true :: true :: true :: true :: true :: true :: true :: true :: true :: true :: true :: true :: true :: true :: true :: true :: true :: true :: true :: true :: true :: true :: true :: true :: true :: true :: true :: true :: true :: true :: true :: true :: true :: true :: true :: true :: true :: true :: true :: true :: true :: true :: true :: true :: true :: true :: true :: true :: true :: true :: true :: true :: true :: true :: true :: true :: true :: true :: true :: true :: true :: true :: true :: true :: true :: true :: true :: true :: true :: true :: []) (env' := uS7n108) rfl ⟨_, ?_, rfl, ?_⟩
          · show togo c (Int.tmod (a + 1) 64).toNat < togo c a.toNat; rw [htn]; exact togo_next hc64 (by omega) hne
          · exact ⟨by omega, rfl⟩
        · try simp only [decide_eq_true_eq, decide_eq_false_iff_not, Bool.not_eq_true', Bool.not_eq_false', bne_iff_ne, beq_iff_eq, Bool.and_eq_true, Bool.or_eq_true, Bool.not_eq_true, ge_iff_le, gt_iff_lt, Int.not_le, Int.not_lt, beq_eq_false_iff_ne, bne_eq_false_iff_eq, ne_eq, Decidable.not_not, wd_zero, wd_one, wd_inj] at hc7
          refine B_exit ?_
          refine K_seqX ?_
          refine K_loopX ?_
          refine K_blkX ?_
          refine K_seq ?_
          refine B_seq ?_
          refine B_seq ?_
          refine B_region ?_
          have hbit : (readyW (preL pairs m) d).getLsbD a.toNat = true := by
            have h9 : ¬ readyW (preL pairs m) d >>> a.toNat &&& 1#64 = 0#64 := by assumption
            rw [sh0] at h9; simpa using h9
          have ham : a.toNat < m := (ho.ready.1 hbit).1
          refine L_op (env' := uS7n108) rfl rfl (v_move (.inl rfl) rfl) rfl ?_
          refine L_op (env' := uS7n108) rfl rfl (v_move (.inl rfl) rfl) rfl ?_
          refine L_op (env' := uS7n108) rfl rfl (rfl) rfl ?_
          refine L_op (env' := uS7n108) rfl rfl (rfl) rfl ?_
          refine L_op (env' := uS7n108) rfl rfl (by first | exact v_loadF rfl rfl rfl rfl (by first | rfl | assumption | exact fget (α := BitVec 64) 0 (by omega) | exact fget (α := Int) 0 (by omega) | exact fget0 (α := BitVec 64) 0 (by omega) | exact fget0 (α := Int) 0 (by omega) | exact fget (α := Bool) false (by omega) | exact fget0 (α := Bool) false (by omega) | (simp [*]; done)) | exact v_load rfl rfl rfl rfl (by first | exact get_app rfl rfl | exact get_out (by assumption) | assumption | (simp [*]; done)) (by first | rfl | assumption | exact fget (α := BitVec 64) 0 (by omega) | exact fget (α := Int) 0 (by omega) | exact fget0 (α := BitVec 64) 0 (by omega) | exact fget0 (α := Int) 0 (by omega) | exact fget (α := Bool) false (by omega) | exact fget0 (α := Bool) false (by omega) | (simp [*]; done))) rfl ?_
          refine L_op (env' := uS7n108) rfl rfl (v_is false rfl (by simp; omega)) rfl ?_
          refine L_op (env' := uS7n108) rfl rfl (v_move (.inl rfl) rfl) rfl ?_
          refine L_op (env' := uS7n108) rfl rfl (v_move (.inl rfl) rfl) rfl ?_
          refine L_op (env' := uS7n108) rfl rfl (v_move (.inl rfl) rfl) rfl ?_
          refine L_call rfl rfl rfl (by exact Preds_spec _ _ _ _) ?_
          rintro v _ ⟨hv, rfl⟩; obtain rfl : v = iW ((preL pairs m).getD a.toNat 0) := hv.trans (by rw [if_pos (by rw [ho.pl]; omega)])
          refine L_env (env' := uS7n108) rfl ?_
          refine L_op (env' := uS7n108) rfl rfl (v_move (.inl rfl) rfl) rfl ?_
          refine L_op (env' := uS7n108) rfl rfl (v_andNotW rfl rfl rfl) rfl ?_
          refine L_op (env' := uS7n108) rfl rfl (v_is false rfl (by rw [(ho.pred ham).2 (ho.ready.1 hbit).2.1]; rfl)) rfl ?_
          refine L_op (env' := uS7n108) rfl rfl (v_pickF rfl rfl rfl) rfl ?_
          refine L_op (env' := uS7n108) rfl rfl (v_move (.inl rfl) rfl) rfl ?_
          refine L_op (env' := uS7n108) rfl rfl (v_move (.inl rfl) rfl) rfl ?_
          refine L_op (env' := uS7n108) rfl rfl (v_move (.inl rfl) rfl) rfl ?_
          refine L_call rfl rfl rfl (by exact Succs_spec _ _ _ (by rw [ho.pl, ho.sl]) _) ?_
          rintro v _ ⟨hv, rfl⟩; obtain rfl : v = iW ((sucL pairs m).getD a.toNat 0) := hv.trans (by rw [if_pos (by rw [ho.pl]; omega)])
          refine L_env (env' := uS7n108) rfl ?_
          refine L_op (env' := uS7n108) rfl rfl (v_move (.inl rfl) rfl) rfl ?_
          refine L_op (env' := uS7n108) rfl rfl (v_andW rfl rfl rfl) rfl ?_
          refine L_op (env' := uS7n108) rfl rfl (v_is false rfl (by rw [ho.succ_none hcm hbit]; rfl)) rfl ?_
          refine L_op (env' := uS7n108) rfl rfl (v_pickF rfl rfl rfl) rfl ?_
          refine L_nil ?_
          refine K_seq ?_
          refine B_false rfl rfl ?_
          refine B_skip ?_
          refine K_seq ?_
          refine B_region ?_
          refine L_op (env' := uS7n108) rfl rfl (v_move (.inl rfl) rfl) rfl ?_
          refine L_op (env' := uS7n108) rfl rfl (v_move (.inl rfl) rfl) rfl ?_
          refine L_op (env' := uS7n108) rfl rfl (v_shl1 rfl rfl rfl (by first | assumption | omega | (simp [*]; done) | (simp at *; omega))) rfl ?_
          refine L_op (env' := uS7n108) rfl rfl (v_orW rfl rfl rfl) rfl ?_
          refine L_op (env' := uS7n108) rfl rfl (v_move (.inr rfl) rfl) rfl ?_
          refine L_nil ?_
          refine K_blk ?_
          refine K_seq ?_
          refine B_region ?_
          refine L_op (env' := uS7n108) rfl rfl (v_move (.inl rfl) rfl) rfl ?_
          refine L_op (env' := uS7n108) rfl rfl (v_addI rfl rfl rfl (by first | assumption | omega | (simp [*]; done) | (simp at *; omega))) rfl ?_
          refine L_op (env' := uS7n108) rfl rfl (v_move (.inr rfl) rfl) rfl ?_
          refine L_nil ?_
          refine K_loop (true :: false :: true :: false :: false :: true :: false :: false :: true :: true :: true :: true :: true :: true :: true :: true :: true :: true :: true :: true :: true :: true :: true :: true :: true :: true :: true :: true :: true :: true :: true :: true :: true :: true :: true :: true :: true :: true :: true :: true :: true :: true :: true :: true :: true :: true :: true :: true :: true :: true :: true :: true :: true :: true :: true :: true :: true :: true :: true :: true :: true :: true :: true :: true :: true :: true :: true :: true :: true :: true :: true :: true :: true :: true :: true :: true :: true :: true :: true :: true :: true :: true :: true :: true :: true :: true :: true :: true :: true :: true :: true :: true :: true :: true :: true :: true :: true :: true :: true :: true :: true :: true :: true :: true :: true :: true :: true :: true :: []) (env' := uS7n108) rfl ⟨⟨_, k + 1⟩, ?_, rfl, ?_⟩
          · first | omega | (simp only []; omega)
          · exact ⟨⟨by omega, Come.next ho hcm hbit, by rw [come_next (by omega) hm (ho.ready.1 hbit).2.2]; omega⟩, rfl⟩
      · try simp only [decide_eq_true_eq, decide_eq_false_iff_not, Bool.not_eq_true', Bool.not_eq_false', bne_iff_ne, beq_iff_eq, Bool.and_eq_true, Bool.or_eq_true, Bool.not_eq_true, ge_iff_le, gt_iff_lt, Int.not_le, Int.not_lt, beq_eq_false_iff_ne, bne_eq_false_iff_eq, ne_eq, Decidable.not_not, wd_zero, wd_one, wd_inj] at hc6
        refine B_skip ?_
        refine K_seq ?_
        refine B_seq ?_
        refine B_block ?_
        refine B_clear (true :: false :: true :: false :: false :: true :: false :: false :: false :: true :: false :: true :: true :: true :: true :: true :: true :: true :: true :: true :: true :: true :: true :: true :: true :: true :: true :: true :: true :: true :: true :: true :: true :: true :: true :: true :: true :: true :: true :: true :: true :: true :: true :: true :: true :: true :: true :: true :: true :: true :: true :: true :: true :: true :: true :: true :: true :: true :: true :: true :: true :: true :: true :: true :: true :: true :: true :: true :: true :: true :: true :: true :: true :: true :: true :: true :: true :: true :: true :: true :: true :: true :: true :: true :: true :: true :: true :: true :: true :: true :: true :: true :: true :: true :: true :: true :: true :: true :: true :: true :: true :: true :: true :: true :: true :: true :: true :: true :: []) (env' := uS7n108) rfl ?_
        obtain ⟨c, hc⟩ := ho.some_ready (come_lt (by omega : come m d < m))
        have hc64 : c < 64 := by have := (ho.ready.1 hc).1; omega
        refine B_loopE (fun (a : Int) => togo c a.toNat) (fun (a : Int) => [(10, iI a)]) (fun (a : Int) G => (0 ≤ a ∧ a < 64) ∧ G = H ++ [.cells [iI (m : Nat), fzP pairs, iI A, iI B, iW w, fzI pr, iW most] true]) _ rfl ?_ ?_
        · refine ⟨?_, rfl⟩
          have h1 := tmod64 (pr.getD (k : Int).toNat 0); have h2 : (0 : Int).tmod 64 = 0 := rfl; omega
        rintro a _ ⟨ha, rfl⟩
        refine B_env (env' := uS7n108) rfl ?_
        refine B_seq ?_
        refine B_seq ?_
        refine B_region ?_
        refine L_op (env' := uS7n108) rfl rfl (v_move (.inl rfl) rfl) rfl ?_
        refine L_op (env' := uS7n108) rfl rfl (v_move (.inl rfl) rfl) rfl ?_
        refine L_op (env' := uS7n108) rfl rfl (v_shrW rfl rfl rfl (by first | assumption | omega | (simp [*]; done) | (simp at *; omega))) rfl ?_
        refine L_op (env' := uS7n108) rfl rfl (v_andW (b := 1#64) rfl rfl rfl) rfl ?_
        refine L_op (env' := uS7n108) rfl rfl (rfl) rfl ?_
        refine L_nil ?_
        refine K_seq ?_
        refine B_cond _ rfl (fun hc8 => ?_) (fun hc8 => ?_)
        · try simp only [decide_eq_true_eq, decide_eq_false_iff_not, Bool.not_eq_true', Bool.not_eq_false', bne_iff_ne, beq_iff_eq, Bool.and_eq_true, Bool.or_eq_true, Bool.not_eq_true, ge_iff_le, gt_iff_lt, Int.not_le, Int.not_lt, beq_eq_false_iff_ne, bne_eq_false_iff_eq, ne_eq, Decidable.not_not, wd_zero, wd_one, wd_inj] at hc8
          refine B_skip ?_
          refine K_seq ?_
          refine B_block ?_
          refine B_region ?_
          refine L_op (env' := uS7n108) rfl rfl (v_move (.inl rfl) rfl) rfl ?_
          refine L_op (env' := uS7n108) rfl rfl (v_addI rfl rfl rfl (by first | assumption | omega | (simp [*]; done) | (simp at *; omega))) rfl ?_
          refine L_op (env' := uS7n108) rfl rfl (rfl) rfl ?_
          refine L_op (env' := uS7n108) rfl rfl (v_move (.inr rfl) rfl) rfl ?_
          refine L_nil ?_
          refine K_blk ?_
          have h9 : readyW (preL pairs m) d >>> a.toNat &&& 1#64 = 0#64 := by assumption
          rw [sh0] at h9
          have hne : a.toNat ≠ c := fun e => by rw [e, hc] at h9; cases h9
          have htn := tmod64n ha.1
          refine K_loop (true :: false :: true :: false :: false :: true :: false :: false :: false :: true :: false :: true :: true :: true :: true :: true :: true :: true :: true :: true :: true :: true :: true :: true :: true :: true :: true :: true :: true :: true :: true :: true :: true :: true :: true :: true :: true :: true :: true :: true :: true :: true :: true :: true :: true :: true :: true :: true :: true :: true :: true :: true :: true :: true :: true :: true :: true :: true :: true :: true :: true :: true :: true :: true :: true :: true :: true :: true :: true :: true :: true :: true :: true :: true :: true :: true :: true :: true :: true :: true :: true :: true :: true :: true :: true :: true :: true :: true :: true :: true :: true :: true :: true :: true :: true :: true :: true :: true :: true :: true :: true :: true :: true :: true :: true :: true :: true :: true :: []) (env' := uS7n108) rfl ⟨_, ?_, rfl, ?_⟩
          · show togo c (Int.tmod (a + 1) 64).toNat < togo c a.toNat; rw [htn]; exact togo_next hc64 (by omega) hne
          · exact ⟨by omega, rfl⟩
        · try simp only [decide_eq_true_eq, decide_eq_false_iff_not, Bool.not_eq_true', Bool.not_eq_false', bne_iff_ne, beq_iff_eq, Bool.and_eq_true, Bool.or_eq_true, Bool.not_eq_true, ge_iff_le, gt_iff_lt, Int.not_le, Int.not_lt, beq_eq_false_iff_ne, bne_eq_false_iff_eq, ne_eq, Decidable.not_not, wd_zero, wd_one, wd_inj] at hc8
          refine B_exit ?_
          refine K_seqX ?_
          refine K_loopX ?_
          refine K_blkX ?_
          refine K_seq ?_
          refine B_seq ?_
          refine B_seq ?_
          refine B_region ?_
          have hbit : (readyW (preL pairs m) d).getLsbD a.toNat = true := by
            have h9 : ¬ readyW (preL pairs m) d >>> a.toNat &&& 1#64 = 0#64 := by assumption
            rw [sh0] at h9; simpa using h9
          have ham : a.toNat < m := (ho.ready.1 hbit).1
          refine L_op (env' := uS7n108) rfl rfl (v_move (.inl rfl) rfl) rfl ?_
          refine L_op (env' := uS7n108) rfl rfl (v_move (.inl rfl) rfl) rfl ?_
          refine L_op (env' := uS7n108) rfl rfl (rfl) rfl ?_
          refine L_op (env' := uS7n108) rfl rfl (rfl) rfl ?_
          refine L_op (env' := uS7n108) rfl rfl (by first | exact v_loadF rfl rfl rfl rfl (by first | rfl | assumption | exact fget (α := BitVec 64) 0 (by omega) | exact fget (α := Int) 0 (by omega) | exact fget0 (α := BitVec 64) 0 (by omega) | exact fget0 (α := Int) 0 (by omega) | exact fget (α := Bool) false (by omega) | exact fget0 (α := Bool) false (by omega) | (simp [*]; done)) | exact v_load rfl rfl rfl rfl (by first | exact get_app rfl rfl | exact get_out (by assumption) | assumption | (simp [*]; done)) (by first | rfl | assumption | exact fget (α := BitVec 64) 0 (by omega) | exact fget (α := Int) 0 (by omega) | exact fget0 (α := BitVec 64) 0 (by omega) | exact fget0 (α := Int) 0 (by omega) | exact fget (α := Bool) false (by omega) | exact fget0 (α := Bool) false (by omega) | (simp [*]; done))) rfl ?_
          refine L_op (env' := uS7n108) rfl rfl (v_is false rfl (by simp; omega)) rfl ?_
          refine L_op (env' := uS7n108) rfl rfl (v_move (.inl rfl) rfl) rfl ?_
          refine L_op (env' := uS7n108) rfl rfl (v_move (.inl rfl) rfl) rfl ?_
          refine L_op (env' := uS7n108) rfl rfl (v_move (.inl rfl) rfl) rfl ?_
          refine L_call rfl rfl rfl (by exact Preds_spec _ _ _ _) ?_
          rintro v _ ⟨hv, rfl⟩; obtain rfl : v = iW ((preL pairs m).getD a.toNat 0) := hv.trans (by rw [if_pos (by rw [ho.pl]; omega)])
          refine L_env (env' := uS7n108) rfl ?_
          refine L_op (env' := uS7n108) rfl rfl (v_move (.inl rfl) rfl) rfl ?_
          refine L_op (env' := uS7n108) rfl rfl (v_andNotW rfl rfl rfl) rfl ?_
          refine L_op (env' := uS7n108) rfl rfl (v_is false rfl (by rw [(ho.pred ham).2 (ho.ready.1 hbit).2.1]; rfl)) rfl ?_
          refine L_op (env' := uS7n108) rfl rfl (v_pickF rfl rfl rfl) rfl ?_
          refine L_op (env' := uS7n108) rfl rfl (v_move (.inl rfl) rfl) rfl ?_
          refine L_op (env' := uS7n108) rfl rfl (v_move (.inl rfl) rfl) rfl ?_
          refine L_op (env' := uS7n108) rfl rfl (v_move (.inl rfl) rfl) rfl ?_
          refine L_call rfl rfl rfl (by exact Succs_spec _ _ _ (by rw [ho.pl, ho.sl]) _) ?_
          rintro v _ ⟨hv, rfl⟩; obtain rfl : v = iW ((sucL pairs m).getD a.toNat 0) := hv.trans (by rw [if_pos (by rw [ho.pl]; omega)])
          refine L_env (env' := uS7n108) rfl ?_
          refine L_op (env' := uS7n108) rfl rfl (v_move (.inl rfl) rfl) rfl ?_
          refine L_op (env' := uS7n108) rfl rfl (v_andW rfl rfl rfl) rfl ?_
          refine L_op (env' := uS7n108) rfl rfl (v_is false rfl (by rw [ho.succ_none hcm hbit]; rfl)) rfl ?_
          refine L_op (env' := uS7n108) rfl rfl (v_pickF rfl rfl rfl) rfl ?_
          refine L_nil ?_
          refine K_seq ?_
          refine B_false rfl rfl ?_
          refine B_skip ?_
          refine K_seq ?_
          refine B_region ?_
          refine L_op (env' := uS7n108) rfl rfl (v_move (.inl rfl) rfl) rfl ?_
          refine L_op (env' := uS7n108) rfl rfl (v_move (.inl rfl) rfl) rfl ?_
          refine L_op (env' := uS7n108) rfl rfl (v_shl1 rfl rfl rfl (by first | assumption | omega | (simp [*]; done) | (simp at *; omega))) rfl ?_
          refine L_op (env' := uS7n108) rfl rfl (v_orW rfl rfl rfl) rfl ?_
          refine L_op (env' := uS7n108) rfl rfl (v_move (.inr rfl) rfl) rfl ?_
          refine L_nil ?_
          refine K_blk ?_
          refine K_seq ?_
          refine B_region ?_
          refine L_op (env' := uS7n108) rfl rfl (v_move (.inl rfl) rfl) rfl ?_
          refine L_op (env' := uS7n108) rfl rfl (v_addI rfl rfl rfl (by first | assumption | omega | (simp [*]; done) | (simp at *; omega))) rfl ?_
          refine L_op (env' := uS7n108) rfl rfl (v_move (.inr rfl) rfl) rfl ?_
          refine L_nil ?_
          refine K_loop (true :: false :: true :: false :: false :: true :: false :: false :: true :: true :: true :: true :: true :: true :: true :: true :: true :: true :: true :: true :: true :: true :: true :: true :: true :: true :: true :: true :: true :: true :: true :: true :: true :: true :: true :: true :: true :: true :: true :: true :: true :: true :: true :: true :: true :: true :: true :: true :: true :: true :: true :: true :: true :: true :: true :: true :: true :: true :: true :: true :: true :: true :: true :: true :: true :: true :: true :: true :: true :: true :: true :: true :: true :: true :: true :: true :: true :: true :: true :: true :: true :: true :: true :: true :: true :: true :: true :: true :: true :: true :: true :: true :: true :: true :: true :: true :: true :: true :: true :: true :: true :: true :: true :: true :: true :: true :: true :: true :: []) (env' := uS7n108) rfl ⟨⟨_, k + 1⟩, ?_, rfl, ?_⟩
          · first | omega | (simp only []; omega)
          · exact ⟨⟨by omega, Come.next ho hcm hbit, by rw [come_next (by omega) hm (ho.ready.1 hbit).2.2]; omega⟩, rfl⟩
  · try simp only [decide_eq_true_eq, decide_eq_false_iff_not, Bool.not_eq_true', Bool.not_eq_false', bne_iff_ne, beq_iff_eq, Bool.and_eq_true, Bool.or_eq_true, Bool.not_eq_true, ge_iff_le, gt_iff_lt, Int.not_le, Int.not_lt, beq_eq_false_iff_ne, bne_eq_false_iff_eq, ne_eq, Decidable.not_not, wd_zero, wd_one, wd_inj] at hc1
    refine B_exit ?_
    refine K_seqX ?_
    refine K_loopX ?_
    refine K_blkX ?_
    refine K_seq ?_
    refine B_seq ?_
    refine B_region ?_
    refine L_op (env' := uS7n108) rfl rfl (v_move (.inl rfl) rfl) rfl ?_
    refine L_op (env' := uS7n108) rfl rfl (v_move (.inl rfl) rfl) rfl ?_
    refine L_call rfl rfl rfl (by exact Ready_spec _ _ _ (by rw [ho.pl]; exact ho.le) _) ?_
    rintro _ _ ⟨rfl, rfl⟩
    refine L_env (env' := uS7n108) rfl ?_
    refine L_op (env' := uS7n108) rfl rfl (v_is true rfl (by exact wd_beq_eq (ho.ready_end (by omega)))) rfl ?_
    refine L_op (env' := uS7n108) rfl rfl (v_move (.inl rfl) rfl) rfl ?_
    refine L_op (env' := uS7n108) rfl rfl (v_move (.inl rfl) rfl) rfl ?_
    refine L_op (env' := uS7n108) rfl rfl (v_move (.inl rfl) rfl) rfl ?_
    refine L_call rfl rfl rfl (by exact Down_spec _ _ _ _) ?_
    rintro v _ ⟨hv, rfl⟩; obtain rfl : v = .bool true := hv.trans (by rw [ho.down.2 hcm])
    refine L_env (env' := uS7n108) rfl ?_
    refine L_op (env' := uS7n108) rfl rfl (v_pickT rfl rfl rfl) rfl ?_
    refine L_op (env' := uS7n108) rfl rfl (v_move (.inr rfl) rfl) rfl ?_
    refine L_nil ?_
    refine K_seq ?_
    refine B_ret ?_
    refine E_app (.inr rfl) (vres_tmp rfl rfl) (by first | exact BaseOk.refl _ | exact BaseOk.set (BaseOk.refl _) _ rfl) (by simp [VVal.underL, VVal.under, VBlk.under, rows_under, fz_under, rows_under, fz_underI, fzP_under, under_mapW, under_mapI, under_flatP, under_repW, *]) ?_
    exact ⟨rfl, rfl⟩
end Go.Proofs.YteocbhgdmpdklaaDoor.VT
