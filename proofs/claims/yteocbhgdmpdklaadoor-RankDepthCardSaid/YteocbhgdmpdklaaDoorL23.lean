/- RankDepth: the law -/
import Derived.Test.YteocbhgdmpdklaaDoorR1
import Derived.Test.YteocbhgdmpdklaaDoorS23
set_option autoImplicit false
set_option linter.unusedVariables false
set_option linter.unusedSimpArgs false
set_option maxHeartbeats 4000000
set_option maxRecDepth 100000
namespace Go.Proofs.YteocbhgdmpdklaaDoor.VT
open Go Go.V Go.RowKit

abbrev uL23n25 {a0 a1 a2 a3 a4 a5 a6 a7 a8 a9 a10 a11 a12 a13 a14 a15 a16 a17 a18 a19 a20 a21 a22 a23 a24 : VVal} : VEnv := a0 :: a1 :: a2 :: a3 :: a4 :: a5 :: a6 :: a7 :: a8 :: a9 :: a10 :: a11 :: a12 :: a13 :: a14 :: a15 :: a16 :: a17 :: a18 :: a19 :: a20 :: a21 :: a22 :: a23 :: a24 :: []
abbrev uL23n108 {a0 a1 a2 a3 a4 a5 a6 a7 a8 a9 a10 a11 a12 a13 a14 a15 a16 a17 a18 a19 a20 a21 a22 a23 a24 a25 a26 a27 a28 a29 a30 a31 a32 a33 a34 a35 a36 a37 a38 a39 a40 a41 a42 a43 a44 a45 a46 a47 a48 a49 a50 a51 a52 a53 a54 a55 a56 a57 a58 a59 a60 a61 a62 a63 a64 a65 a66 a67 a68 a69 a70 a71 a72 a73 a74 a75 a76 a77 a78 a79 a80 a81 a82 a83 a84 a85 a86 a87 a88 a89 a90 a91 a92 a93 a94 a95 a96 a97 a98 a99 a100 a101 a102 a103 a104 a105 a106 a107 : VVal} : VEnv := a0 :: a1 :: a2 :: a3 :: a4 :: a5 :: a6 :: a7 :: a8 :: a9 :: a10 :: a11 :: a12 :: a13 :: a14 :: a15 :: a16 :: a17 :: a18 :: a19 :: a20 :: a21 :: a22 :: a23 :: a24 :: a25 :: a26 :: a27 :: a28 :: a29 :: a30 :: a31 :: a32 :: a33 :: a34 :: a35 :: a36 :: a37 :: a38 :: a39 :: a40 :: a41 :: a42 :: a43 :: a44 :: a45 :: a46 :: a47 :: a48 :: a49 :: a50 :: a51 :: a52 :: a53 :: a54 :: a55 :: a56 :: a57 :: a58 :: a59 :: a60 :: a61 :: a62 :: a63 :: a64 :: a65 :: a66 :: a67 :: a68 :: a69 :: a70 :: a71 :: a72 :: a73 :: a74 :: a75 :: a76 :: a77 :: a78 :: a79 :: a80 :: a81 :: a82 :: a83 :: a84 :: a85 :: a86 :: a87 :: a88 :: a89 :: a90 :: a91 :: a92 :: a93 :: a94 :: a95 :: a96 :: a97 :: a98 :: a99 :: a100 :: a101 :: a102 :: a103 :: a104 :: a105 :: a106 :: a107 :: []

abbrev OpT : Type := Int × Int × Int × Int × BitVec 64 × Unit
abbrev dOp : OpT := (0, 0, 0, 0, 0#64, ())
def enO (o : OpT) : List VVal := [iI o.1, iI o.2.1, iI o.2.2.1, iI o.2.2.2.1, iW o.2.2.2.2.1]
def fzO (l : List OpT) : VVal := .fsl (l.flatMap enO) l.length 5 false
theorem flat_get {α : Type} {f : α → List VVal} {c : Nat} (hc : ∀ a, (f a).length = c) (d : α) : ∀ (l : List α) (n i : Nat), n < l.length → i < c → (l.flatMap f)[n * c + i]? = (f (l.getD n d))[i]?
  | [], n, i, h, _ => by simp at h
  | a :: l, 0, i, h, hi => by
    rw [List.flatMap_cons, Nat.zero_mul, Nat.zero_add, List.getElem?_append_left (by rw [hc]; exact hi)]; rfl
  | a :: l, n + 1, i, h, hi => by
    rw [List.flatMap_cons, List.getElem?_append_right (by rw [hc, Nat.succ_mul]; omega), hc, show (n + 1) * c + i - c = n * c + i from by rw [Nat.succ_mul]; omega, flat_get hc d l n i (by simpa using h) hi]; rfl
section
variable {l : List OpT} {n : Int}
theorem op_c0 (h : 0 ≤ n ∧ n < l.length) : (l.flatMap enO)[n.toNat * 5 + 0]? = some (iI (l.getD n.toNat dOp).1) := flat_get (c := 5) (fun _ => rfl) dOp l n.toNat 0 (by omega) (by omega)
theorem op_c1 (h : 0 ≤ n ∧ n < l.length) : (l.flatMap enO)[n.toNat * 5 + 1]? = some (iI (l.getD n.toNat dOp).2.1) := flat_get (c := 5) (fun _ => rfl) dOp l n.toNat 1 (by omega) (by omega)
theorem op_c2 (h : 0 ≤ n ∧ n < l.length) : (l.flatMap enO)[n.toNat * 5 + 2]? = some (iI (l.getD n.toNat dOp).2.2.1) := flat_get (c := 5) (fun _ => rfl) dOp l n.toNat 2 (by omega) (by omega)
theorem op_c3 (h : 0 ≤ n ∧ n < l.length) : (l.flatMap enO)[n.toNat * 5 + 3]? = some (iI (l.getD n.toNat dOp).2.2.2.1) := flat_get (c := 5) (fun _ => rfl) dOp l n.toNat 3 (by omega) (by omega)
theorem op_c4 (h : 0 ≤ n ∧ n < l.length) : (l.flatMap enO)[n.toNat * 5 + 4]? = some (iW (l.getD n.toNat dOp).2.2.2.2.1) := flat_get (c := 5) (fun _ => rfl) dOp l n.toNat 4 (by omega) (by omega)
end
section
variable {x : SW} (H L : VHeap) {i : Nat} {J : List (BitVec 64)}
theorem rkNew_loc : F (psys x) 27 [] (H ++ L) fun v G => v = .ptr (some (H.length + L.length, 0)) ∧ G = H ++ (L ++ [rkB rk0]) := by
  have := rkNew_spec (x := x) (H ++ L)
  rw [List.length_append, List.append_assoc] at this
  exact this
theorem Over_loc (hL : L[i]? = some (rkB J)) (hJ : J.length = 64) (s j : Int) : F (psys x) 30 [.ptr (some (H.length + i, 0)), iI s, iI j] (H ++ L) fun v G => v = iI (ovE J s j) ∧ G = H ++ L.set i (rkB (ovJ J s j)) := by
  have := Over_spec (x := x) (H ++ L) (H.length + i) J (get_app rfl hL) hJ s j
  rw [set_app rfl] at this; exact this
theorem Cut_loc (hL : L[i]? = some (rkB J)) (hJ : J.length = 64) (s j : Int) : F (psys x) 29 [.ptr (some (H.length + i, 0)), iI s, iI j] (H ++ L) fun v G => v = iI (ctE J s j) ∧ G = H ++ L.set i (rkB (ctJ J s j)) := by
  have := Cut_spec (x := x) (H ++ L) (H.length + i) J (get_app rfl hL) hJ s j
  rw [set_app rfl] at this; exact this
end
theorem hasB_0 {s j : Int} : hasB rk0 s j = false := by unfold hasB; rw [lk_0, Bool.and_false, Bool.and_false]
def wkJ1 : List (BitVec 64) := lay rk0 1 2
def wkJ2 : List (BitVec 64) := lay wkJ1 2 3
theorem blw_is {J : List (BitVec 64)} {a : Int} {w : BitVec 64} (k : Nat) (h : 0 ≤ a ∧ a < 64) (e : sprF J k (1#64 <<< a.toNat) (1#64 <<< a.toNat) = some w) : blw J a = w := by
  unfold blw; rw [if_pos h]; exact spr_is k e
theorem wk1 : ovE rk0 1 2 = 0 ∧ ovJ rk0 1 2 = wkJ1 := ov0 (by decide) hasB_0 (by rw [blw_is (w := 4#64) 5 (by decide) (by kernel_rfl)]; decide)
theorem wk2 : ovE wkJ1 2 3 = 0 ∧ ovJ wkJ1 2 3 = wkJ2 := ov0 (by decide) (by kernel_rfl) (by rw [blw_is (w := 8#64) 5 (by decide) (by kernel_rfl)]; decide)
theorem wk3 : blw wkJ2 1 = 14#64 := blw_is 6 (by decide) (by kernel_rfl)
theorem wk4 : ovE wkJ2 3 1 = 6 ∧ ovJ wkJ2 3 1 = wkJ2 := ov6 (by decide) (by kernel_rfl) (by rw [wk3]; decide)

theorem rkWakes_spec {x : SW} (H : VHeap) : F (psys x) 28 [] H fun v G => v = .bool true ∧ G = H := by
  refine F_body Tryd.func28 rfl uL23n25 rfl ?_
  refine B_seq ?_
  refine B_region ?_
  refine L_op (env' := uL23n25) rfl rfl (v_const (VVal.bool false) (.inr rfl) rfl) rfl ?_
  refine L_nil ?_
  refine K_seq ?_
  refine B_seq ?_
  refine B_region ?_
  refine L_call rfl rfl rfl (by exact rkNew_loc _ _) ?_
  rintro _ _ ⟨rfl, rfl⟩
  refine L_env (env' := uL23n25) rfl ?_
  refine L_op (env' := uL23n25) rfl rfl (v_move (.inr rfl) rfl) rfl ?_
  refine L_nil ?_
  refine K_seq ?_
  refine B_seq ?_
  refine B_region ?_
  refine L_op (env' := uL23n25) rfl rfl (v_move (.inl rfl) rfl) rfl ?_
  refine L_op (env' := uL23n25) rfl rfl (rfl) rfl ?_
  refine L_op (env' := uL23n25) rfl rfl (v_move (.inl rfl) rfl) rfl ?_
  refine L_op (env' := uL23n25) rfl rfl (v_move (.inl rfl) rfl) rfl ?_
  refine L_call rfl rfl rfl (by exact Over_loc (J := rk0) _ _ rfl (by kernel_rfl) 1 2) ?_
  rintro v G ⟨hv, hG⟩; rw [wk1.1] at hv; rw [wk1.2] at hG; subst hv; subst hG
  refine L_env (env' := uL23n25) rfl ?_
  refine L_op (env' := uL23n25) rfl rfl (rfl) rfl ?_
  refine L_op (env' := uL23n25) rfl rfl (v_pickT rfl rfl rfl) rfl ?_
  refine L_op (env' := uL23n25) rfl rfl (v_move (.inl rfl) rfl) rfl ?_
  refine L_op (env' := uL23n25) rfl rfl (v_move (.inl rfl) rfl) rfl ?_
  refine L_call rfl rfl rfl (by exact Over_loc (J := wkJ1) _ _ rfl (by kernel_rfl) 2 3) ?_
  rintro v G ⟨hv, hG⟩; rw [wk2.1] at hv; rw [wk2.2] at hG; subst hv; subst hG
  refine L_env (env' := uL23n25) rfl ?_
  refine L_op (env' := uL23n25) rfl rfl (rfl) rfl ?_
  refine L_op (env' := uL23n25) rfl rfl (v_pickT rfl rfl rfl) rfl ?_
  refine L_op (env' := uL23n25) rfl rfl (v_move (.inl rfl) rfl) rfl ?_
  refine L_op (env' := uL23n25) rfl rfl (v_move (.inl rfl) rfl) rfl ?_
  refine L_call rfl rfl rfl (by exact rkBelow_spec _ _ wkJ2 (get_app rfl rfl) (by kernel_rfl) 1) ?_
  rintro v G ⟨hv, hG⟩; rw [wk3] at hv; subst hv; subst hG
  refine L_env (env' := uL23n25) rfl ?_
  refine L_op (env' := uL23n25) rfl rfl (rfl) rfl ?_
  refine L_op (env' := uL23n25) rfl rfl (v_pickT rfl rfl rfl) rfl ?_
  refine L_op (env' := uL23n25) rfl rfl (v_move (.inl rfl) rfl) rfl ?_
  refine L_op (env' := uL23n25) rfl rfl (v_move (.inl rfl) rfl) rfl ?_
  refine L_call rfl rfl rfl (by exact Over_loc (J := wkJ2) _ _ rfl (by kernel_rfl) 3 1) ?_
  rintro v G ⟨hv, hG⟩; rw [wk4.1] at hv; rw [wk4.2] at hG; subst hv; subst hG
  refine L_env (env' := uL23n25) rfl ?_
  refine L_op (env' := uL23n25) rfl rfl (rfl) rfl ?_
  refine L_op (env' := uL23n25) rfl rfl (v_pickT rfl rfl rfl) rfl ?_
  refine L_op (env' := uL23n25) rfl rfl (v_move (.inr rfl) rfl) rfl ?_
  refine L_nil ?_
  refine K_seq ?_
  refine B_ret ?_
  refine E_app (.inr rfl) (vres_tmp rfl rfl) (by first | exact BaseOk.refl _ | exact BaseOk.set (BaseOk.refl _) _ rfl) (by first | rfl | simp [VVal.under, VVal.underL, *]) ?_
  exact ⟨rfl, rfl⟩

theorem RankDepth_walk {x : SW} (H : VHeap) (ops : List OpT) (hl : ops.length * 40 ≤ 140737488355328) : F (psys x) 7 [fzO ops] H fun v G => v = .bool true ∧ G = H := by
  refine F_body Tryd.func7 rfl uL23n108 rfl ?_
  refine B_seq ?_
  refine B_region ?_
  refine L_op (env' := uL23n108) rfl rfl (v_const (VVal.bool false) (.inr rfl) rfl) rfl ?_
  refine L_nil ?_
  refine K_seq ?_
  refine B_seq ?_
  refine B_region ?_
  refine L_call rfl rfl rfl (by exact rkNew_loc _ _) ?_
  rintro _ _ ⟨rfl, rfl⟩
  refine L_env (env' := uL23n108) rfl ?_
  refine L_op (env' := uL23n108) rfl rfl (v_move (.inr rfl) rfl) rfl ?_
  refine L_nil ?_
  refine K_seq ?_
  refine B_seq ?_
  refine B_seq ?_
  refine B_region ?_
  refine L_op (env' := uL23n108) rfl rfl (v_move (.inl rfl) rfl) rfl ?_
  refine L_op (env' := uL23n108) rfl rfl (rfl) rfl ?_
  refine L_op (env' := uL23n108) rfl rfl (v_move (.inl rfl) rfl) rfl ?_
  refine L_call rfl rfl rfl (by exact rkWakes_spec _) ?_
  rintro _ _ ⟨rfl, rfl⟩
  refine L_env (env' := uL23n108) rfl ?_
  refine L_op (env' := uL23n108) rfl rfl (rfl) rfl ?_
  refine L_op (env' := uL23n108) rfl rfl (v_pickF rfl rfl rfl) rfl ?_
  refine L_nil ?_
  refine K_seq ?_
  refine B_false rfl rfl ?_
  refine B_skip ?_
  refine K_seq ?_
  refine B_seq ?_
  refine B_seq ?_
  refine B_region ?_
  refine L_op (env' := uL23n108) rfl rfl (v_const (VVal.int .i64 0) (.inr rfl) rfl) rfl ?_
  refine L_nil ?_
  refine K_seq ?_
  refine B_block ?_
  refine B_clear (false :: true :: true :: false :: false :: true :: true :: true :: true :: true :: true :: true :: true :: true :: true :: true :: true :: true :: true :: true :: true :: true :: true :: true :: true :: true :: true :: true :: true :: true :: true :: true :: true :: true :: true :: true :: true :: true :: true :: true :: true :: true :: true :: true :: true :: true :: true :: true :: true :: true :: true :: true :: true :: true :: true :: true :: true :: true :: true :: true :: true :: true :: true :: true :: true :: true :: true :: true :: true :: true :: true :: true :: true :: true :: true :: true :: true :: true :: true :: true :: true :: true :: true :: true :: true :: true :: true :: true :: true :: true :: true :: true :: true :: true :: true :: true :: true :: true :: true :: true :: true :: true :: true :: true :: true :: true :: true :: true :: []) (env' := uL23n108) rfl ?_
  refine B_loopE (fun (⟨J, k⟩ : List (BitVec 64) × Nat) => 120 - k) (fun (⟨J, k⟩ : List (BitVec 64) × Nat) => [(4, iI (k : Nat))]) (fun (⟨J, k⟩ : List (BitVec 64) × Nat) G => (Rk J ∧ k ≤ 120) ∧ G = H ++ [rkB J]) ⟨rk0, 0⟩ rfl ?_ ?_
  · refine ⟨?_, rfl⟩
    exact ⟨Rk.zero, Nat.zero_le _⟩
  rintro ⟨J, k⟩ _ ⟨⟨hR, hk⟩, rfl⟩
  refine B_env (env' := uL23n108) rfl ?_
  refine B_seq ?_
  refine B_seq ?_
  refine B_region ?_
  refine L_op (env' := uL23n108) rfl rfl (v_move (.inl rfl) rfl) rfl ?_
  refine L_op (env' := uL23n108) rfl rfl (v_move (.inl rfl) rfl) rfl ?_
  refine L_op (env' := uL23n108) rfl rfl (rfl) rfl ?_
  refine L_op (env' := uL23n108) rfl rfl (rfl) rfl ?_
  refine L_op (env' := uL23n108) rfl rfl (v_move (.inl rfl) rfl) rfl ?_
  refine L_split 20 (env1 := uL23n108) (env2 := uL23n108) rfl rfl rfl (fun hg1 => ?_) (fun hg1 => ?_)
  · try simp only [decide_eq_true_eq, decide_eq_false_iff_not, Bool.not_eq_true', Bool.not_eq_false', bne_iff_ne, beq_iff_eq, Bool.and_eq_true, Bool.or_eq_true, Bool.not_eq_true, ge_iff_le, gt_iff_lt, Int.not_le, Int.not_lt, beq_eq_false_iff_ne, bne_eq_false_iff_eq, ne_eq, Decidable.not_not, wd_zero, wd_one, wd_inj] at hg1
    refine L_op (env' := uL23n108) rfl rfl (v_move (.inl rfl) rfl) rfl ?_
    refine L_op (env' := uL23n108) rfl rfl (rfl) rfl ?_
    refine L_op (env' := uL23n108) rfl rfl (v_pickT rfl rfl rfl) rfl ?_
    refine L_nil ?_
    refine K_seq ?_
    refine B_cond _ rfl (fun hc2 => ?_) (fun hc2 => ?_)
    · try simp only [decide_eq_true_eq, decide_eq_false_iff_not, Bool.not_eq_true', Bool.not_eq_false', bne_iff_ne, beq_iff_eq, Bool.and_eq_true, Bool.or_eq_true, Bool.not_eq_true, ge_iff_le, gt_iff_lt, Int.not_le, Int.not_lt, beq_eq_false_iff_ne, bne_eq_false_iff_eq, ne_eq, Decidable.not_not, wd_zero, wd_one, wd_inj] at hc2
      refine B_skip ?_
      refine K_seq ?_
      refine B_seq ?_
      refine B_block ?_
      refine B_seq ?_
      refine B_region ?_
      refine L_op (env' := uL23n108) rfl rfl (v_move (.inl rfl) rfl) rfl ?_
      refine L_op (env' := uL23n108) rfl rfl (v_move (.inl rfl) rfl) rfl ?_
      refine L_op (env' := uL23n108) rfl rfl (by first | exact v_idxF rfl rfl rfl rfl rfl rfl rfl (by first | assumption | omega | (simp [*]; done) | (simp at *; omega)) | exact v_idx rfl rfl rfl rfl rfl rfl rfl (by first | assumption | omega | (simp [*]; done) | (simp at *; omega))) rfl ?_
      refine L_op (env' := uL23n108) rfl rfl (rfl) rfl ?_
      refine L_op (env' := uL23n108) rfl rfl (by first | exact v_loadF rfl rfl rfl rfl (by first | exact op_c0 (by omega) | exact op_c1 (by omega) | exact op_c2 (by omega) | exact op_c3 (by omega) | exact op_c4 (by omega) | exact pair_c0 (by omega) | exact pair_c1 (by omega) | rfl) | exact v_load rfl rfl rfl rfl (by first | exact get_app rfl rfl | exact get_out (by assumption) | assumption | (simp [*]; done)) (by first | exact op_c0 (by omega) | exact op_c1 (by omega) | exact op_c2 (by omega) | exact op_c3 (by omega) | exact op_c4 (by omega) | exact pair_c0 (by omega) | exact pair_c1 (by omega) | rfl)) rfl ?_
      refine L_op (env' := uL23n108) rfl rfl (rfl) rfl ?_
      refine L_nil ?_
      refine K_seq ?_
      refine B_cond _ rfl (fun hc3 => ?_) (fun hc3 => ?_)
      · try simp only [decide_eq_true_eq, decide_eq_false_iff_not, Bool.not_eq_true', Bool.not_eq_false', bne_iff_ne, beq_iff_eq, Bool.and_eq_true, Bool.or_eq_true, Bool.not_eq_true, ge_iff_le, gt_iff_lt, Int.not_le, Int.not_lt, beq_eq_false_iff_ne, bne_eq_false_iff_eq, ne_eq, Decidable.not_not, wd_zero, wd_one, wd_inj] at hc3
        refine B_draw [0, 1, 2, 3, 4, 5, 6, 7, 8, 9, 10, 11] #[0, 0, 0, 6, 14, 30, 0, 0, 192, 448, 960, 2047] (by kernel_rfl) (by kernel_rfl) (by kernel_rfl) ?_
        refine O_op (env' := uL23n108) (c := .calm) rfl rfl rfl (v_move (.inl rfl) rfl) rfl rfl rfl ?_
        refine O_op (env' := uL23n108) (c := .calm) rfl rfl rfl (v_move (.inl rfl) rfl) rfl rfl rfl ?_
        refine O_op (env' := uL23n108) (c := .calm) rfl rfl rfl (v_move (.inl rfl) rfl) rfl rfl rfl ?_
        refine O_op (env' := uL23n108) (c := .calm) rfl rfl rfl (by first | exact v_idxF rfl rfl rfl rfl rfl rfl rfl (by first | assumption | omega | (simp [*]; done) | (simp at *; omega)) | exact v_idx rfl rfl rfl rfl rfl rfl rfl (by first | assumption | omega | (simp [*]; done) | (simp at *; omega))) rfl rfl rfl ?_
        refine O_op (env' := uL23n108) (c := .calm) rfl rfl rfl (rfl) rfl rfl rfl ?_
        refine O_op (env' := uL23n108) (c := .look) rfl rfl rfl (by first | exact v_loadF rfl rfl rfl rfl (by first | exact op_c0 (by omega) | exact op_c1 (by omega) | exact op_c2 (by omega) | exact op_c3 (by omega) | exact op_c4 (by omega) | exact pair_c0 (by omega) | exact pair_c1 (by omega) | rfl) | exact v_load rfl rfl rfl rfl (by first | exact get_app rfl rfl | exact get_out (by assumption) | assumption | (simp [*]; done)) (by first | exact op_c0 (by omega) | exact op_c1 (by omega) | exact op_c2 (by omega) | exact op_c3 (by omega) | exact op_c4 (by omega) | exact pair_c0 (by omega) | exact pair_c1 (by omega) | rfl)) rfl rfl rfl ?_
        refine O_op (env' := uL23n108) (c := .calm) rfl rfl rfl (v_move (.inl rfl) rfl) rfl rfl rfl ?_
        refine O_op (env' := uL23n108) (c := .calm) rfl rfl rfl (v_move (.inl rfl) rfl) rfl rfl rfl ?_
        refine O_op (env' := uL23n108) (c := .calm) rfl rfl rfl (by first | exact v_idxF rfl rfl rfl rfl rfl rfl rfl (by first | assumption | omega | (simp [*]; done) | (simp at *; omega)) | exact v_idx rfl rfl rfl rfl rfl rfl rfl (by first | assumption | omega | (simp [*]; done) | (simp at *; omega))) rfl rfl rfl ?_
        refine O_op (env' := uL23n108) (c := .calm) rfl rfl rfl (rfl) rfl rfl rfl ?_
        refine O_op (env' := uL23n108) (c := .look) rfl rfl rfl (by first | exact v_loadF rfl rfl rfl rfl (by first | exact op_c0 (by omega) | exact op_c1 (by omega) | exact op_c2 (by omega) | exact op_c3 (by omega) | exact op_c4 (by omega) | exact pair_c0 (by omega) | exact pair_c1 (by omega) | rfl) | exact v_load rfl rfl rfl rfl (by first | exact get_app rfl rfl | exact get_out (by assumption) | assumption | (simp [*]; done)) (by first | exact op_c0 (by omega) | exact op_c1 (by omega) | exact op_c2 (by omega) | exact op_c3 (by omega) | exact op_c4 (by omega) | exact pair_c0 (by omega) | exact pair_c1 (by omega) | rfl)) rfl rfl rfl ?_
        refine O_call (env' := uL23n108) rfl rfl rfl rfl rfl (by exact Cut_loc _ _ rfl hR.len _ _) (by first | exact Nat.le_refl _ | simp) rfl rfl ?_
        refine O_nil [] (by kernel_rfl) (trivial) ?_
        refine K_blk ?_
        refine K_seq ?_
        refine B_region ?_
        refine L_op (env' := uL23n108) rfl rfl (v_move (.inl rfl) rfl) rfl ?_
        refine L_op (env' := uL23n108) rfl rfl (v_addI rfl rfl rfl (by first | assumption | omega | (simp [*]; done) | (simp at *; omega))) rfl ?_
        refine L_op (env' := uL23n108) rfl rfl (v_move (.inr rfl) rfl) rfl ?_
        refine L_nil ?_
        refine K_loop (false :: true :: true :: false :: false :: true :: true :: true :: true :: true :: true :: true :: true :: true :: true :: true :: true :: true :: true :: true :: true :: true :: true :: true :: true :: true :: true :: true :: true :: true :: true :: true :: true :: true :: true :: true :: true :: true :: true :: true :: true :: true :: true :: true :: true :: true :: true :: true :: true :: true :: true :: true :: true :: true :: true :: true :: true :: true :: true :: true :: true :: true :: true :: true :: true :: true :: true :: true :: true :: true :: true :: true :: true :: true :: true :: true :: true :: true :: true :: true :: true :: true :: true :: true :: true :: true :: true :: true :: true :: true :: true :: true :: true :: true :: true :: true :: true :: true :: true :: true :: true :: true :: true :: true :: true :: true :: true :: true :: []) (env' := uL23n108) rfl ⟨⟨ctJ J (ops.getD k dOp).2.2.1 (ops.getD k dOp).2.2.2.1, k + 1⟩, ?_, rfl, ?_⟩
        · first | omega | (simp only []; omega)
        · first | exact ⟨⟨hR.ctJ, by omega⟩, rfl⟩ | exact ⟨⟨hR.ovJ, by omega⟩, rfl⟩
      · try simp only [decide_eq_true_eq, decide_eq_false_iff_not, Bool.not_eq_true', Bool.not_eq_false', bne_iff_ne, beq_iff_eq, Bool.and_eq_true, Bool.or_eq_true, Bool.not_eq_true, ge_iff_le, gt_iff_lt, Int.not_le, Int.not_lt, beq_eq_false_iff_ne, bne_eq_false_iff_eq, ne_eq, Decidable.not_not, wd_zero, wd_one, wd_inj] at hc3
        refine B_draw [0, 1, 2, 3, 4, 5, 6, 7, 8, 9, 10, 11] #[0, 0, 0, 6, 14, 30, 0, 0, 192, 448, 960, 2047] (by kernel_rfl) (by kernel_rfl) (by kernel_rfl) ?_
        refine O_op (env' := uL23n108) (c := .calm) rfl rfl rfl (v_move (.inl rfl) rfl) rfl rfl rfl ?_
        refine O_op (env' := uL23n108) (c := .calm) rfl rfl rfl (v_move (.inl rfl) rfl) rfl rfl rfl ?_
        refine O_op (env' := uL23n108) (c := .calm) rfl rfl rfl (v_move (.inl rfl) rfl) rfl rfl rfl ?_
        refine O_op (env' := uL23n108) (c := .calm) rfl rfl rfl (by first | exact v_idxF rfl rfl rfl rfl rfl rfl rfl (by first | assumption | omega | (simp [*]; done) | (simp at *; omega)) | exact v_idx rfl rfl rfl rfl rfl rfl rfl (by first | assumption | omega | (simp [*]; done) | (simp at *; omega))) rfl rfl rfl ?_
        refine O_op (env' := uL23n108) (c := .calm) rfl rfl rfl (rfl) rfl rfl rfl ?_
        refine O_op (env' := uL23n108) (c := .look) rfl rfl rfl (by first | exact v_loadF rfl rfl rfl rfl (by first | exact op_c0 (by omega) | exact op_c1 (by omega) | exact op_c2 (by omega) | exact op_c3 (by omega) | exact op_c4 (by omega) | exact pair_c0 (by omega) | exact pair_c1 (by omega) | rfl) | exact v_load rfl rfl rfl rfl (by first | exact get_app rfl rfl | exact get_out (by assumption) | assumption | (simp [*]; done)) (by first | exact op_c0 (by omega) | exact op_c1 (by omega) | exact op_c2 (by omega) | exact op_c3 (by omega) | exact op_c4 (by omega) | exact pair_c0 (by omega) | exact pair_c1 (by omega) | rfl)) rfl rfl rfl ?_
        refine O_op (env' := uL23n108) (c := .calm) rfl rfl rfl (v_move (.inl rfl) rfl) rfl rfl rfl ?_
        refine O_op (env' := uL23n108) (c := .calm) rfl rfl rfl (v_move (.inl rfl) rfl) rfl rfl rfl ?_
        refine O_op (env' := uL23n108) (c := .calm) rfl rfl rfl (by first | exact v_idxF rfl rfl rfl rfl rfl rfl rfl (by first | assumption | omega | (simp [*]; done) | (simp at *; omega)) | exact v_idx rfl rfl rfl rfl rfl rfl rfl (by first | assumption | omega | (simp [*]; done) | (simp at *; omega))) rfl rfl rfl ?_
        refine O_op (env' := uL23n108) (c := .calm) rfl rfl rfl (rfl) rfl rfl rfl ?_
        refine O_op (env' := uL23n108) (c := .look) rfl rfl rfl (by first | exact v_loadF rfl rfl rfl rfl (by first | exact op_c0 (by omega) | exact op_c1 (by omega) | exact op_c2 (by omega) | exact op_c3 (by omega) | exact op_c4 (by omega) | exact pair_c0 (by omega) | exact pair_c1 (by omega) | rfl) | exact v_load rfl rfl rfl rfl (by first | exact get_app rfl rfl | exact get_out (by assumption) | assumption | (simp [*]; done)) (by first | exact op_c0 (by omega) | exact op_c1 (by omega) | exact op_c2 (by omega) | exact op_c3 (by omega) | exact op_c4 (by omega) | exact pair_c0 (by omega) | exact pair_c1 (by omega) | rfl)) rfl rfl rfl ?_
        refine O_call (env' := uL23n108) rfl rfl rfl rfl rfl (by exact Over_loc _ _ rfl hR.len _ _) (by first | exact Nat.le_refl _ | simp) rfl rfl ?_
        refine O_nil [] (by kernel_rfl) (trivial) ?_
        refine K_blk ?_
        refine K_seq ?_
        refine B_region ?_
        refine L_op (env' := uL23n108) rfl rfl (v_move (.inl rfl) rfl) rfl ?_
        refine L_op (env' := uL23n108) rfl rfl (v_addI rfl rfl rfl (by first | assumption | omega | (simp [*]; done) | (simp at *; omega))) rfl ?_
        refine L_op (env' := uL23n108) rfl rfl (v_move (.inr rfl) rfl) rfl ?_
        refine L_nil ?_
        refine K_loop (false :: true :: true :: false :: false :: true :: true :: true :: true :: true :: true :: true :: true :: true :: true :: true :: true :: true :: true :: true :: true :: true :: true :: true :: true :: true :: true :: true :: true :: true :: true :: true :: true :: true :: true :: true :: true :: true :: true :: true :: true :: true :: true :: true :: true :: true :: true :: true :: true :: true :: true :: true :: true :: true :: true :: true :: true :: true :: true :: true :: true :: true :: true :: true :: true :: true :: true :: true :: true :: true :: true :: true :: true :: true :: true :: true :: true :: true :: true :: true :: true :: true :: true :: true :: true :: true :: true :: true :: true :: true :: true :: true :: true :: true :: true :: true :: true :: true :: true :: true :: true :: true :: true :: true :: true :: true :: true :: true :: []) (env' := uL23n108) rfl ⟨⟨ovJ J (ops.getD k dOp).2.2.1 (ops.getD k dOp).2.2.2.1, k + 1⟩, ?_, rfl, ?_⟩
        · first | omega | (simp only []; omega)
        · first | exact ⟨⟨hR.ctJ, by omega⟩, rfl⟩ | exact ⟨⟨hR.ovJ, by omega⟩, rfl⟩
    · try simp only [decide_eq_true_eq, decide_eq_false_iff_not, Bool.not_eq_true', Bool.not_eq_false', bne_iff_ne, beq_iff_eq, Bool.and_eq_true, Bool.or_eq_true, Bool.not_eq_true, ge_iff_le, gt_iff_lt, Int.not_le, Int.not_lt, beq_eq_false_iff_ne, bne_eq_false_iff_eq, ne_eq, Decidable.not_not, wd_zero, wd_one, wd_inj] at hc2
      refine B_exit ?_
      refine K_seqX ?_
      refine K_loopX ?_
      refine K_blkX ?_
      refine K_seq ?_
      refine B_seq ?_
      refine B_region ?_
      refine L_op (env' := uL23n108) rfl rfl (v_move (.inl rfl) rfl) rfl ?_
      refine L_call rfl rfl rfl (by exact Links_spec _ _ J (get_app rfl rfl) hR.len) ?_
      rintro _ _ ⟨rfl, rfl⟩
      refine L_env (env' := uL23n108) rfl ?_
      refine L_op (env' := uL23n108) rfl rfl (v_move (.inr rfl) rfl) rfl ?_
      refine L_nil ?_
      refine K_seq ?_
      refine B_seq ?_
      refine B_seq ?_
      refine B_region ?_
      refine L_op (env' := uL23n108) rfl rfl (v_const (VVal.int .i64 0) (.inr rfl) rfl) rfl ?_
      refine L_nil ?_
      refine K_seq ?_
      refine B_block ?_
      refine B_clear (true :: true :: true :: false :: true :: false :: false :: true :: true :: true :: true :: true :: true :: true :: true :: true :: true :: true :: true :: true :: true :: true :: true :: true :: true :: true :: true :: true :: true :: true :: true :: true :: true :: true :: true :: true :: true :: true :: true :: true :: true :: true :: true :: true :: true :: true :: true :: true :: true :: true :: true :: true :: true :: true :: true :: true :: true :: true :: true :: true :: true :: true :: true :: true :: true :: true :: true :: true :: true :: true :: true :: true :: true :: true :: true :: true :: true :: true :: true :: true :: true :: true :: true :: true :: true :: true :: true :: true :: true :: true :: true :: true :: true :: true :: true :: true :: true :: true :: true :: true :: true :: true :: true :: true :: true :: true :: true :: true :: []) (env' := uL23n108) rfl ?_
      have hll := @lkTo_len J 64
      have hll : (lkL J).length ≤ 4096 := hll
      refine B_loopE (fun (a : Nat) => 64 - a) (fun (a : Nat) => [(6, iI (a : Nat))]) (fun (a : Nat) G => (a ≤ 64) ∧ G = H ++ [rkB J]) 0 rfl ?_ ?_
      · refine ⟨?_, rfl⟩
        exact Nat.zero_le _
      rintro a _ ⟨ha, rfl⟩
      refine B_env (env' := uL23n108) rfl ?_
      refine B_seq ?_
      refine B_seq ?_
      refine B_region ?_
      refine L_op (env' := uL23n108) rfl rfl (v_move (.inl rfl) rfl) rfl ?_
      refine L_op (env' := uL23n108) rfl rfl (rfl) rfl ?_
      refine L_nil ?_
      refine K_seq ?_
      refine B_cond _ rfl (fun hc4 => ?_) (fun hc4 => ?_)
      · try simp only [decide_eq_true_eq, decide_eq_false_iff_not, Bool.not_eq_true', Bool.not_eq_false', bne_iff_ne, beq_iff_eq, Bool.and_eq_true, Bool.or_eq_true, Bool.not_eq_true, ge_iff_le, gt_iff_lt, Int.not_le, Int.not_lt, beq_eq_false_iff_ne, bne_eq_false_iff_eq, ne_eq, Decidable.not_not, wd_zero, wd_one, wd_inj] at hc4
        refine B_skip ?_
        refine K_seq ?_
        refine B_seq ?_
        refine B_block ?_
        refine B_seq ?_
        refine B_region ?_
        refine L_op (env' := uL23n108) rfl rfl (v_const (VVal.int .i64 0) (.inr rfl) rfl) rfl ?_
        refine L_nil ?_
        refine K_seq ?_
        refine B_seq ?_
        refine B_seq ?_
        refine B_region ?_
        refine L_op (env' := uL23n108) rfl rfl (v_const (VVal.int .i64 0) (.inr rfl) rfl) rfl ?_
        refine L_nil ?_
        refine K_seq ?_
        refine B_block ?_
        refine B_clear (true :: true :: true :: false :: true :: false :: false :: false :: false :: true :: true :: true :: true :: true :: true :: true :: true :: true :: true :: true :: true :: true :: true :: true :: true :: true :: true :: true :: true :: true :: true :: true :: true :: true :: true :: true :: true :: true :: true :: true :: true :: true :: true :: true :: true :: true :: true :: true :: true :: true :: true :: true :: true :: true :: true :: true :: true :: true :: true :: true :: true :: true :: true :: true :: true :: true :: true :: true :: true :: true :: true :: true :: true :: true :: true :: true :: true :: true :: true :: true :: true :: true :: true :: true :: true :: true :: true :: true :: true :: true :: true :: true :: true :: true :: true :: true :: true :: true :: true :: true :: true :: true :: true :: true :: true :: true :: true :: true :: []) (env' := uL23n108) rfl ?_
        refine B_loopE (fun (i : Nat) => (lkL J).length - i) (fun (i : Nat) => [(7, iI (bst J a ((lkL J).take i))), (8, iI (i : Nat))]) (fun (i : Nat) G => (i ≤ (lkL J).length) ∧ G = H ++ [rkB J]) 0 rfl ?_ ?_
        · refine ⟨?_, rfl⟩
          exact Nat.zero_le _
        rintro i _ ⟨hi, rfl⟩
        refine B_env (env' := uL23n108) rfl ?_
        refine B_seq ?_
        refine B_seq ?_
        refine B_region ?_
        refine L_op (env' := uL23n108) rfl rfl (v_move (.inl rfl) rfl) rfl ?_
        refine L_op (env' := uL23n108) rfl rfl (v_move (.inl rfl) rfl) rfl ?_
        refine L_op (env' := uL23n108) rfl rfl (rfl) rfl ?_
        refine L_op (env' := uL23n108) rfl rfl (rfl) rfl ?_
        refine L_nil ?_
        refine K_seq ?_
        refine B_cond _ rfl (fun hc5 => ?_) (fun hc5 => ?_)
        · try simp only [decide_eq_true_eq, decide_eq_false_iff_not, Bool.not_eq_true', Bool.not_eq_false', bne_iff_ne, beq_iff_eq, Bool.and_eq_true, Bool.or_eq_true, Bool.not_eq_true, ge_iff_le, gt_iff_lt, Int.not_le, Int.not_lt, beq_eq_false_iff_ne, bne_eq_false_iff_eq, ne_eq, Decidable.not_not, wd_zero, wd_one, wd_inj] at hc5
          refine B_skip ?_
          refine K_seq ?_
          refine B_seq ?_
          refine B_block ?_
          refine B_seq ?_
          refine B_region ?_
          refine L_op (env' := uL23n108) rfl rfl (v_move (.inl rfl) rfl) rfl ?_
          refine L_op (env' := uL23n108) rfl rfl (v_move (.inl rfl) rfl) rfl ?_
          refine L_op (env' := uL23n108) rfl rfl (by first | exact v_idxF rfl rfl rfl rfl rfl rfl rfl (by first | assumption | omega | (simp [*]; done) | (simp at *; omega)) | exact v_idx rfl rfl rfl rfl rfl rfl rfl (by first | assumption | omega | (simp [*]; done) | (simp at *; omega))) rfl ?_
          refine L_op (env' := uL23n108) rfl rfl (by first | exact v_idxFA rfl rfl rfl rfl rfl rfl (by first | assumption | omega | (simp [*]; done) | (simp at *; omega)) | exact v_idxA rfl rfl rfl rfl rfl rfl (by first | assumption | omega | (simp [*]; done) | (simp at *; omega))) rfl ?_
          refine L_op (env' := uL23n108) rfl rfl (by first | exact v_loadF rfl rfl rfl rfl (by first | exact op_c0 (by omega) | exact op_c1 (by omega) | exact op_c2 (by omega) | exact op_c3 (by omega) | exact op_c4 (by omega) | exact pair_c0 (by omega) | exact pair_c1 (by omega) | rfl) | exact v_load rfl rfl rfl rfl (by first | exact get_app rfl rfl | exact get_out (by assumption) | assumption | (simp [*]; done)) (by first | exact op_c0 (by omega) | exact op_c1 (by omega) | exact op_c2 (by omega) | exact op_c3 (by omega) | exact op_c4 (by omega) | exact pair_c0 (by omega) | exact pair_c1 (by omega) | rfl)) rfl ?_
          refine L_op (env' := uL23n108) rfl rfl (v_move (.inl rfl) rfl) rfl ?_
          refine L_op (env' := uL23n108) rfl rfl (rfl) rfl ?_
          refine L_op (env' := uL23n108) rfl rfl (v_move (.inl rfl) rfl) rfl ?_
          refine L_split 75 (env1 := uL23n108) (env2 := uL23n108) rfl rfl rfl (fun hg6 => ?_) (fun hg6 => ?_)
          · try simp only [decide_eq_true_eq, decide_eq_false_iff_not, Bool.not_eq_true', Bool.not_eq_false', bne_iff_ne, beq_iff_eq, Bool.and_eq_true, Bool.or_eq_true, Bool.not_eq_true, ge_iff_le, gt_iff_lt, Int.not_le, Int.not_lt, beq_eq_false_iff_ne, bne_eq_false_iff_eq, ne_eq, Decidable.not_not, wd_zero, wd_one, wd_inj] at hg6
            refine L_op (env' := uL23n108) rfl rfl (v_move (.inl rfl) rfl) rfl ?_
            refine L_op (env' := uL23n108) rfl rfl (v_move (.inl rfl) rfl) rfl ?_
            refine L_op (env' := uL23n108) rfl rfl (v_move (.inl rfl) rfl) rfl ?_
            refine L_op (env' := uL23n108) rfl rfl (by first | exact v_idxF rfl rfl rfl rfl rfl rfl rfl (by first | assumption | omega | (simp [*]; done) | (simp at *; omega)) | exact v_idx rfl rfl rfl rfl rfl rfl rfl (by first | assumption | omega | (simp [*]; done) | (simp at *; omega))) rfl ?_
            refine L_op (env' := uL23n108) rfl rfl (by first | exact v_idxFA rfl rfl rfl rfl rfl rfl (by first | assumption | omega | (simp [*]; done) | (simp at *; omega)) | exact v_idxA rfl rfl rfl rfl rfl rfl (by first | assumption | omega | (simp [*]; done) | (simp at *; omega))) rfl ?_
            refine L_op (env' := uL23n108) rfl rfl (by first | exact v_loadF rfl rfl rfl rfl (by first | exact op_c0 (by omega) | exact op_c1 (by omega) | exact op_c2 (by omega) | exact op_c3 (by omega) | exact op_c4 (by omega) | exact pair_c0 (by omega) | exact pair_c1 (by omega) | rfl) | exact v_load rfl rfl rfl rfl (by first | exact get_app rfl rfl | exact get_out (by assumption) | assumption | (simp [*]; done)) (by first | exact op_c0 (by omega) | exact op_c1 (by omega) | exact op_c2 (by omega) | exact op_c3 (by omega) | exact op_c4 (by omega) | exact pair_c0 (by omega) | exact pair_c1 (by omega) | rfl)) rfl ?_
            refine L_call rfl rfl rfl (by exact Depth_spec _ _ J (get_app rfl rfl) hR _) ?_
            rintro _ _ ⟨rfl, rfl⟩
            refine L_env (env' := uL23n108) rfl ?_
            refine L_op (env' := uL23n108) rfl rfl (v_addI rfl rfl rfl (by have := @dptI_le J ((lkL J).getD (i : Int).toNat (0, 0)).2; omega)) rfl ?_
            refine L_op (env' := uL23n108) rfl rfl (v_move (.inl rfl) rfl) rfl ?_
            refine L_op (env' := uL23n108) rfl rfl (rfl) rfl ?_
            refine L_op (env' := uL23n108) rfl rfl (v_pickT rfl rfl rfl) rfl ?_
            refine L_nil ?_
            refine K_seq ?_
            refine B_cond _ rfl (fun hc7 => ?_) (fun hc7 => ?_)
            · try simp only [decide_eq_true_eq, decide_eq_false_iff_not, Bool.not_eq_true', Bool.not_eq_false', bne_iff_ne, beq_iff_eq, Bool.and_eq_true, Bool.or_eq_true, Bool.not_eq_true, ge_iff_le, gt_iff_lt, Int.not_le, Int.not_lt, beq_eq_false_iff_ne, bne_eq_false_iff_eq, ne_eq, Decidable.not_not, wd_zero, wd_one, wd_inj] at hc7
              refine B_region ?_
              refine L_op (env' := uL23n108) rfl rfl (v_move (.inl rfl) rfl) rfl ?_
              refine L_op (env' := uL23n108) rfl rfl (v_move (.inl rfl) rfl) rfl ?_
              refine L_op (env' := uL23n108) rfl rfl (v_move (.inl rfl) rfl) rfl ?_
              refine L_op (env' := uL23n108) rfl rfl (by first | exact v_idxF rfl rfl rfl rfl rfl rfl rfl (by first | assumption | omega | (simp [*]; done) | (simp at *; omega)) | exact v_idx rfl rfl rfl rfl rfl rfl rfl (by first | assumption | omega | (simp [*]; done) | (simp at *; omega))) rfl ?_
              refine L_op (env' := uL23n108) rfl rfl (by first | exact v_idxFA rfl rfl rfl rfl rfl rfl (by first | assumption | omega | (simp [*]; done) | (simp at *; omega)) | exact v_idxA rfl rfl rfl rfl rfl rfl (by first | assumption | omega | (simp [*]; done) | (simp at *; omega))) rfl ?_
              refine L_op (env' := uL23n108) rfl rfl (by first | exact v_loadF rfl rfl rfl rfl (by first | exact op_c0 (by omega) | exact op_c1 (by omega) | exact op_c2 (by omega) | exact op_c3 (by omega) | exact op_c4 (by omega) | exact pair_c0 (by omega) | exact pair_c1 (by omega) | rfl) | exact v_load rfl rfl rfl rfl (by first | exact get_app rfl rfl | exact get_out (by assumption) | assumption | (simp [*]; done)) (by first | exact op_c0 (by omega) | exact op_c1 (by omega) | exact op_c2 (by omega) | exact op_c3 (by omega) | exact op_c4 (by omega) | exact pair_c0 (by omega) | exact pair_c1 (by omega) | rfl)) rfl ?_
              refine L_call rfl rfl rfl (by exact Depth_spec _ _ J (get_app rfl rfl) hR _) ?_
              rintro _ _ ⟨rfl, rfl⟩
              refine L_env (env' := uL23n108) rfl ?_
              refine L_op (env' := uL23n108) rfl rfl (v_addI rfl rfl rfl (by have := @dptI_le J ((lkL J).getD (i : Int).toNat (0, 0)).2; omega)) rfl ?_
              refine L_op (env' := uL23n108) rfl rfl (v_move (.inr rfl) rfl) rfl ?_
              refine L_nil ?_
              refine K_blk ?_
              refine K_seq ?_
              refine B_region ?_
              refine L_op (env' := uL23n108) rfl rfl (v_move (.inl rfl) rfl) rfl ?_
              refine L_op (env' := uL23n108) rfl rfl (v_addI rfl rfl rfl (by first | assumption | omega | (simp [*]; done) | (simp at *; omega))) rfl ?_
              refine L_op (env' := uL23n108) rfl rfl (v_move (.inr rfl) rfl) rfl ?_
              refine L_nil ?_
              have hbt : bst J a ((lkL J).take (i + 1)) = if ((lkL J).getD (i : Int).toNat (0, 0)).1 = a ∧ bst J a ((lkL J).take i) < 1 + dptI J ((lkL J).getD (i : Int).toNat (0, 0)).2 then 1 + dptI J ((lkL J).getD (i : Int).toNat (0, 0)).2 else bst J a ((lkL J).take i) := bst_take (by omega)
              first
                | (have hE : 1 + dptI J ((lkL J).getD (i : Int).toNat (0, 0)).2 = bst J a ((lkL J).take (i + 1)) := by rw [hbt, if_pos (by omega)]); rw [hE]
                | (have hE : bst J a ((lkL J).take i) = bst J a ((lkL J).take (i + 1)) := by rw [hbt, if_neg (by omega)]); rw [hE]
              refine K_loop (true :: true :: true :: false :: true :: false :: false :: false :: false :: true :: true :: true :: true :: true :: true :: true :: true :: true :: true :: true :: true :: true :: true :: true :: true :: true :: true :: true :: true :: true :: true :: true :: true :: true :: true :: true :: true :: true :: true :: true :: true :: true :: true :: true :: true :: true :: true :: true :: true :: true :: true :: true :: true :: true :: true :: true :: true :: true :: true :: true :: true :: true :: true :: true :: true :: true :: true :: true :: true :: true :: true :: true :: true :: true :: true :: true :: true :: true :: true :: true :: true :: true :: true :: true :: true :: true :: true :: true :: true :: true :: true :: true :: true :: true :: true :: true :: true :: true :: true :: true :: true :: true :: true :: true :: true :: true :: true :: true :: []) (env' := uL23n108) rfl ⟨i + 1, ?_, rfl, ?_⟩
              · first | omega | (simp only []; omega)
              · exact ⟨by omega, rfl⟩
            · try simp only [decide_eq_true_eq, decide_eq_false_iff_not, Bool.not_eq_true', Bool.not_eq_false', bne_iff_ne, beq_iff_eq, Bool.and_eq_true, Bool.or_eq_true, Bool.not_eq_true, ge_iff_le, gt_iff_lt, Int.not_le, Int.not_lt, beq_eq_false_iff_ne, bne_eq_false_iff_eq, ne_eq, Decidable.not_not, wd_zero, wd_one, wd_inj] at hc7
              refine B_skip ?_
              refine K_blk ?_
              refine K_seq ?_
              refine B_region ?_
              refine L_op (env' := uL23n108) rfl rfl (v_move (.inl rfl) rfl) rfl ?_
              refine L_op (env' := uL23n108) rfl rfl (v_addI rfl rfl rfl (by first | assumption | omega | (simp [*]; done) | (simp at *; omega))) rfl ?_
              refine L_op (env' := uL23n108) rfl rfl (v_move (.inr rfl) rfl) rfl ?_
              refine L_nil ?_
              have hbt : bst J a ((lkL J).take (i + 1)) = if ((lkL J).getD (i : Int).toNat (0, 0)).1 = a ∧ bst J a ((lkL J).take i) < 1 + dptI J ((lkL J).getD (i : Int).toNat (0, 0)).2 then 1 + dptI J ((lkL J).getD (i : Int).toNat (0, 0)).2 else bst J a ((lkL J).take i) := bst_take (by omega)
              first
                | (have hE : 1 + dptI J ((lkL J).getD (i : Int).toNat (0, 0)).2 = bst J a ((lkL J).take (i + 1)) := by rw [hbt, if_pos (by omega)]); rw [hE]
                | (have hE : bst J a ((lkL J).take i) = bst J a ((lkL J).take (i + 1)) := by rw [hbt, if_neg (by omega)]); rw [hE]
              refine K_loop (true :: true :: true :: false :: true :: false :: false :: false :: false :: true :: true :: true :: true :: true :: true :: true :: true :: true :: true :: true :: true :: true :: true :: true :: true :: true :: true :: true :: true :: true :: true :: true :: true :: true :: true :: true :: true :: true :: true :: true :: true :: true :: true :: true :: true :: true :: true :: true :: true :: true :: true :: true :: true :: true :: true :: true :: true :: true :: true :: true :: true :: true :: true :: true :: true :: true :: true :: true :: true :: true :: true :: true :: true :: true :: true :: true :: true :: true :: true :: true :: true :: true :: true :: true :: true :: true :: true :: true :: true :: true :: true :: true :: true :: true :: true :: true :: true :: true :: true :: true :: true :: true :: true :: true :: true :: true :: true :: true :: []) (env' := uL23n108) rfl ⟨i + 1, ?_, rfl, ?_⟩
              · first | omega | (simp only []; omega)
              · exact ⟨by omega, rfl⟩
          · try simp only [decide_eq_true_eq, decide_eq_false_iff_not, Bool.not_eq_true', Bool.not_eq_false', bne_iff_ne, beq_iff_eq, Bool.and_eq_true, Bool.or_eq_true, Bool.not_eq_true, ge_iff_le, gt_iff_lt, Int.not_le, Int.not_lt, beq_eq_false_iff_ne, bne_eq_false_iff_eq, ne_eq, Decidable.not_not, wd_zero, wd_one, wd_inj] at hg6
            refine L_off (env' := uL23n108) rfl rfl ?_
            refine L_off (env' := uL23n108) rfl rfl ?_
            refine L_off (env' := uL23n108) rfl rfl ?_
            refine L_off (env' := uL23n108) rfl rfl ?_
            refine L_off (env' := uL23n108) rfl rfl ?_
            refine L_off (env' := uL23n108) rfl rfl ?_
            refine L_off (env' := uL23n108) rfl rfl ?_
            refine L_off (env' := uL23n108) rfl rfl ?_
            refine L_off (env' := uL23n108) rfl rfl ?_
            refine L_off (env' := uL23n108) rfl rfl ?_
            refine L_op (env' := uL23n108) rfl rfl (v_pickFC (VVal.bool false) rfl rfl rfl) rfl ?_
            refine L_nil ?_
            refine K_seq ?_
            refine B_false rfl rfl ?_
            refine B_skip ?_
            refine K_blk ?_
            refine K_seq ?_
            refine B_region ?_
            refine L_op (env' := uL23n108) rfl rfl (v_move (.inl rfl) rfl) rfl ?_
            refine L_op (env' := uL23n108) rfl rfl (v_addI rfl rfl rfl (by first | assumption | omega | (simp [*]; done) | (simp at *; omega))) rfl ?_
            refine L_op (env' := uL23n108) rfl rfl (v_move (.inr rfl) rfl) rfl ?_
            refine L_nil ?_
            have hbt : bst J a ((lkL J).take (i + 1)) = if ((lkL J).getD (i : Int).toNat (0, 0)).1 = a ∧ bst J a ((lkL J).take i) < 1 + dptI J ((lkL J).getD (i : Int).toNat (0, 0)).2 then 1 + dptI J ((lkL J).getD (i : Int).toNat (0, 0)).2 else bst J a ((lkL J).take i) := bst_take (by omega)
            first
              | (have hE : 1 + dptI J ((lkL J).getD (i : Int).toNat (0, 0)).2 = bst J a ((lkL J).take (i + 1)) := by rw [hbt, if_pos (by omega)]); rw [hE]
              | (have hE : bst J a ((lkL J).take i) = bst J a ((lkL J).take (i + 1)) := by rw [hbt, if_neg (by omega)]); rw [hE]
            refine K_loop (true :: true :: true :: false :: true :: false :: false :: false :: false :: true :: true :: true :: true :: true :: true :: true :: true :: true :: true :: true :: true :: true :: true :: true :: true :: true :: true :: true :: true :: true :: true :: true :: true :: true :: true :: true :: true :: true :: true :: true :: true :: true :: true :: true :: true :: true :: true :: true :: true :: true :: true :: true :: true :: true :: true :: true :: true :: true :: true :: true :: true :: true :: true :: true :: true :: true :: true :: true :: true :: true :: true :: true :: true :: true :: true :: true :: true :: true :: true :: true :: true :: true :: true :: true :: true :: true :: true :: true :: true :: true :: true :: true :: true :: true :: true :: true :: true :: true :: true :: true :: true :: true :: true :: true :: true :: true :: true :: true :: []) (env' := uL23n108) rfl ⟨i + 1, ?_, rfl, ?_⟩
            · first | omega | (simp only []; omega)
            · exact ⟨by omega, rfl⟩
        · try simp only [decide_eq_true_eq, decide_eq_false_iff_not, Bool.not_eq_true', Bool.not_eq_false', bne_iff_ne, beq_iff_eq, Bool.and_eq_true, Bool.or_eq_true, Bool.not_eq_true, ge_iff_le, gt_iff_lt, Int.not_le, Int.not_lt, beq_eq_false_iff_ne, bne_eq_false_iff_eq, ne_eq, Decidable.not_not, wd_zero, wd_one, wd_inj] at hc5
          refine B_exit ?_
          refine K_seqX ?_
          refine K_loopX ?_
          refine K_blkX ?_
          refine K_seq ?_
          refine B_seq ?_
          refine B_region ?_
          refine L_op (env' := uL23n108) rfl rfl (v_move (.inl rfl) rfl) rfl ?_
          refine L_op (env' := uL23n108) rfl rfl (v_move (.inl rfl) rfl) rfl ?_
          refine L_call rfl rfl rfl (by exact Depth_spec _ _ J (get_app rfl rfl) hR _) ?_
          rintro _ _ ⟨rfl, rfl⟩
          refine L_env (env' := uL23n108) rfl ?_
          refine L_op (env' := uL23n108) rfl rfl (v_move (.inl rfl) rfl) rfl ?_
          refine L_op (env' := uL23n108) rfl rfl (v_is false rfl (by rw [show i = (lkL J).length by omega, List.take_length, hR.best (by omega)]; simp)) rfl ?_
          refine L_nil ?_
          refine K_seq ?_
          refine B_false rfl rfl ?_
          refine B_skip ?_
          refine K_blk ?_
          refine K_seq ?_
          refine B_region ?_
          refine L_op (env' := uL23n108) rfl rfl (v_move (.inl rfl) rfl) rfl ?_
          refine L_op (env' := uL23n108) rfl rfl (v_addI rfl rfl rfl (by first | assumption | omega | (simp [*]; done) | (simp at *; omega))) rfl ?_
          refine L_op (env' := uL23n108) rfl rfl (v_move (.inr rfl) rfl) rfl ?_
          refine L_nil ?_
          refine K_loop (true :: true :: true :: false :: true :: false :: false :: true :: true :: true :: true :: true :: true :: true :: true :: true :: true :: true :: true :: true :: true :: true :: true :: true :: true :: true :: true :: true :: true :: true :: true :: true :: true :: true :: true :: true :: true :: true :: true :: true :: true :: true :: true :: true :: true :: true :: true :: true :: true :: true :: true :: true :: true :: true :: true :: true :: true :: true :: true :: true :: true :: true :: true :: true :: true :: true :: true :: true :: true :: true :: true :: true :: true :: true :: true :: true :: true :: true :: true :: true :: true :: true :: true :: true :: true :: true :: true :: true :: true :: true :: true :: true :: true :: true :: true :: true :: true :: true :: true :: true :: true :: true :: true :: true :: true :: true :: true :: true :: []) (env' := uL23n108) rfl ⟨a + 1, ?_, rfl, ?_⟩
          · first | omega | (simp only []; omega)
          · exact ⟨by omega, rfl⟩
      · try simp only [decide_eq_true_eq, decide_eq_false_iff_not, Bool.not_eq_true', Bool.not_eq_false', bne_iff_ne, beq_iff_eq, Bool.and_eq_true, Bool.or_eq_true, Bool.not_eq_true, ge_iff_le, gt_iff_lt, Int.not_le, Int.not_lt, beq_eq_false_iff_ne, bne_eq_false_iff_eq, ne_eq, Decidable.not_not, wd_zero, wd_one, wd_inj] at hc4
        refine B_exit ?_
        refine K_seqX ?_
        refine K_loopX ?_
        refine K_blkX ?_
        refine K_seq ?_
        refine B_seq ?_
        refine B_region ?_
        refine L_op (env' := uL23n108) rfl rfl (v_move (.inl rfl) rfl) rfl ?_
        refine L_call rfl rfl rfl (by exact Depth_spec _ _ J (get_app rfl rfl) hR _) ?_
        rintro _ _ ⟨rfl, rfl⟩
        refine L_env (env' := uL23n108) rfl ?_
        refine L_op (env' := uL23n108) rfl rfl (v_is true rfl (by simp [dptI])) rfl ?_
        refine L_op (env' := uL23n108) rfl rfl (v_move (.inl rfl) rfl) rfl ?_
        refine L_op (env' := uL23n108) rfl rfl (v_move (.inl rfl) rfl) rfl ?_
        refine L_call rfl rfl rfl (by exact Depth_spec _ _ J (get_app rfl rfl) hR _) ?_
        rintro _ _ ⟨rfl, rfl⟩
        refine L_env (env' := uL23n108) rfl ?_
        refine L_op (env' := uL23n108) rfl rfl (rfl) rfl ?_
        refine L_op (env' := uL23n108) rfl rfl (v_pickT rfl rfl rfl) rfl ?_
        refine L_op (env' := uL23n108) rfl rfl (v_move (.inr rfl) rfl) rfl ?_
        refine L_nil ?_
        refine K_seq ?_
        refine B_ret ?_
        refine E_app (.inr rfl) (vres_tmp rfl rfl) (by first | exact BaseOk.refl _ | exact BaseOk.set (BaseOk.refl _) _ rfl) (by first | rfl | simp [VVal.under, VVal.underL, *]) ?_
        exact ⟨by simp [dptI], rfl⟩
  · try simp only [decide_eq_true_eq, decide_eq_false_iff_not, Bool.not_eq_true', Bool.not_eq_false', bne_iff_ne, beq_iff_eq, Bool.and_eq_true, Bool.or_eq_true, Bool.not_eq_true, ge_iff_le, gt_iff_lt, Int.not_le, Int.not_lt, beq_eq_false_iff_ne, bne_eq_false_iff_eq, ne_eq, Decidable.not_not, wd_zero, wd_one, wd_inj] at hg1
    refine L_off (env' := uL23n108) rfl rfl ?_
    refine L_off (env' := uL23n108) rfl rfl ?_
    refine L_op (env' := uL23n108) rfl rfl (v_pickFC (VVal.bool false) rfl rfl rfl) rfl ?_
    refine L_nil ?_
    refine K_seq ?_
    refine B_false rfl rfl ?_
    refine B_exit ?_
    refine K_seqX ?_
    refine K_loopX ?_
    refine K_blkX ?_
    refine K_seq ?_
    refine B_seq ?_
    refine B_region ?_
    refine L_op (env' := uL23n108) rfl rfl (v_move (.inl rfl) rfl) rfl ?_
    refine L_call rfl rfl rfl (by exact Links_spec _ _ J (get_app rfl rfl) hR.len) ?_
    rintro _ _ ⟨rfl, rfl⟩
    refine L_env (env' := uL23n108) rfl ?_
    refine L_op (env' := uL23n108) rfl rfl (v_move (.inr rfl) rfl) rfl ?_
    refine L_nil ?_
    refine K_seq ?_
    refine B_seq ?_
    refine B_seq ?_
    refine B_region ?_
    refine L_op (env' := uL23n108) rfl rfl (v_const (VVal.int .i64 0) (.inr rfl) rfl) rfl ?_
    refine L_nil ?_
    refine K_seq ?_
    refine B_block ?_
    refine B_clear (true :: true :: true :: false :: true :: false :: false :: true :: true :: true :: true :: true :: true :: true :: true :: true :: true :: true :: true :: true :: true :: true :: true :: true :: true :: true :: true :: true :: true :: true :: true :: true :: true :: true :: true :: true :: true :: true :: true :: true :: true :: true :: true :: true :: true :: true :: true :: true :: true :: true :: true :: true :: true :: true :: true :: true :: true :: true :: true :: true :: true :: true :: true :: true :: true :: true :: true :: true :: true :: true :: true :: true :: true :: true :: true :: true :: true :: true :: true :: true :: true :: true :: true :: true :: true :: true :: true :: true :: true :: true :: true :: true :: true :: true :: true :: true :: true :: true :: true :: true :: true :: true :: true :: true :: true :: true :: true :: true :: []) (env' := uL23n108) rfl ?_
    have hll := @lkTo_len J 64
    have hll : (lkL J).length ≤ 4096 := hll
    refine B_loopE (fun (a : Nat) => 64 - a) (fun (a : Nat) => [(6, iI (a : Nat))]) (fun (a : Nat) G => (a ≤ 64) ∧ G = H ++ [rkB J]) 0 rfl ?_ ?_
    · refine ⟨?_, rfl⟩
      exact Nat.zero_le _
    rintro a _ ⟨ha, rfl⟩
    refine B_env (env' := uL23n108) rfl ?_
    refine B_seq ?_
    refine B_seq ?_
    refine B_region ?_
    refine L_op (env' := uL23n108) rfl rfl (v_move (.inl rfl) rfl) rfl ?_
    refine L_op (env' := uL23n108) rfl rfl (rfl) rfl ?_
    refine L_nil ?_
    refine K_seq ?_
    refine B_cond _ rfl (fun hc8 => ?_) (fun hc8 => ?_)
    · try simp only [decide_eq_true_eq, decide_eq_false_iff_not, Bool.not_eq_true', Bool.not_eq_false', bne_iff_ne, beq_iff_eq, Bool.and_eq_true, Bool.or_eq_true, Bool.not_eq_true, ge_iff_le, gt_iff_lt, Int.not_le, Int.not_lt, beq_eq_false_iff_ne, bne_eq_false_iff_eq, ne_eq, Decidable.not_not, wd_zero, wd_one, wd_inj] at hc8
      refine B_skip ?_
      refine K_seq ?_
      refine B_seq ?_
      refine B_block ?_
      refine B_seq ?_
      refine B_region ?_
      refine L_op (env' := uL23n108) rfl rfl (v_const (VVal.int .i64 0) (.inr rfl) rfl) rfl ?_
      refine L_nil ?_
      refine K_seq ?_
      refine B_seq ?_
      refine B_seq ?_
      refine B_region ?_
      refine L_op (env' := uL23n108) rfl rfl (v_const (VVal.int .i64 0) (.inr rfl) rfl) rfl ?_
      refine L_nil ?_
      refine K_seq ?_
      refine B_block ?_
      refine B_clear (true :: true :: true :: false :: true :: false :: false :: false :: false :: true :: true :: true :: true :: true :: true :: true :: true :: true :: true :: true :: true :: true :: true :: true :: true :: true :: true :: true :: true :: true :: true :: true :: true :: true :: true :: true :: true :: true :: true :: true :: true :: true :: true :: true :: true :: true :: true :: true :: true :: true :: true :: true :: true :: true :: true :: true :: true :: true :: true :: true :: true :: true :: true :: true :: true :: true :: true :: true :: true :: true :: true :: true :: true :: true :: true :: true :: true :: true :: true :: true :: true :: true :: true :: true :: true :: true :: true :: true :: true :: true :: true :: true :: true :: true :: true :: true :: true :: true :: true :: true :: true :: true :: true :: true :: true :: true :: true :: true :: []) (env' := uL23n108) rfl ?_
      refine B_loopE (fun (i : Nat) => (lkL J).length - i) (fun (i : Nat) => [(7, iI (bst J a ((lkL J).take i))), (8, iI (i : Nat))]) (fun (i : Nat) G => (i ≤ (lkL J).length) ∧ G = H ++ [rkB J]) 0 rfl ?_ ?_
      · refine ⟨?_, rfl⟩
        exact Nat.zero_le _
      rintro i _ ⟨hi, rfl⟩
      refine B_env (env' := uL23n108) rfl ?_
      refine B_seq ?_
      refine B_seq ?_
      refine B_region ?_
      refine L_op (env' := uL23n108) rfl rfl (v_move (.inl rfl) rfl) rfl ?_
      refine L_op (env' := uL23n108) rfl rfl (v_move (.inl rfl) rfl) rfl ?_
      refine L_op (env' := uL23n108) rfl rfl (rfl) rfl ?_
      refine L_op (env' := uL23n108) rfl rfl (rfl) rfl ?_
      refine L_nil ?_
      refine K_seq ?_
      refine B_cond _ rfl (fun hc9 => ?_) (fun hc9 => ?_)
      · try simp only [decide_eq_true_eq, decide_eq_false_iff_not, Bool.not_eq_true', Bool.not_eq_false', bne_iff_ne, beq_iff_eq, Bool.and_eq_true, Bool.or_eq_true, Bool.not_eq_true, ge_iff_le, gt_iff_lt, Int.not_le, Int.not_lt, beq_eq_false_iff_ne, bne_eq_false_iff_eq, ne_eq, Decidable.not_not, wd_zero, wd_one, wd_inj] at hc9
        refine B_skip ?_
        refine K_seq ?_
        refine B_seq ?_
        refine B_block ?_
        refine B_seq ?_
        refine B_region ?_
        refine L_op (env' := uL23n108) rfl rfl (v_move (.inl rfl) rfl) rfl ?_
        refine L_op (env' := uL23n108) rfl rfl (v_move (.inl rfl) rfl) rfl ?_
        refine L_op (env' := uL23n108) rfl rfl (by first | exact v_idxF rfl rfl rfl rfl rfl rfl rfl (by first | assumption | omega | (simp [*]; done) | (simp at *; omega)) | exact v_idx rfl rfl rfl rfl rfl rfl rfl (by first | assumption | omega | (simp [*]; done) | (simp at *; omega))) rfl ?_
        refine L_op (env' := uL23n108) rfl rfl (by first | exact v_idxFA rfl rfl rfl rfl rfl rfl (by first | assumption | omega | (simp [*]; done) | (simp at *; omega)) | exact v_idxA rfl rfl rfl rfl rfl rfl (by first | assumption | omega | (simp [*]; done) | (simp at *; omega))) rfl ?_
        refine L_op (env' := uL23n108) rfl rfl (by first | exact v_loadF rfl rfl rfl rfl (by first | exact op_c0 (by omega) | exact op_c1 (by omega) | exact op_c2 (by omega) | exact op_c3 (by omega) | exact op_c4 (by omega) | exact pair_c0 (by omega) | exact pair_c1 (by omega) | rfl) | exact v_load rfl rfl rfl rfl (by first | exact get_app rfl rfl | exact get_out (by assumption) | assumption | (simp [*]; done)) (by first | exact op_c0 (by omega) | exact op_c1 (by omega) | exact op_c2 (by omega) | exact op_c3 (by omega) | exact op_c4 (by omega) | exact pair_c0 (by omega) | exact pair_c1 (by omega) | rfl)) rfl ?_
        refine L_op (env' := uL23n108) rfl rfl (v_move (.inl rfl) rfl) rfl ?_
        refine L_op (env' := uL23n108) rfl rfl (rfl) rfl ?_
        refine L_op (env' := uL23n108) rfl rfl (v_move (.inl rfl) rfl) rfl ?_
        refine L_split 75 (env1 := uL23n108) (env2 := uL23n108) rfl rfl rfl (fun hg10 => ?_) (fun hg10 => ?_)
        · try simp only [decide_eq_true_eq, decide_eq_false_iff_not, Bool.not_eq_true', Bool.not_eq_false', bne_iff_ne, beq_iff_eq, Bool.and_eq_true, Bool.or_eq_true, Bool.not_eq_true, ge_iff_le, gt_iff_lt, Int.not_le, Int.not_lt, beq_eq_false_iff_ne, bne_eq_false_iff_eq, ne_eq, Decidable.not_not, wd_zero, wd_one, wd_inj] at hg10
          refine L_op (env' := uL23n108) rfl rfl (v_move (.inl rfl) rfl) rfl ?_
          refine L_op (env' := uL23n108) rfl rfl (v_move (.inl rfl) rfl) rfl ?_
          refine L_op (env' := uL23n108) rfl rfl (v_move (.inl rfl) rfl) rfl ?_
          refine L_op (env' := uL23n108) rfl rfl (by first | exact v_idxF rfl rfl rfl rfl rfl rfl rfl (by first | assumption | omega | (simp [*]; done) | (simp at *; omega)) | exact v_idx rfl rfl rfl rfl rfl rfl rfl (by first | assumption | omega | (simp [*]; done) | (simp at *; omega))) rfl ?_
          refine L_op (env' := uL23n108) rfl rfl (by first | exact v_idxFA rfl rfl rfl rfl rfl rfl (by first | assumption | omega | (simp [*]; done) | (simp at *; omega)) | exact v_idxA rfl rfl rfl rfl rfl rfl (by first | assumption | omega | (simp [*]; done) | (simp at *; omega))) rfl ?_
          refine L_op (env' := uL23n108) rfl rfl (by first | exact v_loadF rfl rfl rfl rfl (by first | exact op_c0 (by omega) | exact op_c1 (by omega) | exact op_c2 (by omega) | exact op_c3 (by omega) | exact op_c4 (by omega) | exact pair_c0 (by omega) | exact pair_c1 (by omega) | rfl) | exact v_load rfl rfl rfl rfl (by first | exact get_app rfl rfl | exact get_out (by assumption) | assumption | (simp [*]; done)) (by first | exact op_c0 (by omega) | exact op_c1 (by omega) | exact op_c2 (by omega) | exact op_c3 (by omega) | exact op_c4 (by omega) | exact pair_c0 (by omega) | exact pair_c1 (by omega) | rfl)) rfl ?_
          refine L_call rfl rfl rfl (by exact Depth_spec _ _ J (get_app rfl rfl) hR _) ?_
          rintro _ _ ⟨rfl, rfl⟩
          refine L_env (env' := uL23n108) rfl ?_
          refine L_op (env' := uL23n108) rfl rfl (v_addI rfl rfl rfl (by have := @dptI_le J ((lkL J).getD (i : Int).toNat (0, 0)).2; omega)) rfl ?_
          refine L_op (env' := uL23n108) rfl rfl (v_move (.inl rfl) rfl) rfl ?_
          refine L_op (env' := uL23n108) rfl rfl (rfl) rfl ?_
          refine L_op (env' := uL23n108) rfl rfl (v_pickT rfl rfl rfl) rfl ?_
          refine L_nil ?_
          refine K_seq ?_
          refine B_cond _ rfl (fun hc11 => ?_) (fun hc11 => ?_)
          · try simp only [decide_eq_true_eq, decide_eq_false_iff_not, Bool.not_eq_true', Bool.not_eq_false', bne_iff_ne, beq_iff_eq, Bool.and_eq_true, Bool.or_eq_true, Bool.not_eq_true, ge_iff_le, gt_iff_lt, Int.not_le, Int.not_lt, beq_eq_false_iff_ne, bne_eq_false_iff_eq, ne_eq, Decidable.not_not, wd_zero, wd_one, wd_inj] at hc11
            refine B_region ?_
            refine L_op (env' := uL23n108) rfl rfl (v_move (.inl rfl) rfl) rfl ?_
            refine L_op (env' := uL23n108) rfl rfl (v_move (.inl rfl) rfl) rfl ?_
            refine L_op (env' := uL23n108) rfl rfl (v_move (.inl rfl) rfl) rfl ?_
            refine L_op (env' := uL23n108) rfl rfl (by first | exact v_idxF rfl rfl rfl rfl rfl rfl rfl (by first | assumption | omega | (simp [*]; done) | (simp at *; omega)) | exact v_idx rfl rfl rfl rfl rfl rfl rfl (by first | assumption | omega | (simp [*]; done) | (simp at *; omega))) rfl ?_
            refine L_op (env' := uL23n108) rfl rfl (by first | exact v_idxFA rfl rfl rfl rfl rfl rfl (by first | assumption | omega | (simp [*]; done) | (simp at *; omega)) | exact v_idxA rfl rfl rfl rfl rfl rfl (by first | assumption | omega | (simp [*]; done) | (simp at *; omega))) rfl ?_
            refine L_op (env' := uL23n108) rfl rfl (by first | exact v_loadF rfl rfl rfl rfl (by first | exact op_c0 (by omega) | exact op_c1 (by omega) | exact op_c2 (by omega) | exact op_c3 (by omega) | exact op_c4 (by omega) | exact pair_c0 (by omega) | exact pair_c1 (by omega) | rfl) | exact v_load rfl rfl rfl rfl (by first | exact get_app rfl rfl | exact get_out (by assumption) | assumption | (simp [*]; done)) (by first | exact op_c0 (by omega) | exact op_c1 (by omega) | exact op_c2 (by omega) | exact op_c3 (by omega) | exact op_c4 (by omega) | exact pair_c0 (by omega) | exact pair_c1 (by omega) | rfl)) rfl ?_
            refine L_call rfl rfl rfl (by exact Depth_spec _ _ J (get_app rfl rfl) hR _) ?_
            rintro _ _ ⟨rfl, rfl⟩
            refine L_env (env' := uL23n108) rfl ?_
            refine L_op (env' := uL23n108) rfl rfl (v_addI rfl rfl rfl (by have := @dptI_le J ((lkL J).getD (i : Int).toNat (0, 0)).2; omega)) rfl ?_
            refine L_op (env' := uL23n108) rfl rfl (v_move (.inr rfl) rfl) rfl ?_
            refine L_nil ?_
            refine K_blk ?_
            refine K_seq ?_
            refine B_region ?_
            refine L_op (env' := uL23n108) rfl rfl (v_move (.inl rfl) rfl) rfl ?_
            refine L_op (env' := uL23n108) rfl rfl (v_addI rfl rfl rfl (by first | assumption | omega | (simp [*]; done) | (simp at *; omega))) rfl ?_
            refine L_op (env' := uL23n108) rfl rfl (v_move (.inr rfl) rfl) rfl ?_
            refine L_nil ?_
            have hbt : bst J a ((lkL J).take (i + 1)) = if ((lkL J).getD (i : Int).toNat (0, 0)).1 = a ∧ bst J a ((lkL J).take i) < 1 + dptI J ((lkL J).getD (i : Int).toNat (0, 0)).2 then 1 + dptI J ((lkL J).getD (i : Int).toNat (0, 0)).2 else bst J a ((lkL J).take i) := bst_take (by omega)
            first
              | (have hE : 1 + dptI J ((lkL J).getD (i : Int).toNat (0, 0)).2 = bst J a ((lkL J).take (i + 1)) := by rw [hbt, if_pos (by omega)]); rw [hE]
              | (have hE : bst J a ((lkL J).take i) = bst J a ((lkL J).take (i + 1)) := by rw [hbt, if_neg (by omega)]); rw [hE]
            refine K_loop (true :: true :: true :: false :: true :: false :: false :: false :: false :: true :: true :: true :: true :: true :: true :: true :: true :: true :: true :: true :: true :: true :: true :: true :: true :: true :: true :: true :: true :: true :: true :: true :: true :: true :: true :: true :: true :: true :: true :: true :: true :: true :: true :: true :: true :: true :: true :: true :: true :: true :: true :: true :: true :: true :: true :: true :: true :: true :: true :: true :: true :: true :: true :: true :: true :: true :: true :: true :: true :: true :: true :: true :: true :: true :: true :: true :: true :: true :: true :: true :: true :: true :: true :: true :: true :: true :: true :: true :: true :: true :: true :: true :: true :: true :: true :: true :: true :: true :: true :: true :: true :: true :: true :: true :: true :: true :: true :: true :: []) (env' := uL23n108) rfl ⟨i + 1, ?_, rfl, ?_⟩
            · first | omega | (simp only []; omega)
            · exact ⟨by omega, rfl⟩
          · try simp only [decide_eq_true_eq, decide_eq_false_iff_not, Bool.not_eq_true', Bool.not_eq_false', bne_iff_ne, beq_iff_eq, Bool.and_eq_true, Bool.or_eq_true, Bool.not_eq_true, ge_iff_le, gt_iff_lt, Int.not_le, Int.not_lt, beq_eq_false_iff_ne, bne_eq_false_iff_eq, ne_eq, Decidable.not_not, wd_zero, wd_one, wd_inj] at hc11
            refine B_skip ?_
            refine K_blk ?_
            refine K_seq ?_
            refine B_region ?_
            refine L_op (env' := uL23n108) rfl rfl (v_move (.inl rfl) rfl) rfl ?_
            refine L_op (env' := uL23n108) rfl rfl (v_addI rfl rfl rfl (by first | assumption | omega | (simp [*]; done) | (simp at *; omega))) rfl ?_
            refine L_op (env' := uL23n108) rfl rfl (v_move (.inr rfl) rfl) rfl ?_
            refine L_nil ?_
            have hbt : bst J a ((lkL J).take (i + 1)) = if ((lkL J).getD (i : Int).toNat (0, 0)).1 = a ∧ bst J a ((lkL J).take i) < 1 + dptI J ((lkL J).getD (i : Int).toNat (0, 0)).2 then 1 + dptI J ((lkL J).getD (i : Int).toNat (0, 0)).2 else bst J a ((lkL J).take i) := bst_take (by omega)
            first
              | (have hE : 1 + dptI J ((lkL J).getD (i : Int).toNat (0, 0)).2 = bst J a ((lkL J).take (i + 1)) := by rw [hbt, if_pos (by omega)]); rw [hE]
              | (have hE : bst J a ((lkL J).take i) = bst J a ((lkL J).take (i + 1)) := by rw [hbt, if_neg (by omega)]); rw [hE]
            refine K_loop (true :: true :: true :: false :: true :: false :: false :: false :: false :: true :: true :: true :: true :: true :: true :: true :: true :: true :: true :: true :: true :: true :: true :: true :: true :: true :: true :: true :: true :: true :: true :: true :: true :: true :: true :: true :: true :: true :: true :: true :: true :: true :: true :: true :: true :: true :: true :: true :: true :: true :: true :: true :: true :: true :: true :: true :: true :: true :: true :: true :: true :: true :: true :: true :: true :: true :: true :: true :: true :: true :: true :: true :: true :: true :: true :: true :: true :: true :: true :: true :: true :: true :: true :: true :: true :: true :: true :: true :: true :: true :: true :: true :: true :: true :: true :: true :: true :: true :: true :: true :: true :: true :: true :: true :: true :: true :: true :: true :: []) (env' := uL23n108) rfl ⟨i + 1, ?_, rfl, ?_⟩
            · first | omega | (simp only []; omega)
            · exact ⟨by omega, rfl⟩
        · try simp only [decide_eq_true_eq, decide_eq_false_iff_not, Bool.not_eq_true', Bool.not_eq_false', bne_iff_ne, beq_iff_eq, Bool.and_eq_true, Bool.or_eq_true, Bool.not_eq_true, ge_iff_le, gt_iff_lt, Int.not_le, Int.not_lt, beq_eq_false_iff_ne, bne_eq_false_iff_eq, ne_eq, Decidable.not_not, wd_zero, wd_one, wd_inj] at hg10
          refine L_off (env' := uL23n108) rfl rfl ?_
          refine L_off (env' := uL23n108) rfl rfl ?_
          refine L_off (env' := uL23n108) rfl rfl ?_
          refine L_off (env' := uL23n108) rfl rfl ?_
          refine L_off (env' := uL23n108) rfl rfl ?_
          refine L_off (env' := uL23n108) rfl rfl ?_
          refine L_off (env' := uL23n108) rfl rfl ?_
          refine L_off (env' := uL23n108) rfl rfl ?_
          refine L_off (env' := uL23n108) rfl rfl ?_
          refine L_off (env' := uL23n108) rfl rfl ?_
          refine L_op (env' := uL23n108) rfl rfl (v_pickFC (VVal.bool false) rfl rfl rfl) rfl ?_
          refine L_nil ?_
          refine K_seq ?_
          refine B_false rfl rfl ?_
          refine B_skip ?_
          refine K_blk ?_
          refine K_seq ?_
          refine B_region ?_
          refine L_op (env' := uL23n108) rfl rfl (v_move (.inl rfl) rfl) rfl ?_
          refine L_op (env' := uL23n108) rfl rfl (v_addI rfl rfl rfl (by first | assumption | omega | (simp [*]; done) | (simp at *; omega))) rfl ?_
          refine L_op (env' := uL23n108) rfl rfl (v_move (.inr rfl) rfl) rfl ?_
          refine L_nil ?_
          have hbt : bst J a ((lkL J).take (i + 1)) = if ((lkL J).getD (i : Int).toNat (0, 0)).1 = a ∧ bst J a ((lkL J).take i) < 1 + dptI J ((lkL J).getD (i : Int).toNat (0, 0)).2 then 1 + dptI J ((lkL J).getD (i : Int).toNat (0, 0)).2 else bst J a ((lkL J).take i) := bst_take (by omega)
          first
            | (have hE : 1 + dptI J ((lkL J).getD (i : Int).toNat (0, 0)).2 = bst J a ((lkL J).take (i + 1)) := by rw [hbt, if_pos (by omega)]); rw [hE]
            | (have hE : bst J a ((lkL J).take i) = bst J a ((lkL J).take (i + 1)) := by rw [hbt, if_neg (by omega)]); rw [hE]
          refine K_loop (true :: true :: true :: false :: true :: false :: false :: false :: false :: true :: true :: true :: true :: true :: true :: true :: true :: true :: true :: true :: true :: true :: true :: true :: true :: true :: true :: true :: true :: true :: true :: true :: true :: true :: true :: true :: true :: true :: true :: true :: true :: true :: true :: true :: true :: true :: true :: true :: true :: true :: true :: true :: true :: true :: true :: true :: true :: true :: true :: true :: true :: true :: true :: true :: true :: true :: true :: true :: true :: true :: true :: true :: true :: true :: true :: true :: true :: true :: true :: true :: true :: true :: true :: true :: true :: true :: true :: true :: true :: true :: true :: true :: true :: true :: true :: true :: true :: true :: true :: true :: true :: true :: true :: true :: true :: true :: true :: true :: []) (env' := uL23n108) rfl ⟨i + 1, ?_, rfl, ?_⟩
          · first | omega | (simp only []; omega)
          · exact ⟨by omega, rfl⟩
      · try simp only [decide_eq_true_eq, decide_eq_false_iff_not, Bool.not_eq_true', Bool.not_eq_false', bne_iff_ne, beq_iff_eq, Bool.and_eq_true, Bool.or_eq_true, Bool.not_eq_true, ge_iff_le, gt_iff_lt, Int.not_le, Int.not_lt, beq_eq_false_iff_ne, bne_eq_false_iff_eq, ne_eq, Decidable.not_not, wd_zero, wd_one, wd_inj] at hc9
        refine B_exit ?_
        refine K_seqX ?_
        refine K_loopX ?_
        refine K_blkX ?_
        refine K_seq ?_
        refine B_seq ?_
        refine B_region ?_
        refine L_op (env' := uL23n108) rfl rfl (v_move (.inl rfl) rfl) rfl ?_
        refine L_op (env' := uL23n108) rfl rfl (v_move (.inl rfl) rfl) rfl ?_
        refine L_call rfl rfl rfl (by exact Depth_spec _ _ J (get_app rfl rfl) hR _) ?_
        rintro _ _ ⟨rfl, rfl⟩
        refine L_env (env' := uL23n108) rfl ?_
        refine L_op (env' := uL23n108) rfl rfl (v_move (.inl rfl) rfl) rfl ?_
        refine L_op (env' := uL23n108) rfl rfl (v_is false rfl (by rw [show i = (lkL J).length by omega, List.take_length, hR.best (by omega)]; simp)) rfl ?_
        refine L_nil ?_
        refine K_seq ?_
        refine B_false rfl rfl ?_
        refine B_skip ?_
        refine K_blk ?_
        refine K_seq ?_
        refine B_region ?_
        refine L_op (env' := uL23n108) rfl rfl (v_move (.inl rfl) rfl) rfl ?_
        refine L_op (env' := uL23n108) rfl rfl (v_addI rfl rfl rfl (by first | assumption | omega | (simp [*]; done) | (simp at *; omega))) rfl ?_
        refine L_op (env' := uL23n108) rfl rfl (v_move (.inr rfl) rfl) rfl ?_
        refine L_nil ?_
        refine K_loop (true :: true :: true :: false :: true :: false :: false :: true :: true :: true :: true :: true :: true :: true :: true :: true :: true :: true :: true :: true :: true :: true :: true :: true :: true :: true :: true :: true :: true :: true :: true :: true :: true :: true :: true :: true :: true :: true :: true :: true :: true :: true :: true :: true :: true :: true :: true :: true :: true :: true :: true :: true :: true :: true :: true :: true :: true :: true :: true :: true :: true :: true :: true :: true :: true :: true :: true :: true :: true :: true :: true :: true :: true :: true :: true :: true :: true :: true :: true :: true :: true :: true :: true :: true :: true :: true :: true :: true :: true :: true :: true :: true :: true :: true :: true :: true :: true :: true :: true :: true :: true :: true :: true :: true :: true :: true :: true :: true :: []) (env' := uL23n108) rfl ⟨a + 1, ?_, rfl, ?_⟩
        · first | omega | (simp only []; omega)
        · exact ⟨by omega, rfl⟩
    · try simp only [decide_eq_true_eq, decide_eq_false_iff_not, Bool.not_eq_true', Bool.not_eq_false', bne_iff_ne, beq_iff_eq, Bool.and_eq_true, Bool.or_eq_true, Bool.not_eq_true, ge_iff_le, gt_iff_lt, Int.not_le, Int.not_lt, beq_eq_false_iff_ne, bne_eq_false_iff_eq, ne_eq, Decidable.not_not, wd_zero, wd_one, wd_inj] at hc8
      refine B_exit ?_
      refine K_seqX ?_
      refine K_loopX ?_
      refine K_blkX ?_
      refine K_seq ?_
      refine B_seq ?_
      refine B_region ?_
      refine L_op (env' := uL23n108) rfl rfl (v_move (.inl rfl) rfl) rfl ?_
      refine L_call rfl rfl rfl (by exact Depth_spec _ _ J (get_app rfl rfl) hR _) ?_
      rintro _ _ ⟨rfl, rfl⟩
      refine L_env (env' := uL23n108) rfl ?_
      refine L_op (env' := uL23n108) rfl rfl (v_is true rfl (by simp [dptI])) rfl ?_
      refine L_op (env' := uL23n108) rfl rfl (v_move (.inl rfl) rfl) rfl ?_
      refine L_op (env' := uL23n108) rfl rfl (v_move (.inl rfl) rfl) rfl ?_
      refine L_call rfl rfl rfl (by exact Depth_spec _ _ J (get_app rfl rfl) hR _) ?_
      rintro _ _ ⟨rfl, rfl⟩
      refine L_env (env' := uL23n108) rfl ?_
      refine L_op (env' := uL23n108) rfl rfl (rfl) rfl ?_
      refine L_op (env' := uL23n108) rfl rfl (v_pickT rfl rfl rfl) rfl ?_
      refine L_op (env' := uL23n108) rfl rfl (v_move (.inr rfl) rfl) rfl ?_
      refine L_nil ?_
      refine K_seq ?_
      refine B_ret ?_
      refine E_app (.inr rfl) (vres_tmp rfl rfl) (by first | exact BaseOk.refl _ | exact BaseOk.set (BaseOk.refl _) _ rfl) (by first | rfl | simp [VVal.under, VVal.underL, *]) ?_
      exact ⟨by simp [dptI], rfl⟩

theorem RankDepth_law {x : SW} (ops : List OpT) (hl : ops.length * 40 ≤ 140737488351232) : F (psys x) 7 [fzO ops] [] fun v G => v = .bool true := by
  have hl : ops.length * 40 ≤ 140737488355328 := by omega
  exact (RankDepth_walk [] ops hl).mono fun v G h => h.1
end Go.Proofs.YteocbhgdmpdklaaDoor.VT
