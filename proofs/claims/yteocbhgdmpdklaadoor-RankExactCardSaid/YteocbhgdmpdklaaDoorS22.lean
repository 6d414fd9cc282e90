/- ranks changed: walks -/
import Derived.Test.YteocbhgdmpdklaaDoorS21
set_option autoImplicit false
set_option linter.unusedVariables false
set_option linter.unusedSimpArgs false
set_option maxHeartbeats 4000000
set_option maxRecDepth 100000
namespace Go.Proofs.YteocbhgdmpdklaaDoor.VT
open Go Go.V Go.RowKit

abbrev uS22n34 {a0 a1 a2 a3 a4 a5 a6 a7 a8 a9 a10 a11 a12 a13 a14 a15 a16 a17 a18 a19 a20 a21 a22 a23 a24 a25 a26 a27 a28 a29 a30 a31 a32 a33 : VVal} : VEnv := a0 :: a1 :: a2 :: a3 :: a4 :: a5 :: a6 :: a7 :: a8 :: a9 :: a10 :: a11 :: a12 :: a13 :: a14 :: a15 :: a16 :: a17 :: a18 :: a19 :: a20 :: a21 :: a22 :: a23 :: a24 :: a25 :: a26 :: a27 :: a28 :: a29 :: a30 :: a31 :: a32 :: a33 :: []
abbrev uS22n40 {a0 a1 a2 a3 a4 a5 a6 a7 a8 a9 a10 a11 a12 a13 a14 a15 a16 a17 a18 a19 a20 a21 a22 a23 a24 a25 a26 a27 a28 a29 a30 a31 a32 a33 a34 a35 a36 a37 a38 a39 : VVal} : VEnv := a0 :: a1 :: a2 :: a3 :: a4 :: a5 :: a6 :: a7 :: a8 :: a9 :: a10 :: a11 :: a12 :: a13 :: a14 :: a15 :: a16 :: a17 :: a18 :: a19 :: a20 :: a21 :: a22 :: a23 :: a24 :: a25 :: a26 :: a27 :: a28 :: a29 :: a30 :: a31 :: a32 :: a33 :: a34 :: a35 :: a36 :: a37 :: a38 :: a39 :: []

theorem set_rk {H L : VHeap} {p : Nat} {J : List (BitVec 64)} {s : Int} {w : BitVec 64} (hp : H[p]? = some (rkB J)) (hs : s.toNat < J.length) : (H ++ L).set p (.cells (splice (J.map iW) (0 + 0 + s.toNat * 1) [iW w]) true) = H.set p (rkB (J.set s.toNat w)) ++ L := by
  rw [set_out (lt_of_get hp), show 0 + 0 + s.toNat * 1 = s.toNat by omega]
  have : splice (J.map iW) s.toNat [iW w] = (J.set s.toNat w).map iW := by
    unfold splice
    rw [List.map_set, List.set_eq_take_append_cons_drop, if_pos (by rw [List.length_map]; exact hs)]; simp
  rw [this]
theorem rk_len {J : List (BitVec 64)} {s : Int} {v : VVal} (hs : s.toNat < J.length) : 0 + 0 + s.toNat * 1 + [v].length ≤ (J.map iW).length := by rw [List.length_map]; show 0 + 0 + s.toNat * 1 + 1 ≤ _; omega
theorem rk_all {J : List (BitVec 64)} (h : J.length = 64) : cellsAt (J.map iW) 0 64 = some (J.map iW) := by
  unfold cellsAt; rw [if_pos (by rw [List.length_map, h]; omega), List.drop_zero, List.take_of_length_le (by rw [List.length_map, h]; omega)]
theorem v_idxV {T : TypeId → Option VTy} {ρ : Operand → VVal} {H : VHeap} {op : Op} {t e : TypeId} {x i : Operand} {y z : VTy} {cs : List VVal} {len : Nat} {k : IntKind} {n : Int} {v : VVal} (ho : op = .index t x i) (hx : ρ x = .agg cs) (hi : ρ i = .int k n) (hy : T t = some y) (hd : y.desc = .array len e) (hz : T e = some z)
    (ha : isAggDesc z.desc = false) (hn : 0 ≤ n ∧ n < len) (hv : cs[n.toNat * z.size]? = some v) : vop T ρ H op = some (v, H) := by
  rw [ho]; simp only [vop, vindex, hx, hi, hy, hd, hz, hn, and_self, if_true, vpart, ha, Bool.false_eq_true, if_false, hv, Option.map_some]
/-- what Over tells, what it leaves -/
def ovE (J : List (BitVec 64)) (s j : Int) : Int := if ¬ ((0 ≤ s ∧ s < 64) ∧ 0 ≤ j ∧ j < 64) then 1 else if hasB J s j = true then 5 else if (blw J j).getLsbD s.toNat = true then 6 else 0
def ovJ (J : List (BitVec 64)) (s j : Int) : List (BitVec 64) := if ovE J s j = 0 then lay J s.toNat j.toNat else J
def ctE (J : List (BitVec 64)) (s j : Int) : Int := if ¬ ((0 ≤ s ∧ s < 64) ∧ 0 ≤ j ∧ j < 64) then 1 else if hasB J s j = true then 0 else 26
def ctJ (J : List (BitVec 64)) (s j : Int) : List (BitVec 64) := if ctE J s j = 0 then unl J s.toNat j.toNat else J
section
variable {J : List (BitVec 64)} {s j : Int}
theorem ov1 (h : ¬ ((0 ≤ s ∧ s < 64) ∧ 0 ≤ j ∧ j < 64)) : ovE J s j = 1 ∧ ovJ J s j = J := by
  have : ovE J s j = 1 := if_pos h
  exact ⟨this, by unfold ovJ; rw [this]; rfl⟩
theorem ov5 (h : (0 ≤ s ∧ s < 64) ∧ 0 ≤ j ∧ j < 64) (h2 : hasB J s j = true) : ovE J s j = 5 ∧ ovJ J s j = J := by
  have : ovE J s j = 5 := by unfold ovE; rw [if_neg (fun e => e h), if_pos h2]
  exact ⟨this, by unfold ovJ; rw [this]; rfl⟩
theorem ov6 (h : (0 ≤ s ∧ s < 64) ∧ 0 ≤ j ∧ j < 64) (h2 : hasB J s j = false) (h3 : (blw J j).getLsbD s.toNat = true) : ovE J s j = 6 ∧ ovJ J s j = J := by
  have : ovE J s j = 6 := by unfold ovE; rw [if_neg (fun e => e h), if_neg (by rw [h2]; decide), if_pos h3]
  exact ⟨this, by unfold ovJ; rw [this]; rfl⟩
theorem ov0 (h : (0 ≤ s ∧ s < 64) ∧ 0 ≤ j ∧ j < 64) (h2 : hasB J s j = false) (h3 : (blw J j).getLsbD s.toNat = false) : ovE J s j = 0 ∧ ovJ J s j = lay J s.toNat j.toNat := by
  have : ovE J s j = 0 := by unfold ovE; rw [if_neg (fun e => e h), if_neg (by rw [h2]; decide), if_neg (by rw [h3]; decide)]
  exact ⟨this, by unfold ovJ; rw [if_pos this]⟩
theorem ct1 (h : ¬ ((0 ≤ s ∧ s < 64) ∧ 0 ≤ j ∧ j < 64)) : ctE J s j = 1 ∧ ctJ J s j = J := by
  have : ctE J s j = 1 := if_pos h
  exact ⟨this, by unfold ctJ; rw [this]; rfl⟩
theorem ct26 (h : (0 ≤ s ∧ s < 64) ∧ 0 ≤ j ∧ j < 64) (h2 : hasB J s j = false) : ctE J s j = 26 ∧ ctJ J s j = J := by
  have : ctE J s j = 26 := by unfold ctE; rw [if_neg (fun e => e h), if_neg (by rw [h2]; decide)]
  exact ⟨this, by unfold ctJ; rw [this]; rfl⟩
theorem ct0 (h : (0 ≤ s ∧ s < 64) ∧ 0 ≤ j ∧ j < 64) (h2 : hasB J s j = true) : ctE J s j = 0 ∧ ctJ J s j = unl J s.toNat j.toNat := by
  have : ctE J s j = 0 := by unfold ctE; rw [if_neg (fun e => e h), if_pos h2]
  exact ⟨this, by unfold ctJ; rw [if_pos this]⟩
theorem _root_.Go.V.Rk.ovJ (r : Rk J) : Rk (ovJ J s j) := by
  by_cases h : (0 ≤ s ∧ s < 64) ∧ 0 ≤ j ∧ j < 64
  · cases h2 : hasB J s j with
    | true => rw [(ov5 h h2).2]; exact r
    | false =>
      cases h3 : (blw J j).getLsbD s.toNat with
      | true => rw [(ov6 h h2 h3).2]; exact r
      | false =>
        rw [(ov0 h h2 h3).2]
        unfold blw at h3; rw [if_pos h.2] at h3
        exact r.lay (by omega) (by omega) h3
  · rw [(ov1 h).2]; exact r
theorem _root_.Go.V.Rk.ctJ (r : Rk J) : Rk (ctJ J s j) := by
  by_cases h : (0 ≤ s ∧ s < 64) ∧ 0 ≤ j ∧ j < 64
  · cases h2 : hasB J s j with
    | false => rw [(ct26 h h2).2]; exact r
    | true =>
      rw [(ct0 h h2).2]
      have hs : s.toNat < J.length := by rw [r.len]; omega
      exact r.less (by unfold unl; rw [List.length_set]) fun a b e => by rw [lk_unl hs, Bool.and_eq_true] at e; exact e.1
  · rw [(ct1 h).2]; exact r
end
theorem blw_has {J : List (BitVec 64)} {s j : Int} (h : (0 ≤ s ∧ s < 64)) : (decide (0 ≤ s ∧ s < 64) && (blw J j).getLsbD s.toNat) = (blw J j).getLsbD s.toNat := by rw [decide_eq_true h, Bool.true_and]

theorem Over_spec {x : SW} (H : VHeap) (p : Nat) (J : List (BitVec 64)) (hp : H[p]? = some (rkB J)) (hJ : J.length = 64) (s j : Int) : F (psys x) 30 [.ptr (some (p, 0)), iI s, iI j] H fun v G => v = iI (ovE J s j) ∧ G = H.set p (rkB (ovJ J s j)) := by
  refine F_body Tryd.func30 rfl uS22n40 rfl ?_
  refine B_seq ?_
  refine B_region ?_
  refine L_op (env' := uS22n40) rfl rfl (v_const (VVal.int .i64 0) (.inr rfl) rfl) rfl ?_
  refine L_nil ?_
  refine K_seq ?_
  refine B_seq ?_
  refine B_block ?_
  refine B_seq ?_
  refine B_region ?_
  refine L_op (env' := uS22n40) rfl rfl (v_move (.inl rfl) rfl) rfl ?_
  refine L_call rfl rfl rfl (by exact rkIs_spec _ _) ?_
  rintro _ _ ⟨rfl, rfl⟩
  refine L_env (env' := uS22n40) rfl ?_
  refine L_op (env' := uS22n40) rfl rfl (rfl) rfl ?_
  refine L_op (env' := uS22n40) rfl rfl (v_move (.inl rfl) rfl) rfl ?_
  refine L_split 11 (env1 := uS22n40) (env2 := uS22n40) rfl rfl rfl (fun hg1 => ?_) (fun hg1 => ?_)
  · try simp only [decide_eq_true_eq, decide_eq_false_iff_not, Bool.not_eq_true', Bool.not_eq_false', bne_iff_ne, beq_iff_eq, Bool.and_eq_true, Bool.or_eq_true, Bool.not_eq_true, ge_iff_le, gt_iff_lt, Int.not_le, Int.not_lt, beq_eq_false_iff_ne, bne_eq_false_iff_eq, ne_eq, Decidable.not_not, wd_zero, wd_one, wd_inj] at hg1
    refine L_off (env' := uS22n40) rfl rfl ?_
    refine L_off (env' := uS22n40) rfl rfl ?_
    refine L_off (env' := uS22n40) rfl rfl ?_
    refine L_op (env' := uS22n40) rfl rfl (v_pickTC (VVal.bool true) rfl rfl rfl) rfl ?_
    refine L_op (env' := uS22n40) rfl rfl (v_move (.inr rfl) rfl) rfl ?_
    refine L_nil ?_
    refine K_seq ?_
    refine B_true rfl rfl ?_
    refine B_seq ?_
    refine B_region ?_
    refine L_op (env' := uS22n40) rfl rfl (v_const (VVal.int .i64 1) (.inr rfl) rfl) rfl ?_
    refine L_nil ?_
    refine K_seq ?_
    refine B_ret ?_
    refine K_blkR ?_
    refine K_seqR ?_
    refine E_app (.inr rfl) (vres_tmp rfl rfl) (by first | exact BaseOk.refl _ | exact BaseOk.set (BaseOk.refl _) _ rk_under) (by first | rfl | simp [VVal.under, VVal.underL, *]) ?_
    first
      | exact ⟨by rw [(ov1 (by omega)).1], by rw [(ov1 (by omega)).2]; exact set_keep hp⟩
      | exact ⟨by rw [(ov5 (by omega) (by assumption)).1], by rw [(ov5 (by omega) (by assumption)).2]; exact set_keep hp⟩
      | exact ⟨by rw [(ov6 (by omega) (by assumption) (by assumption)).1], by rw [(ov6 (by omega) (by assumption) (by assumption)).2]; exact set_keep hp⟩
      | exact ⟨by rw [(ov0 (by omega) (by assumption) (by assumption)).1], by rw [(ov0 (by omega) (by assumption) (by assumption)).2]; rfl⟩
  · try simp only [decide_eq_true_eq, decide_eq_false_iff_not, Bool.not_eq_true', Bool.not_eq_false', bne_iff_ne, beq_iff_eq, Bool.and_eq_true, Bool.or_eq_true, Bool.not_eq_true, ge_iff_le, gt_iff_lt, Int.not_le, Int.not_lt, beq_eq_false_iff_ne, bne_eq_false_iff_eq, ne_eq, Decidable.not_not, wd_zero, wd_one, wd_inj] at hg1
    refine L_op (env' := uS22n40) rfl rfl (v_move (.inl rfl) rfl) rfl ?_
    refine L_call rfl rfl rfl (by exact rkIs_spec _ _) ?_
    rintro _ _ ⟨rfl, rfl⟩
    refine L_env (env' := uS22n40) rfl ?_
    refine L_op (env' := uS22n40) rfl rfl (rfl) rfl ?_
    refine L_op (env' := uS22n40) rfl rfl (v_pickF rfl rfl rfl) rfl ?_
    refine L_op (env' := uS22n40) rfl rfl (v_move (.inr rfl) rfl) rfl ?_
    refine L_nil ?_
    refine K_seq ?_
    refine B_cond _ rfl (fun hc2 => ?_) (fun hc2 => ?_)
    · try simp only [decide_eq_true_eq, decide_eq_false_iff_not, Bool.not_eq_true', Bool.not_eq_false', bne_iff_ne, beq_iff_eq, Bool.and_eq_true, Bool.or_eq_true, Bool.not_eq_true, ge_iff_le, gt_iff_lt, Int.not_le, Int.not_lt, beq_eq_false_iff_ne, bne_eq_false_iff_eq, ne_eq, Decidable.not_not, wd_zero, wd_one, wd_inj] at hc2
      refine B_seq ?_
      refine B_region ?_
      refine L_op (env' := uS22n40) rfl rfl (v_const (VVal.int .i64 1) (.inr rfl) rfl) rfl ?_
      refine L_nil ?_
      refine K_seq ?_
      refine B_ret ?_
      refine K_blkR ?_
      refine K_seqR ?_
      refine E_app (.inr rfl) (vres_tmp rfl rfl) (by first | exact BaseOk.refl _ | exact BaseOk.set (BaseOk.refl _) _ rk_under) (by first | rfl | simp [VVal.under, VVal.underL, *]) ?_
      first
        | exact ⟨by rw [(ov1 (by omega)).1], by rw [(ov1 (by omega)).2]; exact set_keep hp⟩
        | exact ⟨by rw [(ov5 (by omega) (by assumption)).1], by rw [(ov5 (by omega) (by assumption)).2]; exact set_keep hp⟩
        | exact ⟨by rw [(ov6 (by omega) (by assumption) (by assumption)).1], by rw [(ov6 (by omega) (by assumption) (by assumption)).2]; exact set_keep hp⟩
        | exact ⟨by rw [(ov0 (by omega) (by assumption) (by assumption)).1], by rw [(ov0 (by omega) (by assumption) (by assumption)).2]; rfl⟩
    · try simp only [decide_eq_true_eq, decide_eq_false_iff_not, Bool.not_eq_true', Bool.not_eq_false', bne_iff_ne, beq_iff_eq, Bool.and_eq_true, Bool.or_eq_true, Bool.not_eq_true, ge_iff_le, gt_iff_lt, Int.not_le, Int.not_lt, beq_eq_false_iff_ne, bne_eq_false_iff_eq, ne_eq, Decidable.not_not, wd_zero, wd_one, wd_inj] at hc2
      refine B_seq ?_
      refine B_region ?_
      refine L_op (env' := uS22n40) rfl rfl (v_move (.inl rfl) rfl) rfl ?_
      refine L_op (env' := uS22n40) rfl rfl (v_move (.inl rfl) rfl) rfl ?_
      refine L_op (env' := uS22n40) rfl rfl (v_move (.inl rfl) rfl) rfl ?_
      refine L_call rfl rfl rfl (by exact rkHas_spec _ _ _ (by first | assumption | exact get_out (by assumption) | exact get_app rfl rfl) (by assumption) _ _) ?_
      rintro _ _ ⟨rfl, rfl⟩
      refine L_env (env' := uS22n40) rfl ?_
      refine L_op (env' := uS22n40) rfl rfl (v_move (.inr rfl) rfl) rfl ?_
      refine L_nil ?_
      refine K_seq ?_
      refine B_cond _ rfl (fun hc3 => ?_) (fun hc3 => ?_)
      · try simp only [decide_eq_true_eq, decide_eq_false_iff_not, Bool.not_eq_true', Bool.not_eq_false', bne_iff_ne, beq_iff_eq, Bool.and_eq_true, Bool.or_eq_true, Bool.not_eq_true, ge_iff_le, gt_iff_lt, Int.not_le, Int.not_lt, beq_eq_false_iff_ne, bne_eq_false_iff_eq, ne_eq, Decidable.not_not, wd_zero, wd_one, wd_inj] at hc3
        refine B_seq ?_
        refine B_region ?_
        refine L_op (env' := uS22n40) rfl rfl (v_const (VVal.int .i64 5) (.inr rfl) rfl) rfl ?_
        refine L_nil ?_
        refine K_seq ?_
        refine B_ret ?_
        refine K_blkR ?_
        refine K_seqR ?_
        refine E_app (.inr rfl) (vres_tmp rfl rfl) (by first | exact BaseOk.refl _ | exact BaseOk.set (BaseOk.refl _) _ rk_under) (by first | rfl | simp [VVal.under, VVal.underL, *]) ?_
        first
          | exact ⟨by rw [(ov1 (by omega)).1], by rw [(ov1 (by omega)).2]; exact set_keep hp⟩
          | exact ⟨by rw [(ov5 (by omega) (by assumption)).1], by rw [(ov5 (by omega) (by assumption)).2]; exact set_keep hp⟩
          | exact ⟨by rw [(ov6 (by omega) (by assumption) (by assumption)).1], by rw [(ov6 (by omega) (by assumption) (by assumption)).2]; exact set_keep hp⟩
          | exact ⟨by rw [(ov0 (by omega) (by assumption) (by assumption)).1], by rw [(ov0 (by omega) (by assumption) (by assumption)).2]; rfl⟩
      · try simp only [decide_eq_true_eq, decide_eq_false_iff_not, Bool.not_eq_true', Bool.not_eq_false', bne_iff_ne, beq_iff_eq, Bool.and_eq_true, Bool.or_eq_true, Bool.not_eq_true, ge_iff_le, gt_iff_lt, Int.not_le, Int.not_lt, beq_eq_false_iff_ne, bne_eq_false_iff_eq, ne_eq, Decidable.not_not, wd_zero, wd_one, wd_inj] at hc3
        refine B_seq ?_
        refine B_region ?_
        refine L_op (env' := uS22n40) rfl rfl (v_move (.inl rfl) rfl) rfl ?_
        refine L_op (env' := uS22n40) rfl rfl (v_move (.inl rfl) rfl) rfl ?_
        refine L_call rfl rfl rfl (by exact rkBelow_spec _ _ _ (by first | assumption | exact get_out (by assumption) | exact get_app rfl rfl) (by assumption) _) ?_
        rintro _ _ ⟨rfl, rfl⟩
        refine L_env (env' := uS22n40) rfl ?_
        refine L_call rfl rfl rfl (by exact places_spec _ _) ?_
        rintro _ _ ⟨rfl, rfl⟩
        refine L_env (env' := uS22n40) rfl ?_
        refine L_op (env' := uS22n40) rfl rfl (v_move (.inl rfl) rfl) rfl ?_
        refine L_call rfl rfl rfl (by exact Has_spec _ _ _) ?_
        rintro v _ ⟨hv, rfl⟩; obtain rfl : v = .bool ((blw J j).getLsbD s.toNat) := hv.trans (congrArg VVal.bool (blw_has hg1))
        refine L_env (env' := uS22n40) rfl ?_
        refine L_op (env' := uS22n40) rfl rfl (v_move (.inr rfl) rfl) rfl ?_
        refine L_nil ?_
        refine K_seq ?_
        refine B_cond _ rfl (fun hc4 => ?_) (fun hc4 => ?_)
        · try simp only [decide_eq_true_eq, decide_eq_false_iff_not, Bool.not_eq_true', Bool.not_eq_false', bne_iff_ne, beq_iff_eq, Bool.and_eq_true, Bool.or_eq_true, Bool.not_eq_true, ge_iff_le, gt_iff_lt, Int.not_le, Int.not_lt, beq_eq_false_iff_ne, bne_eq_false_iff_eq, ne_eq, Decidable.not_not, wd_zero, wd_one, wd_inj] at hc4
          refine B_seq ?_
          refine B_region ?_
          refine L_op (env' := uS22n40) rfl rfl (v_const (VVal.int .i64 6) (.inr rfl) rfl) rfl ?_
          refine L_nil ?_
          refine K_seq ?_
          refine B_ret ?_
          refine K_blkR ?_
          refine K_seqR ?_
          refine E_app (.inr rfl) (vres_tmp rfl rfl) (by first | exact BaseOk.refl _ | exact BaseOk.set (BaseOk.refl _) _ rk_under) (by first | rfl | simp [VVal.under, VVal.underL, *]) ?_
          first
            | exact ⟨by rw [(ov1 (by omega)).1], by rw [(ov1 (by omega)).2]; exact set_keep hp⟩
            | exact ⟨by rw [(ov5 (by omega) (by assumption)).1], by rw [(ov5 (by omega) (by assumption)).2]; exact set_keep hp⟩
            | exact ⟨by rw [(ov6 (by omega) (by assumption) (by assumption)).1], by rw [(ov6 (by omega) (by assumption) (by assumption)).2]; exact set_keep hp⟩
            | exact ⟨by rw [(ov0 (by omega) (by assumption) (by assumption)).1], by rw [(ov0 (by omega) (by assumption) (by assumption)).2]; rfl⟩
        · try simp only [decide_eq_true_eq, decide_eq_false_iff_not, Bool.not_eq_true', Bool.not_eq_false', bne_iff_ne, beq_iff_eq, Bool.and_eq_true, Bool.or_eq_true, Bool.not_eq_true, ge_iff_le, gt_iff_lt, Int.not_le, Int.not_lt, beq_eq_false_iff_ne, bne_eq_false_iff_eq, ne_eq, Decidable.not_not, wd_zero, wd_one, wd_inj] at hc4
          refine B_skip ?_
          refine K_blk ?_
          refine K_seq ?_
          refine B_seq ?_
          refine B_draw [0, 1, 2, 3, 4, 5, 6, 7, 8, 9, 10, 11, 12] #[0, 0, 1, 5, 15, 31, 0, 64, 255, 1, 513, 2047, 4095] (by kernel_rfl) (by kernel_rfl) (by kernel_rfl) ?_
          refine O_op (env' := uS22n40) (c := .calm) rfl rfl rfl (v_move (.inl rfl) rfl) rfl rfl rfl ?_
          refine O_op (env' := uS22n40) (c := .calm) rfl rfl rfl (v_move (.inl rfl) rfl) rfl rfl rfl ?_
          refine O_op (env' := uS22n40) (c := .calm) rfl rfl rfl (rfl) rfl rfl rfl ?_
          refine O_op (env' := uS22n40) (c := .calm) rfl rfl rfl (rfl) rfl rfl rfl ?_
          refine O_op (env' := uS22n40) (c := .calm) rfl rfl rfl (by first | exact v_idxFA rfl rfl rfl rfl rfl rfl (by first | assumption | omega | (simp [*]; done) | (simp at *; omega)) | exact v_idxA rfl rfl rfl rfl rfl rfl (by first | assumption | omega | (simp [*]; done) | (simp at *; omega))) rfl rfl rfl ?_
          refine O_op (env' := uS22n40) (c := .look) rfl rfl rfl (by first | exact v_loadF rfl rfl rfl rfl (by first | rfl | assumption | exact fget (α := BitVec 64) 0 (by omega) | exact fget (α := Int) 0 (by omega) | exact fget0 (α := BitVec 64) 0 (by omega) | exact fget0 (α := Int) 0 (by omega) | exact fget (α := Bool) false (by omega) | exact fget0 (α := Bool) false (by omega) | (simp [*]; done)) | exact v_load rfl rfl rfl rfl (by first | exact get_app rfl rfl | exact get_out (by assumption) | assumption | (simp [*]; done)) (by first | rfl | assumption | exact fget (α := BitVec 64) 0 (by omega) | exact fget (α := Int) 0 (by omega) | exact fget0 (α := BitVec 64) 0 (by omega) | exact fget0 (α := Int) 0 (by omega) | exact fget (α := Bool) false (by omega) | exact fget0 (α := Bool) false (by omega) | (simp [*]; done))) rfl rfl rfl ?_
          refine O_op (env' := uS22n40) (c := .calm) rfl rfl rfl (v_move (.inl rfl) rfl) rfl rfl rfl ?_
          refine O_op (env' := uS22n40) (c := .calm) rfl rfl rfl (v_shl1 rfl rfl rfl (by first | assumption | omega | (simp [*]; done) | (simp at *; omega))) rfl rfl rfl ?_
          refine O_op (env' := uS22n40) (c := .calm) rfl rfl rfl (v_orW rfl rfl rfl) rfl rfl rfl ?_
          refine O_op (env' := uS22n40) (c := .calm) rfl rfl rfl (rfl) rfl rfl rfl ?_
          refine O_op (env' := uS22n40) (c := .calm) rfl rfl rfl (rfl) rfl rfl rfl ?_
          refine O_op (env' := uS22n40) (c := .calm) rfl rfl rfl (by first | exact v_idxFA rfl rfl rfl rfl rfl rfl (by first | assumption | omega | (simp [*]; done) | (simp at *; omega)) | exact v_idxA rfl rfl rfl rfl rfl rfl (by first | assumption | omega | (simp [*]; done) | (simp at *; omega))) rfl rfl rfl ?_
          refine O_op (env' := uS22n40) (c := .turn) rfl rfl rfl (v_storeT rfl rfl rfl rfl rfl rfl rfl (by first | exact get_app rfl rfl | exact get_out (by assumption) | assumption | (simp [*]; done)) (by exact rk_len (by omega)) (by exact set_rk hp (by omega))) rfl rfl rfl ?_
          refine O_nil [] (by kernel_rfl) (trivial) ?_
          refine K_seq ?_
          refine B_seq ?_
          refine B_region ?_
          refine L_op (env' := uS22n40) rfl rfl (v_const (VVal.int .i64 0) (.inr rfl) rfl) rfl ?_
          refine L_nil ?_
          refine K_seq ?_
          refine B_ret ?_
          refine E_app (.inr rfl) (vres_tmp rfl rfl) (by first | exact BaseOk.refl _ | exact BaseOk.set (BaseOk.refl _) _ rk_under) (by first | rfl | simp [VVal.under, VVal.underL, *]) ?_
          first
            | exact ⟨by rw [(ov1 (by omega)).1], by rw [(ov1 (by omega)).2]; exact set_keep hp⟩
            | exact ⟨by rw [(ov5 (by omega) (by assumption)).1], by rw [(ov5 (by omega) (by assumption)).2]; exact set_keep hp⟩
            | exact ⟨by rw [(ov6 (by omega) (by assumption) (by assumption)).1], by rw [(ov6 (by omega) (by assumption) (by assumption)).2]; exact set_keep hp⟩
            | exact ⟨by rw [(ov0 (by omega) (by assumption) (by assumption)).1], by rw [(ov0 (by omega) (by assumption) (by assumption)).2]; rfl⟩

theorem Cut_spec {x : SW} (H : VHeap) (p : Nat) (J : List (BitVec 64)) (hp : H[p]? = some (rkB J)) (hJ : J.length = 64) (s j : Int) : F (psys x) 29 [.ptr (some (p, 0)), iI s, iI j] H fun v G => v = iI (ctE J s j) ∧ G = H.set p (rkB (ctJ J s j)) := by
  refine F_body Tryd.func29 rfl uS22n34 rfl ?_
  refine B_seq ?_
  refine B_region ?_
  refine L_op (env' := uS22n34) rfl rfl (v_const (VVal.int .i64 0) (.inr rfl) rfl) rfl ?_
  refine L_nil ?_
  refine K_seq ?_
  refine B_seq ?_
  refine B_block ?_
  refine B_seq ?_
  refine B_region ?_
  refine L_op (env' := uS22n34) rfl rfl (v_move (.inl rfl) rfl) rfl ?_
  refine L_call rfl rfl rfl (by exact rkIs_spec _ _) ?_
  rintro _ _ ⟨rfl, rfl⟩
  refine L_env (env' := uS22n34) rfl ?_
  refine L_op (env' := uS22n34) rfl rfl (rfl) rfl ?_
  refine L_op (env' := uS22n34) rfl rfl (v_move (.inl rfl) rfl) rfl ?_
  refine L_split 11 (env1 := uS22n34) (env2 := uS22n34) rfl rfl rfl (fun hg1 => ?_) (fun hg1 => ?_)
  · try simp only [decide_eq_true_eq, decide_eq_false_iff_not, Bool.not_eq_true', Bool.not_eq_false', bne_iff_ne, beq_iff_eq, Bool.and_eq_true, Bool.or_eq_true, Bool.not_eq_true, ge_iff_le, gt_iff_lt, Int.not_le, Int.not_lt, beq_eq_false_iff_ne, bne_eq_false_iff_eq, ne_eq, Decidable.not_not, wd_zero, wd_one, wd_inj] at hg1
    refine L_off (env' := uS22n34) rfl rfl ?_
    refine L_off (env' := uS22n34) rfl rfl ?_
    refine L_off (env' := uS22n34) rfl rfl ?_
    refine L_op (env' := uS22n34) rfl rfl (v_pickTC (VVal.bool true) rfl rfl rfl) rfl ?_
    refine L_op (env' := uS22n34) rfl rfl (v_move (.inr rfl) rfl) rfl ?_
    refine L_nil ?_
    refine K_seq ?_
    refine B_true rfl rfl ?_
    refine B_seq ?_
    refine B_region ?_
    refine L_op (env' := uS22n34) rfl rfl (v_const (VVal.int .i64 1) (.inr rfl) rfl) rfl ?_
    refine L_nil ?_
    refine K_seq ?_
    refine B_ret ?_
    refine K_blkR ?_
    refine K_seqR ?_
    refine E_app (.inr rfl) (vres_tmp rfl rfl) (by first | exact BaseOk.refl _ | exact BaseOk.set (BaseOk.refl _) _ rk_under) (by first | rfl | simp [VVal.under, VVal.underL, *]) ?_
    first
      | exact ⟨by rw [(ct1 (by omega)).1], by rw [(ct1 (by omega)).2]; exact set_keep hp⟩
      | exact ⟨by rw [(ct26 (by omega) (by assumption)).1], by rw [(ct26 (by omega) (by assumption)).2]; exact set_keep hp⟩
      | exact ⟨by rw [(ct0 (by omega) (by assumption)).1], by rw [(ct0 (by omega) (by assumption)).2]; rfl⟩
  · try simp only [decide_eq_true_eq, decide_eq_false_iff_not, Bool.not_eq_true', Bool.not_eq_false', bne_iff_ne, beq_iff_eq, Bool.and_eq_true, Bool.or_eq_true, Bool.not_eq_true, ge_iff_le, gt_iff_lt, Int.not_le, Int.not_lt, beq_eq_false_iff_ne, bne_eq_false_iff_eq, ne_eq, Decidable.not_not, wd_zero, wd_one, wd_inj] at hg1
    refine L_op (env' := uS22n34) rfl rfl (v_move (.inl rfl) rfl) rfl ?_
    refine L_call rfl rfl rfl (by exact rkIs_spec _ _) ?_
    rintro _ _ ⟨rfl, rfl⟩
    refine L_env (env' := uS22n34) rfl ?_
    refine L_op (env' := uS22n34) rfl rfl (rfl) rfl ?_
    refine L_op (env' := uS22n34) rfl rfl (v_pickF rfl rfl rfl) rfl ?_
    refine L_op (env' := uS22n34) rfl rfl (v_move (.inr rfl) rfl) rfl ?_
    refine L_nil ?_
    refine K_seq ?_
    refine B_cond _ rfl (fun hc2 => ?_) (fun hc2 => ?_)
    · try simp only [decide_eq_true_eq, decide_eq_false_iff_not, Bool.not_eq_true', Bool.not_eq_false', bne_iff_ne, beq_iff_eq, Bool.and_eq_true, Bool.or_eq_true, Bool.not_eq_true, ge_iff_le, gt_iff_lt, Int.not_le, Int.not_lt, beq_eq_false_iff_ne, bne_eq_false_iff_eq, ne_eq, Decidable.not_not, wd_zero, wd_one, wd_inj] at hc2
      refine B_seq ?_
      refine B_region ?_
      refine L_op (env' := uS22n34) rfl rfl (v_const (VVal.int .i64 1) (.inr rfl) rfl) rfl ?_
      refine L_nil ?_
      refine K_seq ?_
      refine B_ret ?_
      refine K_blkR ?_
      refine K_seqR ?_
      refine E_app (.inr rfl) (vres_tmp rfl rfl) (by first | exact BaseOk.refl _ | exact BaseOk.set (BaseOk.refl _) _ rk_under) (by first | rfl | simp [VVal.under, VVal.underL, *]) ?_
      first
        | exact ⟨by rw [(ct1 (by omega)).1], by rw [(ct1 (by omega)).2]; exact set_keep hp⟩
        | exact ⟨by rw [(ct26 (by omega) (by assumption)).1], by rw [(ct26 (by omega) (by assumption)).2]; exact set_keep hp⟩
        | exact ⟨by rw [(ct0 (by omega) (by assumption)).1], by rw [(ct0 (by omega) (by assumption)).2]; rfl⟩
    · try simp only [decide_eq_true_eq, decide_eq_false_iff_not, Bool.not_eq_true', Bool.not_eq_false', bne_iff_ne, beq_iff_eq, Bool.and_eq_true, Bool.or_eq_true, Bool.not_eq_true, ge_iff_le, gt_iff_lt, Int.not_le, Int.not_lt, beq_eq_false_iff_ne, bne_eq_false_iff_eq, ne_eq, Decidable.not_not, wd_zero, wd_one, wd_inj] at hc2
      refine B_seq ?_
      refine B_region ?_
      refine L_op (env' := uS22n34) rfl rfl (v_move (.inl rfl) rfl) rfl ?_
      refine L_op (env' := uS22n34) rfl rfl (v_move (.inl rfl) rfl) rfl ?_
      refine L_op (env' := uS22n34) rfl rfl (v_move (.inl rfl) rfl) rfl ?_
      refine L_call rfl rfl rfl (by exact rkHas_spec _ _ _ (by first | assumption | exact get_out (by assumption) | exact get_app rfl rfl) (by assumption) _ _) ?_
      rintro _ _ ⟨rfl, rfl⟩
      refine L_env (env' := uS22n34) rfl ?_
      refine L_op (env' := uS22n34) rfl rfl (rfl) rfl ?_
      refine L_op (env' := uS22n34) rfl rfl (v_move (.inr rfl) rfl) rfl ?_
      refine L_nil ?_
      refine K_seq ?_
      refine B_cond _ rfl (fun hc3 => ?_) (fun hc3 => ?_)
      · try simp only [decide_eq_true_eq, decide_eq_false_iff_not, Bool.not_eq_true', Bool.not_eq_false', bne_iff_ne, beq_iff_eq, Bool.and_eq_true, Bool.or_eq_true, Bool.not_eq_true, ge_iff_le, gt_iff_lt, Int.not_le, Int.not_lt, beq_eq_false_iff_ne, bne_eq_false_iff_eq, ne_eq, Decidable.not_not, wd_zero, wd_one, wd_inj] at hc3
        refine B_seq ?_
        refine B_region ?_
        refine L_op (env' := uS22n34) rfl rfl (v_const (VVal.int .i64 26) (.inr rfl) rfl) rfl ?_
        refine L_nil ?_
        refine K_seq ?_
        refine B_ret ?_
        refine K_blkR ?_
        refine K_seqR ?_
        refine E_app (.inr rfl) (vres_tmp rfl rfl) (by first | exact BaseOk.refl _ | exact BaseOk.set (BaseOk.refl _) _ rk_under) (by first | rfl | simp [VVal.under, VVal.underL, *]) ?_
        first
          | exact ⟨by rw [(ct1 (by omega)).1], by rw [(ct1 (by omega)).2]; exact set_keep hp⟩
          | exact ⟨by rw [(ct26 (by omega) (by assumption)).1], by rw [(ct26 (by omega) (by assumption)).2]; exact set_keep hp⟩
          | exact ⟨by rw [(ct0 (by omega) (by assumption)).1], by rw [(ct0 (by omega) (by assumption)).2]; rfl⟩
      · try simp only [decide_eq_true_eq, decide_eq_false_iff_not, Bool.not_eq_true', Bool.not_eq_false', bne_iff_ne, beq_iff_eq, Bool.and_eq_true, Bool.or_eq_true, Bool.not_eq_true, ge_iff_le, gt_iff_lt, Int.not_le, Int.not_lt, beq_eq_false_iff_ne, bne_eq_false_iff_eq, ne_eq, Decidable.not_not, wd_zero, wd_one, wd_inj] at hc3
        refine B_skip ?_
        refine K_blk ?_
        refine K_seq ?_
        refine B_seq ?_
        refine B_draw [0, 1, 2, 3, 4, 5, 6, 7, 8, 9, 10, 11, 12] #[0, 0, 1, 5, 15, 31, 0, 64, 255, 1, 513, 2047, 4095] (by kernel_rfl) (by kernel_rfl) (by kernel_rfl) ?_
        refine O_op (env' := uS22n34) (c := .calm) rfl rfl rfl (v_move (.inl rfl) rfl) rfl rfl rfl ?_
        refine O_op (env' := uS22n34) (c := .calm) rfl rfl rfl (v_move (.inl rfl) rfl) rfl rfl rfl ?_
        refine O_op (env' := uS22n34) (c := .calm) rfl rfl rfl (rfl) rfl rfl rfl ?_
        refine O_op (env' := uS22n34) (c := .calm) rfl rfl rfl (rfl) rfl rfl rfl ?_
        refine O_op (env' := uS22n34) (c := .calm) rfl rfl rfl (by first | exact v_idxFA rfl rfl rfl rfl rfl rfl (by first | assumption | omega | (simp [*]; done) | (simp at *; omega)) | exact v_idxA rfl rfl rfl rfl rfl rfl (by first | assumption | omega | (simp [*]; done) | (simp at *; omega))) rfl rfl rfl ?_
        refine O_op (env' := uS22n34) (c := .look) rfl rfl rfl (by first | exact v_loadF rfl rfl rfl rfl (by first | rfl | assumption | exact fget (α := BitVec 64) 0 (by omega) | exact fget (α := Int) 0 (by omega) | exact fget0 (α := BitVec 64) 0 (by omega) | exact fget0 (α := Int) 0 (by omega) | exact fget (α := Bool) false (by omega) | exact fget0 (α := Bool) false (by omega) | (simp [*]; done)) | exact v_load rfl rfl rfl rfl (by first | exact get_app rfl rfl | exact get_out (by assumption) | assumption | (simp [*]; done)) (by first | rfl | assumption | exact fget (α := BitVec 64) 0 (by omega) | exact fget (α := Int) 0 (by omega) | exact fget0 (α := BitVec 64) 0 (by omega) | exact fget0 (α := Int) 0 (by omega) | exact fget (α := Bool) false (by omega) | exact fget0 (α := Bool) false (by omega) | (simp [*]; done))) rfl rfl rfl ?_
        refine O_op (env' := uS22n34) (c := .calm) rfl rfl rfl (v_move (.inl rfl) rfl) rfl rfl rfl ?_
        refine O_op (env' := uS22n34) (c := .calm) rfl rfl rfl (v_shl1 rfl rfl rfl (by first | assumption | omega | (simp [*]; done) | (simp at *; omega))) rfl rfl rfl ?_
        refine O_op (env' := uS22n34) (c := .calm) rfl rfl rfl (v_andNotW rfl rfl rfl) rfl rfl rfl ?_
        refine O_op (env' := uS22n34) (c := .calm) rfl rfl rfl (rfl) rfl rfl rfl ?_
        refine O_op (env' := uS22n34) (c := .calm) rfl rfl rfl (rfl) rfl rfl rfl ?_
        refine O_op (env' := uS22n34) (c := .calm) rfl rfl rfl (by first | exact v_idxFA rfl rfl rfl rfl rfl rfl (by first | assumption | omega | (simp [*]; done) | (simp at *; omega)) | exact v_idxA rfl rfl rfl rfl rfl rfl (by first | assumption | omega | (simp [*]; done) | (simp at *; omega))) rfl rfl rfl ?_
        refine O_op (env' := uS22n34) (c := .turn) rfl rfl rfl (v_storeT rfl rfl rfl rfl rfl rfl rfl (by first | exact get_app rfl rfl | exact get_out (by assumption) | assumption | (simp [*]; done)) (by exact rk_len (by omega)) (by exact set_rk hp (by omega))) rfl rfl rfl ?_
        refine O_nil [] (by kernel_rfl) (trivial) ?_
        refine K_seq ?_
        refine B_seq ?_
        refine B_region ?_
        refine L_op (env' := uS22n34) rfl rfl (v_const (VVal.int .i64 0) (.inr rfl) rfl) rfl ?_
        refine L_nil ?_
        refine K_seq ?_
        refine B_ret ?_
        refine E_app (.inr rfl) (vres_tmp rfl rfl) (by first | exact BaseOk.refl _ | exact BaseOk.set (BaseOk.refl _) _ rk_under) (by first | rfl | simp [VVal.under, VVal.underL, *]) ?_
        first
          | exact ⟨by rw [(ct1 (by omega)).1], by rw [(ct1 (by omega)).2]; exact set_keep hp⟩
          | exact ⟨by rw [(ct26 (by omega) (by assumption)).1], by rw [(ct26 (by omega) (by assumption)).2]; exact set_keep hp⟩
          | exact ⟨by rw [(ct0 (by omega) (by assumption)).1], by rw [(ct0 (by omega) (by assumption)).2]; rfl⟩
end Go.Proofs.YteocbhgdmpdklaaDoor.VT
