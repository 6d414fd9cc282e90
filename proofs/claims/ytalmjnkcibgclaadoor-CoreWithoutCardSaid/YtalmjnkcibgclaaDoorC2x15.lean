/- Proved: Rows.CoreWithoutCardSaid, the statement CoreWithout with its card, of the given program at the commit; no conditions beyond those in the statement. -/
import Derived.Test.YtalmjnkcibgclaaDoorC2x14
set_option autoImplicit false
set_option linter.unusedVariables false
set_option linter.unusedSimpArgs false
set_option maxHeartbeats 4000000
set_option maxRecDepth 100000
namespace Go.Proofs.YtalmjnkcibgclaaDoor.VT
open Go Go.V Go.RowKit
abbrev u28 {a0 a1 a2 a3 a4 a5 a6 a7 a8 a9 a10 a11 a12 a13 a14 a15 a16 a17 a18 a19 a20 a21 a22 a23 a24 a25 a26 a27 : VVal} : VEnv := a0 :: a1 :: a2 :: a3 :: a4 :: a5 :: a6 :: a7 :: a8 :: a9 :: a10 :: a11 :: a12 :: a13 :: a14 :: a15 :: a16 :: a17 :: a18 :: a19 :: a20 :: a21 :: a22 :: a23 :: a24 :: a25 :: a26 :: a27 :: []
abbrev u31 {a0 a1 a2 a3 a4 a5 a6 a7 a8 a9 a10 a11 a12 a13 a14 a15 a16 a17 a18 a19 a20 a21 a22 a23 a24 a25 a26 a27 a28 a29 a30 : VVal} : VEnv := a0 :: a1 :: a2 :: a3 :: a4 :: a5 :: a6 :: a7 :: a8 :: a9 :: a10 :: a11 :: a12 :: a13 :: a14 :: a15 :: a16 :: a17 :: a18 :: a19 :: a20 :: a21 :: a22 :: a23 :: a24 :: a25 :: a26 :: a27 :: a28 :: a29 :: a30 :: []
abbrev u33 {a0 a1 a2 a3 a4 a5 a6 a7 a8 a9 a10 a11 a12 a13 a14 a15 a16 a17 a18 a19 a20 a21 a22 a23 a24 a25 a26 a27 a28 a29 a30 a31 a32 : VVal} : VEnv := a0 :: a1 :: a2 :: a3 :: a4 :: a5 :: a6 :: a7 :: a8 :: a9 :: a10 :: a11 :: a12 :: a13 :: a14 :: a15 :: a16 :: a17 :: a18 :: a19 :: a20 :: a21 :: a22 :: a23 :: a24 :: a25 :: a26 :: a27 :: a28 :: a29 :: a30 :: a31 :: a32 :: []
theorem W78 {S : V.Sys} {H : VHeap} {fn : Func} {ex : Exit} {env : VEnv} {B L : VHeap} {v : VVal} {R : VVal → VHeap → Prop} (hx : ex = .normal ∨ ex = .ret) (hv : vresults S.C.T env (B ++ L) fn.results = some v) (h : R v B) (hB : BaseOk H B := by first | exact BaseOk.refl _ | exact BaseOk.set (BaseOk.refl _) _ rfl) (hu : v.under H.length = true := by first | rfl | exact (show ((fzN (whA p).2).under H.length && ((fzN (whC p).2).under H.length && (true && true))) = true by rw [show (fzN (whA p).2).under H.length = true from mapN_under _ _, show (fzN (whC p).2).under H.length = true from mapN_under _ _]; rfl)) : fnK S fn H R ex env (B ++ L) := E_app hx hv hB hu h
theorem W79 {P : Prop} (h : P := by first | exact ⟨by rw [whV_y hwb]; rfl, rfl⟩ | exact ⟨by rw [whV_n (whB_no1 (by assumption))]; rfl, rfl⟩ | exact ⟨by rw [whV_n (whB_no2 (by simpa using hc2))]; rfl, rfl⟩) : P := h
theorem W7b {T : TypeId → Option VTy} {H : VHeap} {op : Op} {ρ : Operand → VVal} {t : TypeId} {a : Operand} {y : VTy} {p v : VVal} (ho : op = .load t a) (ha : ρ a = p) (hy : T t = some y) (hd : isAggDesc y.desc = false) (h : LdOk H p v := by first | exact .inl ⟨_, _, rfl, by first | rfl | assumption | exact fgetN (α := BitVec 64) 0 (by omega) | exact fgetN (α := Int) 0 (by omega) | exact rul_at (by omega) | exact rul_f2 (by omega) | exact rul_f0 (by omega) | exact rul_f1 (by omega)⟩ | exact .inr ⟨_, _, _, _, rfl, by exact getB rfl rfl, by first | rfl | assumption | exact fgetN (α := BitVec 64) 0 (by omega) | exact fgetN (α := Int) 0 (by omega) | exact rul_at (by omega) | exact rul_f2 (by omega) | exact rul_f0 (by omega) | exact rul_f1 (by omega)⟩) : vop T ρ H op = some (v, H) := v_ld ho ha hy hd h
theorem W7f {P : Prop} (h : P := by first | exact (decide_eq_false (fun e => by subst e; first | exact absurd rfl (by assumption) | simp at *)).symm | exact decide_eq_decide.2 (by obtain ⟨a1, a2, a3, a4, ⟨⟩⟩ := p; obtain ⟨b1, b2, b3, b4, ⟨⟩⟩ := q; simp_all [Pb.users, Pb.who, Pb.fixed, Pb.rules])) : P := h
theorem whB_yes {p : Pb} (h1 : pck p = 0) (h2 : (leA p).isSome = false) : whB p = true := by unfold whB; rw [decide_eq_true h1, h2]; rfl
theorem whB_no1 {p : Pb} (h1 : ¬ pck p = 0) : whB p = false := by unfold whB; rw [decide_eq_false h1]; rfl
theorem whB_no2 {p : Pb} (h2 : (leA p).isSome = true) : whB p = false := by unfold whB; rw [h2, Bool.not_true, Bool.and_false]
theorem whV_y {p : Pb} (h : whB p = true) : whV p = .tuple [fzN (whA p).2, fzN (whC p).2, .bool true] := if_pos h
theorem whV_n {p : Pb} (h : whB p = false) : whV p = .tuple [fzN [], fzN [], .bool false] := if_neg (by rw [h]; decide)
theorem whA_len {p : Pb} : (whA p).1.length + (whA p).2.length = p.rules.length := gr_len _
theorem whC_len {p : Pb} : (whC p).1.length + (whC p).2.length = p.who.length := gr_len _
theorem Why_spec {x : SW} (H : VHeap) (p : Pb) (hp : PbL p) : F (psys x) 28 [.agg (pbB p)] H fun v G => v = whV p ∧ G = H := by
 refine F_body Tryd.func28 rfl u33 rfl ?_
 refine B_seq (B_region ?_)
 refine Lo u33 (v_boxT rfl rfl rfl) ?_
 refine Lo u33 (v_const (VVal.slice none 0 0 true 0) (.inr rfl) rfl) ?_
 refine Lo u33 (v_const (VVal.slice none 0 0 true 0) (.inr rfl) rfl) ?_
 refine Lo u33 (v_const (VVal.bool false) (.inr rfl) rfl) ?_
 refine L_nil (K_seq (B_seq ?_))
 refine B_gh (Gh.freezePtrL (cs := pbB p) 1 0 rfl rfl rfl) ?_
 refine B_region ?_
 refine L_call rfl rfl rfl (by exact sNew_spec _) ?_
 rintro _ _ ⟨rfl, rfl⟩; rw [List.append_assoc, List.length_append]
 refine Le u33 ?_
 refine Lo u33 (v_alloc rfl rfl) ?_
 refine Lo u33 (W13 rfl rfl rfl rfl rfl rfl rfl) ?_
 refine L_nil (K_seq (B_seq (B_seq (B_region ?_))))
 refine Lo u33 (W2h rfl rfl rfl rfl rfl) ?_
 refine L_call rfl rfl rfl (by exact sCheck_spec _ p hp) ?_
 rintro _ _ ⟨rfl, rfl⟩
 refine Le u33 ?_
 refine Lo u33 (rfl) ?_
 refine Lo u33 (v_move (.inl rfl) rfl) ?_
 refine L_split 13 (env1 := u33) (env2 := u33) rfl rfl rfl (fun hg1 => ?_) (fun hg1 => ?_)
 ·try simp only [qB, qN] at hg1
  refine Lf u33 ?_
  refine Lf u33 ?_
  refine L_heap (H' := H ++ [.dead, gaB 0, .cells [.ptr (some (H.length + 1, 0))] true]) (by simp; rfl) ?_
  refine Lf u33 ?_
  refine Lo u33 (v_pickTC (VVal.bool true) rfl rfl rfl) ?_
  refine L_nil (K_seq ?_)
  refine B_true rfl rfl ?_
  refine B_seq (B_region ?_)
  refine Lo u33 (v_const (VVal.slice none 0 0 true 0) (.inr rfl) rfl) ?_
  refine Lo u33 (v_const (VVal.slice none 0 0 true 0) (.inr rfl) rfl) ?_
  refine Lo u33 (v_const (VVal.bool false) (.inr rfl) rfl) ?_
  refine L_nil (K_seq ?_)
  refine B_gh (Gh.freezeNil 2 (es' := 1) rfl rfl) ?_
  refine B_gh (Gh.freezeNil 3 (es' := 1) rfl rfl) ?_
  refine B_ret (K_seqR ?_)
  refine W78 (.inr rfl) (vres_tmp3 rfl rfl rfl rfl) ?_
  exact W79
 ·try simp only [qB, qN] at hg1
  refine Lo u33 (W2j rfl rfl rfl rfl) ?_
  refine Lo u33 (W2h rfl rfl rfl rfl rfl) ?_
  refine L_heap (H' := H ++ [.dead, gaB 0, .cells [.ptr (some (H.length + 1, 0))] true]) (by simp; rfl) ?_
  refine L_call rfl rfl rfl (by exact Can_spec (H ++ [.dead, gaB 0, .cells [.ptr (some (H.length + 1, 0))] true]) (H.length + 1) 0 (get_app rfl rfl) p hp) ?_
  rintro _ _ ⟨rfl, rfl⟩; rw [set_app rfl]
  refine Le u33 ?_
  refine Lo u33 (v_pickF rfl rfl rfl) ?_
  refine L_nil (K_seq ?_)
  refine B_cond _ rfl (fun hc2 => ?_) (fun hc2 => ?_)
  ·try simp only [qB, qN] at hc2
   refine B_seq (B_region ?_)
   refine Lo u33 (v_const (VVal.slice none 0 0 true 0) (.inr rfl) rfl) ?_
   refine Lo u33 (v_const (VVal.slice none 0 0 true 0) (.inr rfl) rfl) ?_
   refine Lo u33 (v_const (VVal.bool false) (.inr rfl) rfl) ?_
   refine L_nil (K_seq ?_)
   refine B_gh (Gh.freezeNil 2 (es' := 1) rfl rfl) ?_
   refine B_gh (Gh.freezeNil 3 (es' := 1) rfl rfl) ?_
   refine B_ret (K_seqR ?_)
   refine W78 (.inr rfl) (vres_tmp3 rfl rfl rfl rfl) ?_
   exact W79
  ·try simp only [qB, qN] at hc2
   refine B_skip (K_seq (B_seq ?_))
   have g : Go.V.Good p := pck_good.1 (by assumption)
   have hwb : whB p = true := whB_yes (by assumption) (by simpa using hc2)
   have g1 := g.n12; have g3 := g.r32
   have hA := @whA_len p; have hC := @whC_len p
   refine B_region ?_
   refine Lo u33 (v_alloc rfl rfl) ?_
   refine Lo u33 (v_alloc rfl rfl) ?_
   refine L_nil (K_seq (B_seq (B_region ?_)))
   refine Lo u33 (v_func [_, _, _, _] rfl rfl) ?_
   refine Lo u33 (v_move (.inr rfl) rfl) ?_
   refine L_nil (K_seq (B_seq (B_region ?_)))
   refine Lo u33 (rfl) ?_
   refine Lo u33 (W2j rfl rfl rfl rfl) ?_
   refine Lo u33 (rfl) ?_
   refine Lo u33 (v_move (.inl rfl) rfl) ?_
   refine L_heap (H' := whH H (0 + leG p) niS niS niS niS ++ []) (by rw [List.append_nil]; rfl) ?_
   refine L_call rfl rfl rfl (by exact tryR_spec H _ p hp [] p.rules.length (by omega) _ rfl) ?_
   rintro v _ ⟨X, g1, rv, lv, rfl, hR, hL, hD⟩
   refine Le u33 ?_
   refine L_nil (K_seq (B_seq ?_))
   refine B_heap (H' := (H ++ [VBlk.dead, gaB g1, .cells [.ptr (some (H.length + 1, 0))] true, .cells [rv, lv] true, .cells [niS, niS] true]) ++ X) rfl ?_
   refine B_ghCellR 3 0 hR rfl rfl (by simp) fun X1 hX1 hF1 => ?_
   refine B_ghCell 3 1 (LV.frame hL fun i hi => hF1 i (hD _ hi)) rfl rfl (by simp) fun X2 _ _ => ?_
   refine B_heap (H' := whH H g1 (fzN (whA p).1) (fzN (whA p).2) niS niS ++ X2) rfl ?_
   refine B_region ?_
   refine Lo u33 (rfl) ?_
   refine Lo u33 (W2j rfl rfl rfl rfl) ?_
   refine Lo u33 (rfl) ?_
   refine Lo u33 (v_move (.inl rfl) rfl) ?_
   refine L_call rfl rfl rfl (by exact tryT_spec H _ p hp (fzN (whA p).1) (fzN (whA p).2) (whA p).1 rfl (by omega) X2 p.who.length (by omega) _ rfl) ?_
   rintro v _ ⟨X, g2, rv, lv, rfl, hR, hL, hD⟩
   refine Le u33 ?_
   refine L_nil (K_seq (B_seq ?_))
   refine B_heap (H' := (H ++ [VBlk.dead, gaB g2, .cells [.ptr (some (H.length + 1, 0))] true, .cells [(fzN (whA p).1), (fzN (whA p).2)] true, .cells [rv, lv] true]) ++ X) rfl ?_
   refine B_ghCell 4 1 hL rfl rfl (by simp) fun X3 _ _ => ?_
   refine B_draw [0, 1, 2, 3, 4, 5, 6] #[0, 1, 0, 4, 3, 31, 63] (by kernel_rfl) (by kernel_rfl) (by kernel_rfl) ?_
   refine Oo u33 .calm rfl (rfl) ?_
   refine Oo u33 .look rfl (W7b rfl rfl rfl rfl) ?_
   refine Oo u33 .calm rfl (rfl) ?_
   refine Oo u33 .look rfl (W7b rfl rfl rfl rfl) ?_
   refine Oo u33 .calm rfl (v_move (.inr rfl) rfl) ?_
   refine Oo u33 .calm rfl (v_move (.inr rfl) rfl) ?_
   refine Oo u33 .calm rfl (v_const (VVal.bool true) (.inr rfl) rfl) ?_
   refine O_nil [] (by kernel_rfl) (trivial) ?_
   refine K_seq ?_
   refine B_heap (List.append_assoc _ _ _) ?_
   refine B_ret ?_
   refine W78 (.inr rfl) (vres_tmp3 rfl rfl rfl rfl) ?_
   exact W79
def pc : Pb := (2, [1#64, 1#64], [-1, -1], [(1, 0, [0, 1], ())], ())
theorem pc_L : PbL pc := ⟨by decide, by decide, by decide, by decide, fun r hr => by
  have hr : r ∈ [((1 : Int), (0 : Int), [(0 : Int), 1], ())] := hr
  rw [List.mem_singleton] at hr; subst hr; decide⟩
theorem pc_b : whB pc = true := by decide +kernel
theorem pc_r : (whA pc).2 = [0] := by decide +kernel
theorem pc_s : (whC pc).2 = [0, 1] := by decide +kernel
theorem pc_v : whV pc = .tuple [fzI [0], fzI [0, 1], .bool true] := by rw [whV_y pc_b, pc_r, pc_s]; rfl
theorem cwakes_spec {x : SW} (H : VHeap) : F (psys x) 30 [] H fun v G => v = .bool true ∧ G = H := by
 refine F_body Tryd.func30 rfl u28 rfl ?_
 refine B_seq (B_region ?_)
 refine Lo u28 (v_const (VVal.bool false) (.inr rfl) rfl) ?_
 refine L_nil (K_seq (B_seq (B_region ?_)))
 refine Lo u28 (v_buildSlice rfl rfl (by decide) rfl) ?_
 refine Lo u28 (v_buildSlice rfl rfl (by decide) rfl) ?_
 refine Lo u28 (v_buildSlice rfl rfl (by decide) rfl) ?_
 refine Lo u28 (rfl) ?_
 refine Lo u28 (v_buildSlice rfl rfl (by decide) rfl) ?_
 refine Lo u28 (rfl) ?_
 refine Lo u28 (v_alloc rfl rfl) ?_
 refine Lo u28 (W13 rfl rfl rfl rfl rfl rfl rfl) ?_
 refine L_nil (K_seq (B_seq (B_region ?_)))
 refine L_gh (Gh.cellL (l := [iI 0, iI 1]) 3 2 2 rfl rfl (by decide) rfl rfl (Nat.le_refl _)) ?_
 refine L_gh (Gh.cellL (l := [iW 1#64, iW 1#64]) 4 1 0 rfl rfl (by decide) rfl rfl (Nat.le_refl _)) ?_
 refine L_gh (Gh.cellL (l := [iI (-1), iI (-1)]) 4 2 1 rfl rfl (by decide) rfl rfl (Nat.le_refl _)) ?_
 refine L_gh (Gh.cellL (l := rlB (1, 0, [0, 1], ())) 4 3 3 rfl rfl (by decide) rfl rfl (Nat.le_refl _)) ?_
 refine Lo u28 (W11 rfl rfl rfl rfl rfl) ?_
 refine L_call rfl rfl rfl (by exact Why_spec _ pc pc_L) ?_
 rintro v _ ⟨hv, rfl⟩; rw [pc_v] at hv; subst hv
 refine Le u28 ?_
 refine Lo u28 (v_move (.inl rfl) rfl) ?_
 refine Lo u28 (rfl) ?_
 refine Lo u28 (rfl) ?_
 refine Lo u28 (rfl) ?_
 refine Lo u28 (v_move (.inr rfl) rfl) ?_
 refine Lo u28 (v_move (.inr rfl) rfl) ?_
 refine Lo u28 (v_move (.inr rfl) rfl) ?_
 refine L_nil (K_seq (B_seq (B_region ?_)))
 refine Lo u28 (v_move (.inl rfl) rfl) ?_
 refine Lo u28 (v_move (.inl rfl) rfl) ?_
 refine Lo u28 (v_move (.inl rfl) rfl) ?_
 refine Lo u28 (v_buildSlice rfl rfl (by decide) rfl) ?_
 refine L_gh (Gh.freezeL (l := [iI 0]) 20 5 rfl rfl rfl (Nat.le_refl _) rfl) ?_
 refine L_call rfl rfl rfl (by exact kInts_spec _ [0] [0] (by decide)) ?_
 rintro v _ ⟨hv, rfl⟩; obtain rfl : v = .bool true := hv.trans (congrArg VVal.bool (by decide))
 refine Le u28 ?_
 refine Lo u28 (v_pickT rfl rfl rfl) ?_
 refine Lo u28 (v_move (.inl rfl) rfl) ?_
 refine Lo u28 (v_move (.inl rfl) rfl) ?_
 refine Lo u28 (v_buildSlice rfl rfl (by decide) rfl) ?_
 refine L_gh (Gh.freezeL (l := [iI 0, iI 1]) 25 6 rfl rfl rfl (Nat.le_refl _) rfl) ?_
 refine L_call rfl rfl rfl (by exact kInts_spec _ [0, 1] [0, 1] (by decide)) ?_
 rintro v _ ⟨hv, rfl⟩; obtain rfl : v = .bool true := hv.trans (congrArg VVal.bool (by decide))
 refine Le u28 ?_
 refine Lo u28 (v_pickT rfl rfl rfl) ?_
 refine Lo u28 (v_move (.inr rfl) rfl) ?_
 refine L_nil (K_seq (B_ret ?_))
 refine W10 (.inr rfl) (vres_tmp rfl rfl) ?_
 exact ⟨rfl, rfl⟩
theorem c15same_spec {x : SW} (H : VHeap) (p q : Pb) (hp : PbL p) : F (psys x) 34 [.agg (pbB p), .agg (pbB q)] H fun v G => v = .bool (decide (p = q)) ∧ G = H := by
 refine F_body Tryd.func34 rfl u31 rfl ?_
 refine B_seq (B_region ?_)
 refine Lo u31 (v_boxT rfl rfl rfl) ?_
 refine Lo u31 (v_boxT rfl rfl rfl) ?_
 refine Lo u31 (v_const (VVal.bool false) (.inr rfl) rfl) ?_
 refine L_nil (K_seq (B_seq (B_region ?_)))
 refine Lo u31 (rfl) ?_
 refine Lo u31 (W12 rfl rfl rfl rfl) ?_
 refine Lo u31 (rfl) ?_
 refine Lo u31 (W12 rfl rfl rfl rfl) ?_
 refine Lo u31 (rfl) ?_
 refine Lo u31 (v_move (.inl rfl) rfl) ?_
 refine L_split 10 (env1 := u31) (env2 := u31) rfl rfl rfl (fun hg1 => ?_) (fun hg1 => ?_)
 ·try simp only [qB] at hg1
  refine Lo u31 (rfl) ?_
  refine Lo u31 (W12 rfl rfl rfl rfl) ?_
  refine Lo u31 (rfl) ?_
  refine Lo u31 (W12 rfl rfl rfl rfl) ?_
  refine L_call rfl rfl rfl (by exact kRows_spec _ _ _ hp.w) ?_
  rintro _ _ ⟨rfl, rfl⟩
  refine Le u31 ?_
  refine Lo u31 (v_pickT rfl rfl rfl) ?_
  refine Lo u31 (v_move (.inl rfl) rfl) ?_
  refine L_split 17 (env1 := u31) (env2 := u31) rfl rfl rfl (fun hg2 => ?_) (fun hg2 => ?_)
  ·try simp only [qB] at hg2
   refine Lo u31 (rfl) ?_
   refine Lo u31 (W12 rfl rfl rfl rfl) ?_
   refine Lo u31 (rfl) ?_
   refine Lo u31 (W12 rfl rfl rfl rfl) ?_
   refine L_call rfl rfl rfl (by exact kInts_spec _ _ _ hp.f) ?_
   rintro _ _ ⟨rfl, rfl⟩
   refine Le u31 ?_
   refine Lo u31 (v_pickT rfl rfl rfl) ?_
   refine Lo u31 (v_move (.inl rfl) rfl) ?_
   refine L_split 24 (env1 := u31) (env2 := u31) rfl rfl rfl (fun hg3 => ?_) (fun hg3 => ?_)
   ·try simp only [qB] at hg3
    refine Lo u31 (rfl) ?_
    refine Lo u31 (W12 rfl rfl rfl rfl) ?_
    refine Lo u31 (rfl) ?_
    refine Lo u31 (W12 rfl rfl rfl rfl) ?_
    refine L_call rfl rfl rfl (by exact kRules_spec _ _ _ hp.r hp.s) ?_
    rintro _ _ ⟨rfl, rfl⟩
    refine Le u31 ?_
    refine Lo u31 (v_pickT rfl rfl rfl) ?_
    refine Lo u31 (v_move (.inr rfl) rfl) ?_
    refine L_nil (K_seq (B_ret ?_))
    refine W10 (.inr rfl) (vres_tmp rfl rfl) ?_
    refine ⟨congrArg VVal.bool ?_, rfl⟩
    exact W7f
   ·try simp only [qB] at hg3
    refine Lf u31 ?_
    refine Lf u31 ?_
    refine Lf u31 ?_
    refine Lf u31 ?_
    refine Lf u31 ?_
    refine Lo u31 (v_pickFC (VVal.bool false) rfl rfl rfl) ?_
    refine Lo u31 (v_move (.inr rfl) rfl) ?_
    refine L_nil (K_seq (B_ret ?_))
    refine W10 (.inr rfl) (vres_tmp rfl rfl) ?_
    refine ⟨congrArg VVal.bool ?_, rfl⟩
    exact W7f
  ·try simp only [qB] at hg2
   refine Lf u31 ?_
   refine Lf u31 ?_
   refine Lf u31 ?_
   refine Lf u31 ?_
   refine Lf u31 ?_
   refine Lo u31 (v_pickFC (VVal.bool false) rfl rfl rfl) ?_
   refine Lo u31 (v_move (.inl rfl) rfl) ?_
   refine Lf u31 ?_
   refine Lf u31 ?_
   refine Lf u31 ?_
   refine Lf u31 ?_
   refine Lf u31 ?_
   refine Lo u31 (v_pickFC (VVal.bool false) rfl rfl rfl) ?_
   refine Lo u31 (v_move (.inr rfl) rfl) ?_
   refine L_nil (K_seq (B_ret ?_))
   refine W10 (.inr rfl) (vres_tmp rfl rfl) ?_
   refine ⟨congrArg VVal.bool ?_, rfl⟩
   exact W7f
 ·try simp only [qB] at hg1
  refine Lf u31 ?_
  refine Lf u31 ?_
  refine Lf u31 ?_
  refine Lf u31 ?_
  refine Lf u31 ?_
  refine Lo u31 (v_pickFC (VVal.bool false) rfl rfl rfl) ?_
  refine Lo u31 (v_move (.inl rfl) rfl) ?_
  refine Lf u31 ?_
  refine Lf u31 ?_
  refine Lf u31 ?_
  refine Lf u31 ?_
  refine Lf u31 ?_
  refine Lo u31 (v_pickFC (VVal.bool false) rfl rfl rfl) ?_
  refine Lo u31 (v_move (.inl rfl) rfl) ?_
  refine Lf u31 ?_
  refine Lf u31 ?_
  refine Lf u31 ?_
  refine Lf u31 ?_
  refine Lf u31 ?_
  refine Lo u31 (v_pickFC (VVal.bool false) rfl rfl rfl) ?_
  refine Lo u31 (v_move (.inr rfl) rfl) ?_
  refine L_nil (K_seq (B_ret ?_))
  refine W10 (.inr rfl) (vres_tmp rfl rfl) ?_
  refine ⟨congrArg VVal.bool ?_, rfl⟩
  exact W7f
end Go.Proofs.YtalmjnkcibgclaaDoor.VT
