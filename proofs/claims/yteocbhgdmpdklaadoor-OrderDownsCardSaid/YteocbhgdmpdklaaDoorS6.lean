/- the law's helps: walks -/
import Derived.Test.YteocbhgdmpdklaaDoorS5
set_option autoImplicit false
set_option linter.unusedVariables false
set_option linter.unusedSimpArgs false
set_option maxHeartbeats 4000000
set_option maxRecDepth 100000
namespace Go.Proofs.YteocbhgdmpdklaaDoor.VT
open Go Go.V Go.RowKit

abbrev uS6n6 {a0 a1 a2 a3 a4 a5 : VVal} : VEnv := a0 :: a1 :: a2 :: a3 :: a4 :: a5 :: []
abbrev uS6n40 {a0 a1 a2 a3 a4 a5 a6 a7 a8 a9 a10 a11 a12 a13 a14 a15 a16 a17 a18 a19 a20 a21 a22 a23 a24 a25 a26 a27 a28 a29 a30 a31 a32 a33 a34 a35 a36 a37 a38 a39 : VVal} : VEnv := a0 :: a1 :: a2 :: a3 :: a4 :: a5 :: a6 :: a7 :: a8 :: a9 :: a10 :: a11 :: a12 :: a13 :: a14 :: a15 :: a16 :: a17 :: a18 :: a19 :: a20 :: a21 :: a22 :: a23 :: a24 :: a25 :: a26 :: a27 :: a28 :: a29 :: a30 :: a31 :: a32 :: a33 :: a34 :: a35 :: a36 :: a37 :: a38 :: a39 :: []
abbrev uS6n41 {a0 a1 a2 a3 a4 a5 a6 a7 a8 a9 a10 a11 a12 a13 a14 a15 a16 a17 a18 a19 a20 a21 a22 a23 a24 a25 a26 a27 a28 a29 a30 a31 a32 a33 a34 a35 a36 a37 a38 a39 a40 : VVal} : VEnv := a0 :: a1 :: a2 :: a3 :: a4 :: a5 :: a6 :: a7 :: a8 :: a9 :: a10 :: a11 :: a12 :: a13 :: a14 :: a15 :: a16 :: a17 :: a18 :: a19 :: a20 :: a21 :: a22 :: a23 :: a24 :: a25 :: a26 :: a27 :: a28 :: a29 :: a30 :: a31 :: a32 :: a33 :: a34 :: a35 :: a36 :: a37 :: a38 :: a39 :: a40 :: []

theorem v_same {T : TypeId → Option VTy} {ρ : Operand → VVal} {H : VHeap} {op : Op} {t ty : TypeId} {x y : Operand} {a : Int} (ho : op = .binOp .eql t x y ty) (hx : ρ x = .int .i64 a) (hy : ρ y = .int .i64 a) : vop T ρ H op = some (.bool true, H) := by
  rw [ho]; simp [vop, hx, hy, vbin, vint]

theorem twinP_spec {x : SW} (H : VHeap) (l : List (Int × Int)) (hl : l.length * 16 ≤ 140737488355328) : F (psys x) 17 [fzP l] H fun v G => v = .slice (some (H.length, 0)) l.length l.length (decide (l.length = 0)) 2 ∧ G = H ++ [.cells (l.flatMap enP) true] := by
  refine F_body Tryd.func17 rfl uS6n6 rfl ?_
  refine B_seq ?_
  refine B_region ?_
  refine L_op (env' := uS6n6) rfl rfl (v_const (VVal.slice none 0 0 true 0) (.inr rfl) rfl) rfl ?_
  refine L_nil ?_
  refine K_seq ?_
  refine B_seq ?_
  refine B_region ?_
  refine L_op (env' := uS6n6) rfl rfl (v_buildSlice rfl rfl (by decide) rfl) rfl ?_
  refine L_op (env' := uS6n6) rfl rfl (v_move (.inl rfl) rfl) rfl ?_
  refine L_opX rfl rfl (v_appE rfl rfl rfl rfl rfl rfl rfl rfl (flatP_len l) (flatP_one l) (by decide) (by show l.length * 16 ≤ _ ∧ l.length ≤ _; omega)) ?_
  rintro _ _ ⟨Z, i, rfl, rfl, hi⟩
  refine L_env (env' := uS6n6) rfl ?_
  refine L_op (env' := uS6n6) rfl rfl (v_move (.inr rfl) rfl) rfl ?_
  refine L_nil ?_
  refine K_seq ?_
  refine B_ret ?_
  refine E_gh (.inr rfl) (vres_tmp rfl rfl) (Gh.pack (BaseOk.refl _) hi (under_flatP _ _)) ?_
  exact ⟨rfl, rfl⟩

theorem twin_spec {x : SW} (H : VHeap) (l : List (Int × Int)) (hl : l.length * 16 ≤ 140737488355328) : F (psys x) 17 [fzP l] H fun v G => v = fzP l ∧ G = H :=
  F.gh (twinP_spec H l hl) fun v G h => by
    obtain ⟨rfl, rfl⟩ := h
    exact ⟨_, _, Gh.fsl (j := 0) (BaseOk.refl H) rfl (flatP_all l) (Nat.le_refl _) (under_flatP _ _), rfl, rfl⟩
theorem New_eq {x : SW} {u : VVal} (H : VHeap) (n : Int) (l : List (Int × Int)) (hp : l.length < 9223372036854775807) (h : newV n l = u) : F (psys x) 16 [iI n, fzP l] H fun v G => v = u ∧ G = H := h ▸ New_spec H n l hp
theorem refNew_eq {x : SW} {u : VVal} (H : VHeap) (n : Int) (l : List (Int × Int)) (hp : l.length < 9223372036854775807) (h : refNewV n l = u) : F (psys x) 52 [iI n, fzP l] H fun v G => v = u ∧ G = H := h ▸ refNew_spec H n l hp
theorem wakes_new : newV 3 [(0, 1), (1, 2)] = .tuple [ordV [0#64, 1#64, 3#64] [6#64, 4#64, 0#64], iI 0] := by
  unfold newV
  rw [if_neg (by decide), if_neg (by decide)]
  rw [show preL [(0, 1), (1, 2)] (3 : Int).toNat = [0#64, 1#64, 3#64] from by kernel_rfl, show sucL [(0, 1), (1, 2)] (3 : Int).toNat = [6#64, 4#64, 0#64] from by kernel_rfl]
theorem new_cases (n : Int) (l : List (Int × Int)) : (∃ e : Int, newV n l = .tuple [.ptr none, iI e] ∧ refNewV n l = .tuple [.ptr none, iI e]) ∨
    ∃ m : Nat, n = m ∧ Ord m (rch l m) (preL l m) (sucL l m) ∧ newV n l = .tuple [ordV (preL l m) (sucL l m), iI 0] ∧ refNewV n l = .tuple [refV m (rch l m), iI 0] := by
  by_cases h1 : n < 0 ∨ 64 < n ∨ l.all (inR n) = false
  · exact .inl ⟨1, by rw [newV, if_pos h1], by rw [refNewV, if_pos h1]⟩
  · by_cases h2 : (List.range n.toNat).any (fun a => rch l n.toNat a a) = true
    · exact .inl ⟨6, by rw [newV, if_neg h1, if_pos h2], by rw [refNewV, if_neg h1, if_pos h2]⟩
    · refine .inr ⟨n.toNat, by omega, ord_of (by omega) ?_ ?_, by rw [newV, if_neg h1, if_neg h2], by rw [refNewV, if_neg h1, if_neg h2]⟩
      · have h3 : l.all (inR n) = true := by
          cases h : l.all (inR n) with
          | true => rfl
          | false => exact absurd (.inr (.inr h)) h1
        rw [show ((n.toNat : Nat) : Int) = n from by omega]
        exact List.all_eq_true.1 h3
      · intro i hi
        cases h : rch l n.toNat i i with
        | false => rfl
        | true => exact absurd ((List.any_eq_true (p := fun a => rch l n.toNat a a)).2 ⟨i, List.mem_range.2 hi, h⟩) h2

theorem wakes_spec {x : SW} (H : VHeap) : F (psys x) 53 [] H fun v G => v = .bool true ∧ G = H := by
  refine F_body Tryd.func53 rfl uS6n40 rfl ?_
  refine B_seq ?_
  refine B_region ?_
  refine L_op (env' := uS6n40) rfl rfl (v_const (VVal.bool false) (.inr rfl) rfl) rfl ?_
  refine L_nil ?_
  refine K_seq ?_
  refine B_seq ?_
  refine B_region ?_
  refine L_op (env' := uS6n40) rfl rfl (rfl) rfl ?_
  refine L_op (env' := uS6n40) rfl rfl (rfl) rfl ?_
  refine L_op (env' := uS6n40) rfl rfl (v_buildSlice rfl rfl (by decide) rfl) rfl ?_
  refine L_gh (Gh.freezeL 6 0 rfl rfl rfl (Nat.le_refl _) rfl) ?_
  refine L_call rfl rfl rfl (by exact New_eq _ 3 [(0, 1), (1, 2)] (by decide) wakes_new) ?_
  rintro _ _ ⟨rfl, rfl⟩
  refine L_env (env' := uS6n40) rfl ?_
  refine L_op (env' := uS6n40) rfl rfl (v_move (.inl rfl) rfl) rfl ?_
  refine L_op (env' := uS6n40) rfl rfl (rfl) rfl ?_
  refine L_op (env' := uS6n40) rfl rfl (rfl) rfl ?_
  refine L_op (env' := uS6n40) rfl rfl (v_move (.inr rfl) rfl) rfl ?_
  refine L_op (env' := uS6n40) rfl rfl (v_move (.inr rfl) rfl) rfl ?_
  refine L_nil ?_
  refine K_seq ?_
  refine B_seq ?_
  refine B_region ?_
  refine L_op (env' := uS6n40) rfl rfl (v_move (.inl rfl) rfl) rfl ?_
  refine L_op (env' := uS6n40) rfl rfl (rfl) rfl ?_
  refine L_op (env' := uS6n40) rfl rfl (v_move (.inl rfl) rfl) rfl ?_
  refine L_op (env' := uS6n40) rfl rfl (v_move (.inl rfl) rfl) rfl ?_
  refine L_op (env' := uS6n40) rfl rfl (rfl) rfl ?_
  refine L_op (env' := uS6n40) rfl rfl (v_pickT rfl rfl rfl) rfl ?_
  refine L_op (env' := uS6n40) rfl rfl (v_move (.inl rfl) rfl) rfl ?_
  refine L_op (env' := uS6n40) rfl rfl (v_move (.inl rfl) rfl) rfl ?_
  refine L_call rfl rfl rfl (by exact Len_spec _ _ _) ?_
  rintro _ _ ⟨rfl, rfl⟩
  refine L_env (env' := uS6n40) rfl ?_
  refine L_op (env' := uS6n40) rfl rfl (rfl) rfl ?_
  refine L_op (env' := uS6n40) rfl rfl (v_pickT rfl rfl rfl) rfl ?_
  refine L_op (env' := uS6n40) rfl rfl (v_move (.inl rfl) rfl) rfl ?_
  refine L_op (env' := uS6n40) rfl rfl (v_move (.inl rfl) rfl) rfl ?_
  refine L_call rfl rfl rfl (by exact Before_spec _ [0#64, 1#64, 3#64] [6#64, 4#64, 0#64] rfl _ _) ?_
  rintro v _ ⟨hv, rfl⟩; obtain rfl : v = .bool true := hv.trans (congrArg VVal.bool (by decide))
  refine L_env (env' := uS6n40) rfl ?_
  refine L_op (env' := uS6n40) rfl rfl (v_pickT rfl rfl rfl) rfl ?_
  refine L_op (env' := uS6n40) rfl rfl (v_move (.inl rfl) rfl) rfl ?_
  refine L_op (env' := uS6n40) rfl rfl (v_move (.inl rfl) rfl) rfl ?_
  refine L_call rfl rfl rfl (by exact Preds_spec _ _ _ _) ?_
  rintro v _ ⟨hv, rfl⟩; obtain rfl : v = iW 3#64 := hv.trans (congrArg iW (by decide))
  refine L_env (env' := uS6n40) rfl ?_
  refine L_op (env' := uS6n40) rfl rfl (rfl) rfl ?_
  refine L_op (env' := uS6n40) rfl rfl (v_pickT rfl rfl rfl) rfl ?_
  refine L_op (env' := uS6n40) rfl rfl (v_move (.inl rfl) rfl) rfl ?_
  refine L_op (env' := uS6n40) rfl rfl (v_move (.inl rfl) rfl) rfl ?_
  refine L_call rfl rfl rfl (by exact Ready_spec _ [0#64, 1#64, 3#64] [6#64, 4#64, 0#64] (by decide) 1#64) ?_
  rintro v _ ⟨hv, rfl⟩; obtain rfl : v = iW 2#64 := hv.trans (congrArg iW (by decide))
  refine L_env (env' := uS6n40) rfl ?_
  refine L_op (env' := uS6n40) rfl rfl (rfl) rfl ?_
  refine L_op (env' := uS6n40) rfl rfl (v_pickT rfl rfl rfl) rfl ?_
  refine L_op (env' := uS6n40) rfl rfl (v_move (.inl rfl) rfl) rfl ?_
  refine L_op (env' := uS6n40) rfl rfl (v_move (.inl rfl) rfl) rfl ?_
  refine L_call rfl rfl rfl (by exact Before_spec _ [0#64, 1#64, 3#64] [6#64, 4#64, 0#64] rfl _ _) ?_
  rintro v _ ⟨hv, rfl⟩; obtain rfl : v = .bool false := hv.trans (congrArg VVal.bool (by decide))
  refine L_env (env' := uS6n40) rfl ?_
  refine L_op (env' := uS6n40) rfl rfl (rfl) rfl ?_
  refine L_op (env' := uS6n40) rfl rfl (v_pickT rfl rfl rfl) rfl ?_
  refine L_op (env' := uS6n40) rfl rfl (v_move (.inr rfl) rfl) rfl ?_
  refine L_nil ?_
  refine K_seq ?_
  refine B_ret ?_
  refine E_app (.inr rfl) (vres_tmp rfl rfl) (by first | exact BaseOk.refl _ | exact BaseOk.set (BaseOk.refl _) _ rfl) (by first | rfl | simp [VVal.under, VVal.underL, *]) ?_
  exact ⟨rfl, rfl⟩

theorem both_no {x : SW} (H : VHeap) (n A B : Int) (l : List (Int × Int)) (w : BitVec 64) (pr : List Int) (most : BitVec 64) (hl : l.length * 16 ≤ 140737488355328) (e : Int) (h1 : newV n l = .tuple [.ptr none, iI e]) (h2 : refNewV n l = .tuple [.ptr none, iI e]) : F (psys x) 14 [.agg [iI n, fzP l, iI A, iI B, iW w, fzI pr, iW most]] H fun v G => v = .tuple [.ptr none, .ptr none, .bool true] ∧ G = H := by
  refine F_body Tryd.func14 rfl uS6n41 rfl ?_
  refine B_seq ?_
  refine B_region ?_
  refine L_op (env' := uS6n41) rfl rfl (v_boxT rfl rfl rfl) rfl ?_
  refine L_op (env' := uS6n41) rfl rfl (v_const (VVal.ptr none) (.inr rfl) rfl) rfl ?_
  refine L_op (env' := uS6n41) rfl rfl (v_const (VVal.ptr none) (.inr rfl) rfl) rfl ?_
  refine L_op (env' := uS6n41) rfl rfl (v_const (VVal.bool false) (.inr rfl) rfl) rfl ?_
  refine L_nil ?_
  refine K_seq ?_
  refine B_seq ?_
  refine B_draw [0, 1, 2, 3, 4, 5, 6, 7, 8, 9, 10] #[0, 1, 0, 4, 12, 31, 63, 127, 127, 255, 1023] (by kernel_rfl) (by kernel_rfl) (by kernel_rfl) ?_
  refine O_op (env' := uS6n41) (c := .calm) rfl rfl rfl (rfl) rfl rfl rfl ?_
  refine O_opI (env' := uS6n41) (x := .look _ _) rfl rfl rfl (by first | exact v_loadF rfl rfl rfl rfl (by first | rfl | assumption | exact fget (α := BitVec 64) 0 (by omega) | exact fget (α := Int) 0 (by omega) | exact fget0 (α := BitVec 64) 0 (by omega) | exact fget0 (α := Int) 0 (by omega) | exact fget (α := Bool) false (by omega) | exact fget0 (α := Bool) false (by omega) | (simp [*]; done)) | exact v_load rfl rfl rfl rfl (by first | exact get_app rfl rfl | exact get_out (by assumption) | assumption | (simp [*]; done)) (by first | rfl | assumption | exact fget (α := BitVec 64) 0 (by omega) | exact fget (α := Int) 0 (by omega) | exact fget0 (α := BitVec 64) 0 (by omega) | exact fget0 (α := Int) 0 (by omega) | exact fget (α := Bool) false (by omega) | exact fget0 (α := Bool) false (by omega) | (simp [*]; done))) rfl rfl rfl ?_
  refine O_op (env' := uS6n41) (c := .calm) rfl rfl rfl (rfl) rfl rfl rfl ?_
  refine O_op (env' := uS6n41) (c := .look) rfl rfl rfl (by first | exact v_loadF rfl rfl rfl rfl (by first | rfl | assumption | exact fget (α := BitVec 64) 0 (by omega) | exact fget (α := Int) 0 (by omega) | exact fget0 (α := BitVec 64) 0 (by omega) | exact fget0 (α := Int) 0 (by omega) | exact fget (α := Bool) false (by omega) | exact fget0 (α := Bool) false (by omega) | (simp [*]; done)) | exact v_load rfl rfl rfl rfl (by first | exact get_app rfl rfl | exact get_out (by assumption) | assumption | (simp [*]; done)) (by first | rfl | assumption | exact fget (α := BitVec 64) 0 (by omega) | exact fget (α := Int) 0 (by omega) | exact fget0 (α := BitVec 64) 0 (by omega) | exact fget0 (α := Int) 0 (by omega) | exact fget (α := Bool) false (by omega) | exact fget0 (α := Bool) false (by omega) | (simp [*]; done))) rfl rfl rfl ?_
  refine O_call (env' := uS6n41) rfl rfl rfl rfl rfl (by exact twin_spec _ _ (by omega)) (by first | exact Nat.le_refl _ | simp) rfl rfl ?_
  refine O_call (env' := uS6n41) rfl rfl rfl rfl rfl (by exact New_eq _ _ _ (by omega) h1) (by first | exact Nat.le_refl _ | simp) rfl rfl ?_
  refine O_op (env' := uS6n41) (c := .calm) rfl rfl rfl (v_move (.inl rfl) rfl) rfl rfl rfl ?_
  refine O_op (env' := uS6n41) (c := .calm) rfl rfl rfl (rfl) rfl rfl rfl ?_
  refine O_op (env' := uS6n41) (c := .calm) rfl rfl rfl (rfl) rfl rfl rfl ?_
  refine O_op (env' := uS6n41) (c := .calm) rfl rfl rfl (v_move (.inr rfl) rfl) rfl rfl rfl ?_
  refine O_op (env' := uS6n41) (c := .calm) rfl rfl rfl (v_move (.inr rfl) rfl) rfl rfl rfl ?_
  refine O_nil [_] (by rfl) (And.intro (And.intro (by first | exact v_loadF rfl rfl rfl rfl (by first | rfl | assumption | exact fget (α := BitVec 64) 0 (by omega) | exact fget (α := Int) 0 (by omega) | exact fget0 (α := BitVec 64) 0 (by omega) | exact fget0 (α := Int) 0 (by omega) | exact fget (α := Bool) false (by omega) | exact fget0 (α := Bool) false (by omega) | (simp [*]; done)) | exact v_load rfl rfl rfl rfl (by first | exact get_app rfl rfl | exact get_out (by assumption) | assumption | (simp [*]; done)) (by first | rfl | assumption | exact fget (α := BitVec 64) 0 (by omega) | exact fget (α := Int) 0 (by omega) | exact fget0 (α := BitVec 64) 0 (by omega) | exact fget0 (α := Int) 0 (by omega) | exact fget (α := Bool) false (by omega) | exact fget0 (α := Bool) false (by omega) | (simp [*]; done))) (by first | exact v_loadF rfl rfl rfl rfl (by first | rfl | assumption | exact fget (α := BitVec 64) 0 (by omega) | exact fget (α := Int) 0 (by omega) | exact fget0 (α := BitVec 64) 0 (by omega) | exact fget0 (α := Int) 0 (by omega) | exact fget (α := Bool) false (by omega) | exact fget0 (α := Bool) false (by omega) | (simp [*]; done)) | exact v_load rfl rfl rfl rfl (by first | exact get_app rfl rfl | exact get_out (by assumption) | assumption | (simp [*]; done)) (by first | rfl | assumption | exact fget (α := BitVec 64) 0 (by omega) | exact fget (α := Int) 0 (by omega) | exact fget0 (α := BitVec 64) 0 (by omega) | exact fget0 (α := Int) 0 (by omega) | exact fget (α := Bool) false (by omega) | exact fget0 (α := Bool) false (by omega) | (simp [*]; done)))) trivial) ?_
  refine K_seq ?_
  refine B_seq ?_
  refine B_region ?_
  refine L_op (env' := uS6n41) rfl rfl (rfl) rfl ?_
  refine L_op (env' := uS6n41) rfl rfl (by first | exact v_loadF rfl rfl rfl rfl (by first | rfl | assumption | exact fget (α := BitVec 64) 0 (by omega) | exact fget (α := Int) 0 (by omega) | exact fget0 (α := BitVec 64) 0 (by omega) | exact fget0 (α := Int) 0 (by omega) | exact fget (α := Bool) false (by omega) | exact fget0 (α := Bool) false (by omega) | (simp [*]; done)) | exact v_load rfl rfl rfl rfl (by first | exact get_app rfl rfl | exact get_out (by assumption) | assumption | (simp [*]; done)) (by first | rfl | assumption | exact fget (α := BitVec 64) 0 (by omega) | exact fget (α := Int) 0 (by omega) | exact fget0 (α := BitVec 64) 0 (by omega) | exact fget0 (α := Int) 0 (by omega) | exact fget (α := Bool) false (by omega) | exact fget0 (α := Bool) false (by omega) | (simp [*]; done))) rfl ?_
  refine L_op (env' := uS6n41) rfl rfl (rfl) rfl ?_
  refine L_op (env' := uS6n41) rfl rfl (by first | exact v_loadF rfl rfl rfl rfl (by first | rfl | assumption | exact fget (α := BitVec 64) 0 (by omega) | exact fget (α := Int) 0 (by omega) | exact fget0 (α := BitVec 64) 0 (by omega) | exact fget0 (α := Int) 0 (by omega) | exact fget (α := Bool) false (by omega) | exact fget0 (α := Bool) false (by omega) | (simp [*]; done)) | exact v_load rfl rfl rfl rfl (by first | exact get_app rfl rfl | exact get_out (by assumption) | assumption | (simp [*]; done)) (by first | rfl | assumption | exact fget (α := BitVec 64) 0 (by omega) | exact fget (α := Int) 0 (by omega) | exact fget0 (α := BitVec 64) 0 (by omega) | exact fget0 (α := Int) 0 (by omega) | exact fget (α := Bool) false (by omega) | exact fget0 (α := Bool) false (by omega) | (simp [*]; done))) rfl ?_
  refine L_call rfl rfl rfl (by exact refNew_eq _ _ _ (by omega) h2) ?_
  rintro _ _ ⟨rfl, rfl⟩
  refine L_env (env' := uS6n41) rfl ?_
  refine L_op (env' := uS6n41) rfl rfl (v_move (.inl rfl) rfl) rfl ?_
  refine L_op (env' := uS6n41) rfl rfl (rfl) rfl ?_
  refine L_op (env' := uS6n41) rfl rfl (rfl) rfl ?_
  refine L_op (env' := uS6n41) rfl rfl (v_move (.inr rfl) rfl) rfl ?_
  refine L_op (env' := uS6n41) rfl rfl (v_move (.inr rfl) rfl) rfl ?_
  refine L_nil ?_
  refine K_seq ?_
  refine B_seq ?_
  refine B_region ?_
  refine L_op (env' := uS6n41) rfl rfl (v_move (.inl rfl) rfl) rfl ?_
  refine L_op (env' := uS6n41) rfl rfl (v_move (.inl rfl) rfl) rfl ?_
  refine L_op (env' := uS6n41) rfl rfl (v_move (.inl rfl) rfl) rfl ?_
  refine L_op (env' := uS6n41) rfl rfl (v_move (.inl rfl) rfl) rfl ?_
  refine L_op (env' := uS6n41) rfl rfl (v_same rfl rfl rfl) rfl ?_
  refine L_op (env' := uS6n41) rfl rfl (v_move (.inl rfl) rfl) rfl ?_
  refine L_op (env' := uS6n41) rfl rfl (v_move (.inl rfl) rfl) rfl ?_
  refine L_op (env' := uS6n41) rfl rfl (rfl) rfl ?_
  refine L_op (env' := uS6n41) rfl rfl (v_move (.inl rfl) rfl) rfl ?_
  refine L_op (env' := uS6n41) rfl rfl (rfl) rfl ?_
  refine L_op (env' := uS6n41) rfl rfl (rfl) rfl ?_
  refine L_op (env' := uS6n41) rfl rfl (v_pickT rfl rfl rfl) rfl ?_
  refine L_op (env' := uS6n41) rfl rfl (v_move (.inl rfl) rfl) rfl ?_
  refine L_call rfl rfl rfl (by exact wakes_spec _) ?_
  rintro _ _ ⟨rfl, rfl⟩
  refine L_env (env' := uS6n41) rfl ?_
  refine L_op (env' := uS6n41) rfl rfl (v_pickT rfl rfl rfl) rfl ?_
  refine L_op (env' := uS6n41) rfl rfl (v_move (.inr rfl) rfl) rfl ?_
  refine L_op (env' := uS6n41) rfl rfl (v_move (.inr rfl) rfl) rfl ?_
  refine L_op (env' := uS6n41) rfl rfl (v_move (.inr rfl) rfl) rfl ?_
  refine L_nil ?_
  refine K_seq ?_
  refine B_ret ?_
  refine E_app (.inr rfl) (vres_tmp3 rfl rfl rfl rfl) (by first | exact BaseOk.refl _ | exact BaseOk.set (BaseOk.refl _) _ rfl) (by simp [VVal.underL, VVal.under, VBlk.under, fz_under, fz_underI, fzP_under, under_mapW, under_mapI, under_flatP, under_repW, *]) ?_
  exact ⟨rfl, rfl⟩

theorem both_yes {x : SW} (H : VHeap) (n A B : Int) (l : List (Int × Int)) (w : BitVec 64) (pr : List Int) (most : BitVec 64) (hl : l.length * 16 ≤ 140737488355328) (ps ss : List (BitVec 64)) (m : Nat) (R : Nat → Nat → Bool) (h1 : newV n l = .tuple [ordV ps ss, iI 0]) (h2 : refNewV n l = .tuple [refV m R, iI 0]) : F (psys x) 14 [.agg [iI n, fzP l, iI A, iI B, iW w, fzI pr, iW most]] H fun v G => v = .tuple [ordV ps ss, refV m R, .bool true] ∧ G = H := by
  refine F_body Tryd.func14 rfl uS6n41 rfl ?_
  refine B_seq ?_
  refine B_region ?_
  refine L_op (env' := uS6n41) rfl rfl (v_boxT rfl rfl rfl) rfl ?_
  refine L_op (env' := uS6n41) rfl rfl (v_const (VVal.ptr none) (.inr rfl) rfl) rfl ?_
  refine L_op (env' := uS6n41) rfl rfl (v_const (VVal.ptr none) (.inr rfl) rfl) rfl ?_
  refine L_op (env' := uS6n41) rfl rfl (v_const (VVal.bool false) (.inr rfl) rfl) rfl ?_
  refine L_nil ?_
  refine K_seq ?_
  refine B_seq ?_
  refine B_draw [0, 1, 2, 3, 4, 5, 6, 7, 8, 9, 10] #[0, 1, 0, 4, 12, 31, 63, 127, 127, 255, 1023] (by kernel_rfl) (by kernel_rfl) (by kernel_rfl) ?_
  refine O_op (env' := uS6n41) (c := .calm) rfl rfl rfl (rfl) rfl rfl rfl ?_
  refine O_opI (env' := uS6n41) (x := .look _ _) rfl rfl rfl (by first | exact v_loadF rfl rfl rfl rfl (by first | rfl | assumption | exact fget (α := BitVec 64) 0 (by omega) | exact fget (α := Int) 0 (by omega) | exact fget0 (α := BitVec 64) 0 (by omega) | exact fget0 (α := Int) 0 (by omega) | exact fget (α := Bool) false (by omega) | exact fget0 (α := Bool) false (by omega) | (simp [*]; done)) | exact v_load rfl rfl rfl rfl (by first | exact get_app rfl rfl | exact get_out (by assumption) | assumption | (simp [*]; done)) (by first | rfl | assumption | exact fget (α := BitVec 64) 0 (by omega) | exact fget (α := Int) 0 (by omega) | exact fget0 (α := BitVec 64) 0 (by omega) | exact fget0 (α := Int) 0 (by omega) | exact fget (α := Bool) false (by omega) | exact fget0 (α := Bool) false (by omega) | (simp [*]; done))) rfl rfl rfl ?_
  refine O_op (env' := uS6n41) (c := .calm) rfl rfl rfl (rfl) rfl rfl rfl ?_
  refine O_op (env' := uS6n41) (c := .look) rfl rfl rfl (by first | exact v_loadF rfl rfl rfl rfl (by first | rfl | assumption | exact fget (α := BitVec 64) 0 (by omega) | exact fget (α := Int) 0 (by omega) | exact fget0 (α := BitVec 64) 0 (by omega) | exact fget0 (α := Int) 0 (by omega) | exact fget (α := Bool) false (by omega) | exact fget0 (α := Bool) false (by omega) | (simp [*]; done)) | exact v_load rfl rfl rfl rfl (by first | exact get_app rfl rfl | exact get_out (by assumption) | assumption | (simp [*]; done)) (by first | rfl | assumption | exact fget (α := BitVec 64) 0 (by omega) | exact fget (α := Int) 0 (by omega) | exact fget0 (α := BitVec 64) 0 (by omega) | exact fget0 (α := Int) 0 (by omega) | exact fget (α := Bool) false (by omega) | exact fget0 (α := Bool) false (by omega) | (simp [*]; done))) rfl rfl rfl ?_
  refine O_call (env' := uS6n41) rfl rfl rfl rfl rfl (by exact twin_spec _ _ (by omega)) (by first | exact Nat.le_refl _ | simp) rfl rfl ?_
  refine O_call (env' := uS6n41) rfl rfl rfl rfl rfl (by exact New_eq _ _ _ (by omega) h1) (by first | exact Nat.le_refl _ | simp) rfl rfl ?_
  refine O_op (env' := uS6n41) (c := .calm) rfl rfl rfl (v_move (.inl rfl) rfl) rfl rfl rfl ?_
  refine O_op (env' := uS6n41) (c := .calm) rfl rfl rfl (rfl) rfl rfl rfl ?_
  refine O_op (env' := uS6n41) (c := .calm) rfl rfl rfl (rfl) rfl rfl rfl ?_
  refine O_op (env' := uS6n41) (c := .calm) rfl rfl rfl (v_move (.inr rfl) rfl) rfl rfl rfl ?_
  refine O_op (env' := uS6n41) (c := .calm) rfl rfl rfl (v_move (.inr rfl) rfl) rfl rfl rfl ?_
  refine O_nil [_] (by rfl) (And.intro (And.intro (by first | exact v_loadF rfl rfl rfl rfl (by first | rfl | assumption | exact fget (α := BitVec 64) 0 (by omega) | exact fget (α := Int) 0 (by omega) | exact fget0 (α := BitVec 64) 0 (by omega) | exact fget0 (α := Int) 0 (by omega) | exact fget (α := Bool) false (by omega) | exact fget0 (α := Bool) false (by omega) | (simp [*]; done)) | exact v_load rfl rfl rfl rfl (by first | exact get_app rfl rfl | exact get_out (by assumption) | assumption | (simp [*]; done)) (by first | rfl | assumption | exact fget (α := BitVec 64) 0 (by omega) | exact fget (α := Int) 0 (by omega) | exact fget0 (α := BitVec 64) 0 (by omega) | exact fget0 (α := Int) 0 (by omega) | exact fget (α := Bool) false (by omega) | exact fget0 (α := Bool) false (by omega) | (simp [*]; done))) (by first | exact v_loadF rfl rfl rfl rfl (by first | rfl | assumption | exact fget (α := BitVec 64) 0 (by omega) | exact fget (α := Int) 0 (by omega) | exact fget0 (α := BitVec 64) 0 (by omega) | exact fget0 (α := Int) 0 (by omega) | exact fget (α := Bool) false (by omega) | exact fget0 (α := Bool) false (by omega) | (simp [*]; done)) | exact v_load rfl rfl rfl rfl (by first | exact get_app rfl rfl | exact get_out (by assumption) | assumption | (simp [*]; done)) (by first | rfl | assumption | exact fget (α := BitVec 64) 0 (by omega) | exact fget (α := Int) 0 (by omega) | exact fget0 (α := BitVec 64) 0 (by omega) | exact fget0 (α := Int) 0 (by omega) | exact fget (α := Bool) false (by omega) | exact fget0 (α := Bool) false (by omega) | (simp [*]; done)))) trivial) ?_
  refine K_seq ?_
  refine B_seq ?_
  refine B_region ?_
  refine L_op (env' := uS6n41) rfl rfl (rfl) rfl ?_
  refine L_op (env' := uS6n41) rfl rfl (by first | exact v_loadF rfl rfl rfl rfl (by first | rfl | assumption | exact fget (α := BitVec 64) 0 (by omega) | exact fget (α := Int) 0 (by omega) | exact fget0 (α := BitVec 64) 0 (by omega) | exact fget0 (α := Int) 0 (by omega) | exact fget (α := Bool) false (by omega) | exact fget0 (α := Bool) false (by omega) | (simp [*]; done)) | exact v_load rfl rfl rfl rfl (by first | exact get_app rfl rfl | exact get_out (by assumption) | assumption | (simp [*]; done)) (by first | rfl | assumption | exact fget (α := BitVec 64) 0 (by omega) | exact fget (α := Int) 0 (by omega) | exact fget0 (α := BitVec 64) 0 (by omega) | exact fget0 (α := Int) 0 (by omega) | exact fget (α := Bool) false (by omega) | exact fget0 (α := Bool) false (by omega) | (simp [*]; done))) rfl ?_
  refine L_op (env' := uS6n41) rfl rfl (rfl) rfl ?_
  refine L_op (env' := uS6n41) rfl rfl (by first | exact v_loadF rfl rfl rfl rfl (by first | rfl | assumption | exact fget (α := BitVec 64) 0 (by omega) | exact fget (α := Int) 0 (by omega) | exact fget0 (α := BitVec 64) 0 (by omega) | exact fget0 (α := Int) 0 (by omega) | exact fget (α := Bool) false (by omega) | exact fget0 (α := Bool) false (by omega) | (simp [*]; done)) | exact v_load rfl rfl rfl rfl (by first | exact get_app rfl rfl | exact get_out (by assumption) | assumption | (simp [*]; done)) (by first | rfl | assumption | exact fget (α := BitVec 64) 0 (by omega) | exact fget (α := Int) 0 (by omega) | exact fget0 (α := BitVec 64) 0 (by omega) | exact fget0 (α := Int) 0 (by omega) | exact fget (α := Bool) false (by omega) | exact fget0 (α := Bool) false (by omega) | (simp [*]; done))) rfl ?_
  refine L_call rfl rfl rfl (by exact refNew_eq _ _ _ (by omega) h2) ?_
  rintro _ _ ⟨rfl, rfl⟩
  refine L_env (env' := uS6n41) rfl ?_
  refine L_op (env' := uS6n41) rfl rfl (v_move (.inl rfl) rfl) rfl ?_
  refine L_op (env' := uS6n41) rfl rfl (rfl) rfl ?_
  refine L_op (env' := uS6n41) rfl rfl (rfl) rfl ?_
  refine L_op (env' := uS6n41) rfl rfl (v_move (.inr rfl) rfl) rfl ?_
  refine L_op (env' := uS6n41) rfl rfl (v_move (.inr rfl) rfl) rfl ?_
  refine L_nil ?_
  refine K_seq ?_
  refine B_seq ?_
  refine B_region ?_
  refine L_op (env' := uS6n41) rfl rfl (v_move (.inl rfl) rfl) rfl ?_
  refine L_op (env' := uS6n41) rfl rfl (v_move (.inl rfl) rfl) rfl ?_
  refine L_op (env' := uS6n41) rfl rfl (v_move (.inl rfl) rfl) rfl ?_
  refine L_op (env' := uS6n41) rfl rfl (v_move (.inl rfl) rfl) rfl ?_
  refine L_op (env' := uS6n41) rfl rfl (v_same rfl rfl rfl) rfl ?_
  refine L_op (env' := uS6n41) rfl rfl (v_move (.inl rfl) rfl) rfl ?_
  refine L_op (env' := uS6n41) rfl rfl (v_move (.inl rfl) rfl) rfl ?_
  refine L_op (env' := uS6n41) rfl rfl (rfl) rfl ?_
  refine L_op (env' := uS6n41) rfl rfl (v_move (.inl rfl) rfl) rfl ?_
  refine L_op (env' := uS6n41) rfl rfl (rfl) rfl ?_
  refine L_op (env' := uS6n41) rfl rfl (rfl) rfl ?_
  refine L_op (env' := uS6n41) rfl rfl (v_pickT rfl rfl rfl) rfl ?_
  refine L_op (env' := uS6n41) rfl rfl (v_move (.inl rfl) rfl) rfl ?_
  refine L_call rfl rfl rfl (by exact wakes_spec _) ?_
  rintro _ _ ⟨rfl, rfl⟩
  refine L_env (env' := uS6n41) rfl ?_
  refine L_op (env' := uS6n41) rfl rfl (v_pickT rfl rfl rfl) rfl ?_
  refine L_op (env' := uS6n41) rfl rfl (v_move (.inr rfl) rfl) rfl ?_
  refine L_op (env' := uS6n41) rfl rfl (v_move (.inr rfl) rfl) rfl ?_
  refine L_op (env' := uS6n41) rfl rfl (v_move (.inr rfl) rfl) rfl ?_
  refine L_nil ?_
  refine K_seq ?_
  refine B_ret ?_
  refine E_app (.inr rfl) (vres_tmp3 rfl rfl rfl rfl) (by first | exact BaseOk.refl _ | exact BaseOk.set (BaseOk.refl _) _ rfl) (by simp [VVal.underL, VVal.under, VBlk.under, rows_under, fz_under, rows_under, fz_underI, fzP_under, under_mapW, under_mapI, under_flatP, under_repW, *]) ?_
  exact ⟨rfl, rfl⟩
end Go.Proofs.YteocbhgdmpdklaaDoor.VT
