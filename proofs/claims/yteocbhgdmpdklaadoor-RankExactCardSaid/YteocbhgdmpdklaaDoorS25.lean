/- ranks: what the laws share -/
import Derived.Test.YteocbhgdmpdklaaDoorS23
import Derived.Test.YteocbhgdmpdklaaDoorP4
set_option autoImplicit false
set_option linter.unusedVariables false
set_option linter.unusedSimpArgs false
set_option maxHeartbeats 4000000
set_option maxRecDepth 100000
namespace Go.Proofs.YteocbhgdmpdklaaDoor.VT
open Go Go.V Go.RowKit

abbrev uS25n25 {a0 a1 a2 a3 a4 a5 a6 a7 a8 a9 a10 a11 a12 a13 a14 a15 a16 a17 a18 a19 a20 a21 a22 a23 a24 : VVal} : VEnv := a0 :: a1 :: a2 :: a3 :: a4 :: a5 :: a6 :: a7 :: a8 :: a9 :: a10 :: a11 :: a12 :: a13 :: a14 :: a15 :: a16 :: a17 :: a18 :: a19 :: a20 :: a21 :: a22 :: a23 :: a24 :: []

abbrev OpT : Type := Int × Int × Int × Int × BitVec 64 × Unit
abbrev dOp : OpT := (0, 0, 0, 0, 0#64, ())
def enO (o : OpT) : List VVal := [iI o.1, iI o.2.1, iI o.2.2.1, iI o.2.2.2.1, iW o.2.2.2.2.1]
def fzO (l : List OpT) : VVal := .fsl (l.flatMap enO) l.length 5 false
theorem flat_get {α : Type} {f : α → List VVal} {c : Nat} (hc : ∀ a, (f a).length = c) (d : α) : ∀ (l : List α) (n i : Nat), n < l.length → i < c → (l.flatMap f)[n * c + i]? = (f (l.getD n d))[i]?
  | [], n, i, h, _ => by simp at h
  | a :: l, 0, i, h, hi => by
    rw [List.flatMap_cons, Nat.zero_mul, Nat.zero_add, List.getElem?_append_left (by rw [hc]; exact hi)]; rfl
  | a :: l, n + 1, i, h, hi => by
    rw [List.flatMap_cons, List.getElem?_append_right (by rw [hc, Nat.succ_mul]; omega), hc, show (n + 1) * c + i - c = n * c + i from by rw [Nat.succ_mul]; omega, flat_get hc d l n i (by simpa using h) hi]; rfl
section
variable {l : List OpT} {n : Int}
theorem op_c0 (h : 0 ≤ n ∧ n < l.length) : (l.flatMap enO)[n.toNat * 5 + 0]? = some (iI (l.getD n.toNat dOp).1) := flat_get (c := 5) (fun _ => rfl) dOp l n.toNat 0 (by omega) (by omega)
theorem op_c1 (h : 0 ≤ n ∧ n < l.length) : (l.flatMap enO)[n.toNat * 5 + 1]? = some (iI (l.getD n.toNat dOp).2.1) := flat_get (c := 5) (fun _ => rfl) dOp l n.toNat 1 (by omega) (by omega)
theorem op_c2 (h : 0 ≤ n ∧ n < l.length) : (l.flatMap enO)[n.toNat * 5 + 2]? = some (iI (l.getD n.toNat dOp).2.2.1) := flat_get (c := 5) (fun _ => rfl) dOp l n.toNat 2 (by omega) (by omega)
theorem op_c3 (h : 0 ≤ n ∧ n < l.length) : (l.flatMap enO)[n.toNat * 5 + 3]? = some (iI (l.getD n.toNat dOp).2.2.2.1) := flat_get (c := 5) (fun _ => rfl) dOp l n.toNat 3 (by omega) (by omega)
theorem op_c4 (h : 0 ≤ n ∧ n < l.length) : (l.flatMap enO)[n.toNat * 5 + 4]? = some (iW (l.getD n.toNat dOp).2.2.2.2.1) := flat_get (c := 5) (fun _ => rfl) dOp l n.toNat 4 (by omega) (by omega)
end
section
variable {x : SW} (H L : VHeap) {i : Nat} {J : List (BitVec 64)}
theorem rkNew_loc : F (psys x) 27 [] (H ++ L) fun v G => v = .ptr (some (H.length + L.length, 0)) ∧ G = H ++ (L ++ [rkB rk0]) := by
  have := rkNew_spec (x := x) (H ++ L)
  rw [List.length_append, List.append_assoc] at this
  exact this
theorem Over_loc (hL : L[i]? = some (rkB J)) (hJ : J.length = 64) (s j : Int) : F (psys x) 30 [.ptr (some (H.length + i, 0)), iI s, iI j] (H ++ L) fun v G => v = iI (ovE J s j) ∧ G = H ++ L.set i (rkB (ovJ J s j)) := by
  have := Over_spec (x := x) (H ++ L) (H.length + i) J (get_app rfl hL) hJ s j
  rw [set_app rfl] at this; exact this
theorem Cut_loc (hL : L[i]? = some (rkB J)) (hJ : J.length = 64) (s j : Int) : F (psys x) 29 [.ptr (some (H.length + i, 0)), iI s, iI j] (H ++ L) fun v G => v = iI (ctE J s j) ∧ G = H ++ L.set i (rkB (ctJ J s j)) := by
  have := Cut_spec (x := x) (H ++ L) (H.length + i) J (get_app rfl hL) hJ s j
  rw [set_app rfl] at this; exact this
end
theorem hasB_0 {s j : Int} : hasB rk0 s j = false := by unfold hasB; rw [lk_0, Bool.and_false, Bool.and_false]
def wkJ1 : List (BitVec 64) := lay rk0 1 2
def wkJ2 : List (BitVec 64) := lay wkJ1 2 3
theorem blw_is {J : List (BitVec 64)} {a : Int} {w : BitVec 64} (k : Nat) (h : 0 ≤ a ∧ a < 64) (e : sprF J k (1#64 <<< a.toNat) (1#64 <<< a.toNat) = some w) : blw J a = w := by
  unfold blw; rw [if_pos h]; exact spr_is k e
theorem wk1 : ovE rk0 1 2 = 0 ∧ ovJ rk0 1 2 = wkJ1 := ov0 (by decide) hasB_0 (by rw [blw_is (w := 4#64) 5 (by decide) (by kernel_rfl)]; decide)
theorem wk2 : ovE wkJ1 2 3 = 0 ∧ ovJ wkJ1 2 3 = wkJ2 := ov0 (by decide) (by kernel_rfl) (by rw [blw_is (w := 8#64) 5 (by decide) (by kernel_rfl)]; decide)
theorem wk3 : blw wkJ2 1 = 14#64 := blw_is 6 (by decide) (by kernel_rfl)
theorem wk4 : ovE wkJ2 3 1 = 6 ∧ ovJ wkJ2 3 1 = wkJ2 := ov6 (by decide) (by kernel_rfl) (by rw [wk3]; decide)

theorem rkWakes_spec {x : SW} (H : VHeap) : F (psys x) 28 [] H fun v G => v = .bool true ∧ G = H := by
  refine F_body Tryd.func28 rfl uS25n25 rfl ?_
  refine B_seq ?_
  refine B_region ?_
  refine L_op (env' := uS25n25) rfl rfl (v_const (VVal.bool false) (.inr rfl) rfl) rfl ?_
  refine L_nil ?_
  refine K_seq ?_
  refine B_seq ?_
  refine B_region ?_
  refine L_call rfl rfl rfl (by exact rkNew_loc _ _) ?_
  rintro _ _ ⟨rfl, rfl⟩
  refine L_env (env' := uS25n25) rfl ?_
  refine L_op (env' := uS25n25) rfl rfl (v_move (.inr rfl) rfl) rfl ?_
  refine L_nil ?_
  refine K_seq ?_
  refine B_seq ?_
  refine B_region ?_
  refine L_op (env' := uS25n25) rfl rfl (v_move (.inl rfl) rfl) rfl ?_
  refine L_op (env' := uS25n25) rfl rfl (rfl) rfl ?_
  refine L_op (env' := uS25n25) rfl rfl (v_move (.inl rfl) rfl) rfl ?_
  refine L_op (env' := uS25n25) rfl rfl (v_move (.inl rfl) rfl) rfl ?_
  refine L_call rfl rfl rfl (by exact Over_loc (J := rk0) _ _ rfl (by kernel_rfl) 1 2) ?_
  rintro v G ⟨hv, hG⟩; rw [wk1.1] at hv; rw [wk1.2] at hG; subst hv; subst hG
  refine L_env (env' := uS25n25) rfl ?_
  refine L_op (env' := uS25n25) rfl rfl (rfl) rfl ?_
  refine L_op (env' := uS25n25) rfl rfl (v_pickT rfl rfl rfl) rfl ?_
  refine L_op (env' := uS25n25) rfl rfl (v_move (.inl rfl) rfl) rfl ?_
  refine L_op (env' := uS25n25) rfl rfl (v_move (.inl rfl) rfl) rfl ?_
  refine L_call rfl rfl rfl (by exact Over_loc (J := wkJ1) _ _ rfl (by kernel_rfl) 2 3) ?_
  rintro v G ⟨hv, hG⟩; rw [wk2.1] at hv; rw [wk2.2] at hG; subst hv; subst hG
  refine L_env (env' := uS25n25) rfl ?_
  refine L_op (env' := uS25n25) rfl rfl (rfl) rfl ?_
  refine L_op (env' := uS25n25) rfl rfl (v_pickT rfl rfl rfl) rfl ?_
  refine L_op (env' := uS25n25) rfl rfl (v_move (.inl rfl) rfl) rfl ?_
  refine L_op (env' := uS25n25) rfl rfl (v_move (.inl rfl) rfl) rfl ?_
  refine L_call rfl rfl rfl (by exact rkBelow_spec _ _ wkJ2 (get_app rfl rfl) (by kernel_rfl) 1) ?_
  rintro v G ⟨hv, hG⟩; rw [wk3] at hv; subst hv; subst hG
  refine L_env (env' := uS25n25) rfl ?_
  refine L_op (env' := uS25n25) rfl rfl (rfl) rfl ?_
  refine L_op (env' := uS25n25) rfl rfl (v_pickT rfl rfl rfl) rfl ?_
  refine L_op (env' := uS25n25) rfl rfl (v_move (.inl rfl) rfl) rfl ?_
  refine L_op (env' := uS25n25) rfl rfl (v_move (.inl rfl) rfl) rfl ?_
  refine L_call rfl rfl rfl (by exact Over_loc (J := wkJ2) _ _ rfl (by kernel_rfl) 3 1) ?_
  rintro v G ⟨hv, hG⟩; rw [wk4.1] at hv; rw [wk4.2] at hG; subst hv; subst hG
  refine L_env (env' := uS25n25) rfl ?_
  refine L_op (env' := uS25n25) rfl rfl (rfl) rfl ?_
  refine L_op (env' := uS25n25) rfl rfl (v_pickT rfl rfl rfl) rfl ?_
  refine L_op (env' := uS25n25) rfl rfl (v_move (.inr rfl) rfl) rfl ?_
  refine L_nil ?_
  refine K_seq ?_
  refine B_ret ?_
  refine E_app (.inr rfl) (vres_tmp rfl rfl) (by first | exact BaseOk.refl _ | exact BaseOk.set (BaseOk.refl _) _ rfl) (by first | rfl | simp [VVal.under, VVal.underL, *]) ?_
  exact ⟨rfl, rfl⟩
end Go.Proofs.YteocbhgdmpdklaaDoor.VT
