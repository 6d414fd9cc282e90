/- MatchLeast: the law -/
import Derived.Test.YtpekleeidllllaaDoorS11
import Derived.Test.YtpekleeidllllaaDoorR1
set_option autoImplicit false
set_option linter.unusedVariables false
set_option linter.unusedSimpArgs false
set_option maxHeartbeats 4000000
set_option maxRecDepth 100000
namespace Go.Proofs.YtpekleeidllllaaDoor.VT
open Go Go.V Go.RowKit

abbrev uL2n52 {a0 a1 a2 a3 a4 a5 a6 a7 a8 a9 a10 a11 a12 a13 a14 a15 a16 a17 a18 a19 a20 a21 a22 a23 a24 a25 a26 a27 a28 a29 a30 a31 a32 a33 a34 a35 a36 a37 a38 a39 a40 a41 a42 a43 a44 a45 a46 a47 a48 a49 a50 a51 : VVal} : VEnv := a0 :: a1 :: a2 :: a3 :: a4 :: a5 :: a6 :: a7 :: a8 :: a9 :: a10 :: a11 :: a12 :: a13 :: a14 :: a15 :: a16 :: a17 :: a18 :: a19 :: a20 :: a21 :: a22 :: a23 :: a24 :: a25 :: a26 :: a27 :: a28 :: a29 :: a30 :: a31 :: a32 :: a33 :: a34 :: a35 :: a36 :: a37 :: a38 :: a39 :: a40 :: a41 :: a42 :: a43 :: a44 :: a45 :: a46 :: a47 :: a48 :: a49 :: a50 :: a51 :: []

def leB (r : List (BitVec 64)) : Bool := decide (r.length ≤ 12 ∧ fullB r 0#64 = true)
def leA (r : List (BitVec 64)) : List Nat := if r.length ≤ 12 ∧ fullB r 0#64 = true then lst r 0#64 else []
theorem leV_t {r : List (BitVec 64)} : leV r = .tuple [fzN (leA r), .bool (leB r)] := by
  unfold leV leA leB
  by_cases h : r.length ≤ 12 ∧ fullB r 0#64 = true
  · rw [if_pos h, if_pos h, decide_eq_true h]
  · rw [if_neg h, if_neg h, decide_eq_false h]
theorem fzN_eq {us : List Nat} : fzN us = fzI (us.map fun u : Nat => (u : Int)) := by
  unfold fzI; rw [List.map_map, List.length_map]; rfl
theorem leA_len {r : List (BitVec 64)} : (leA r).length ≤ 12 := by
  unfold leA
  split
  · rename_i h
    have := usL_ok h.2
    unfold usL at this; rw [if_pos h.2] at this
    rw [this.len]; exact h.1
  · simp
theorem Ints_N {x : SW} (H : VHeap) (us : List Nat) (h : us.length ≤ 12) : F (psys x) 12 [fzN us, fzN us] H fun v G => v = .bool true ∧ G = H := by
  have := Ints_spec (x := x) H (us.map fun u : Nat => (u : Int)) (us.map fun u : Nat => (u : Int)) (by rw [List.length_map]; omega)
  rw [← fzN_eq, decide_eq_true rfl] at this; exact this

theorem MatchLeast_walk {x : SW} (H : VHeap) (rows : List (BitVec 64)) (i : Int) : F (psys x) 3 [fzW rows, iI i] H fun v G => v = .bool true ∧ G = H := by
  have h20 : (rows.take 20).length ≤ 20 := by rw [List.length_take]; omega
  refine F_body Tryd.func3 rfl uL2n52 rfl ?_
  refine B_seq ?_
  refine B_region ?_
  refine L_op (env' := uL2n52) rfl rfl (v_const (VVal.bool false) (.inr rfl) rfl) rfl ?_
  refine L_nil ?_
  refine K_seq ?_
  refine B_seq ?_
  refine B_region ?_
  refine L_op (env' := uL2n52) rfl rfl (v_move (.inl rfl) rfl) rfl ?_
  refine L_call rfl rfl rfl (by exact few_spec _ _) ?_
  rintro _ _ ⟨rfl, rfl⟩
  refine L_env (env' := uL2n52) rfl ?_
  refine L_call rfl rfl rfl (by exact Least_spec _ (rows.take 20) (by omega)) ?_
  rintro v _ ⟨hv, rfl⟩; obtain rfl : v = .tuple [fzN (leA (rows.take 20)), .bool (leB (rows.take 20))] := hv.trans leV_t
  refine L_env (env' := uL2n52) rfl ?_
  refine L_op (env' := uL2n52) rfl rfl (v_move (.inl rfl) rfl) rfl ?_
  refine L_op (env' := uL2n52) rfl rfl (rfl) rfl ?_
  refine L_op (env' := uL2n52) rfl rfl (rfl) rfl ?_
  refine L_op (env' := uL2n52) rfl rfl (v_move (.inr rfl) rfl) rfl ?_
  refine L_op (env' := uL2n52) rfl rfl (v_move (.inr rfl) rfl) rfl ?_
  refine L_nil ?_
  refine K_seq ?_
  refine B_seq ?_
  refine B_region ?_
  refine L_op (env' := uL2n52) rfl rfl (v_move (.inl rfl) rfl) rfl ?_
  refine L_call rfl rfl rfl (by exact few_spec _ _) ?_
  rintro _ _ ⟨rfl, rfl⟩
  refine L_env (env' := uL2n52) rfl ?_
  refine L_call rfl rfl rfl (by exact refLeast_spec _ (rows.take 20) (by omega)) ?_
  rintro v _ ⟨hv, rfl⟩; obtain rfl : v = .tuple [fzN (leA (rows.take 20)), .bool (leB (rows.take 20))] := hv.trans leV_t
  refine L_env (env' := uL2n52) rfl ?_
  refine L_op (env' := uL2n52) rfl rfl (v_move (.inl rfl) rfl) rfl ?_
  refine L_op (env' := uL2n52) rfl rfl (rfl) rfl ?_
  refine L_op (env' := uL2n52) rfl rfl (rfl) rfl ?_
  refine L_op (env' := uL2n52) rfl rfl (v_move (.inr rfl) rfl) rfl ?_
  refine L_op (env' := uL2n52) rfl rfl (v_move (.inr rfl) rfl) rfl ?_
  refine L_nil ?_
  refine K_seq ?_
  refine B_seq ?_
  refine B_region ?_
  refine L_op (env' := uL2n52) rfl rfl (v_move (.inl rfl) rfl) rfl ?_
  refine L_op (env' := uL2n52) rfl rfl (v_move (.inl rfl) rfl) rfl ?_
  refine L_op (env' := uL2n52) rfl rfl (v_is true rfl (by simp)) rfl ?_
  refine L_op (env' := uL2n52) rfl rfl (v_move (.inl rfl) rfl) rfl ?_
  refine L_op (env' := uL2n52) rfl rfl (v_move (.inl rfl) rfl) rfl ?_
  refine L_op (env' := uL2n52) rfl rfl (v_move (.inl rfl) rfl) rfl ?_
  refine L_call rfl rfl rfl (by exact Ints_N _ _ leA_len) ?_
  rintro _ _ ⟨rfl, rfl⟩
  refine L_env (env' := uL2n52) rfl ?_
  refine L_op (env' := uL2n52) rfl rfl (v_pickT rfl rfl rfl) rfl ?_
  refine L_op (env' := uL2n52) rfl rfl (v_move (.inl rfl) rfl) rfl ?_
  refine L_op (env' := uL2n52) rfl rfl (v_move (.inl rfl) rfl) rfl ?_
  refine L_call rfl rfl rfl (by exact few_spec _ _) ?_
  rintro _ _ ⟨rfl, rfl⟩
  refine L_env (env' := uL2n52) rfl ?_
  refine L_call rfl rfl rfl (by exact mSize_spec _ (rows.take 20) (by omega)) ?_
  rintro _ _ ⟨rfl, rfl⟩
  refine L_env (env' := uL2n52) rfl ?_
  refine L_op (env' := uL2n52) rfl rfl (v_move (.inl rfl) rfl) rfl ?_
  refine L_call rfl rfl rfl (by exact few_spec _ _) ?_
  rintro _ _ ⟨rfl, rfl⟩
  refine L_env (env' := uL2n52) rfl ?_
  refine L_call rfl rfl rfl (by exact refSize_spec _ (rows.take 20) (by omega)) ?_
  rintro _ _ ⟨rfl, rfl⟩
  refine L_env (env' := uL2n52) rfl ?_
  refine L_op (env' := uL2n52) rfl rfl (v_is true rfl (by simp)) rfl ?_
  refine L_op (env' := uL2n52) rfl rfl (v_pickT rfl rfl rfl) rfl ?_
  refine L_op (env' := uL2n52) rfl rfl (v_move (.inl rfl) rfl) rfl ?_
  refine L_op (env' := uL2n52) rfl rfl (v_move (.inl rfl) rfl) rfl ?_
  refine L_call rfl rfl rfl (by exact few_spec _ _) ?_
  rintro _ _ ⟨rfl, rfl⟩
  refine L_env (env' := uL2n52) rfl ?_
  refine L_op (env' := uL2n52) rfl rfl (v_move (.inl rfl) rfl) rfl ?_
  refine L_call rfl rfl rfl (by exact Free_spec _ (rows.take 20) i (by omega)) ?_
  rintro _ _ ⟨rfl, rfl⟩
  refine L_env (env' := uL2n52) rfl ?_
  refine L_op (env' := uL2n52) rfl rfl (v_move (.inl rfl) rfl) rfl ?_
  refine L_call rfl rfl rfl (by exact few_spec _ _) ?_
  rintro _ _ ⟨rfl, rfl⟩
  refine L_env (env' := uL2n52) rfl ?_
  refine L_op (env' := uL2n52) rfl rfl (v_move (.inl rfl) rfl) rfl ?_
  refine L_call rfl rfl rfl (by exact refFree_spec _ (rows.take 20) i (by omega)) ?_
  rintro _ _ ⟨rfl, rfl⟩
  refine L_env (env' := uL2n52) rfl ?_
  refine L_op (env' := uL2n52) rfl rfl (v_is true rfl (by simp)) rfl ?_
  refine L_op (env' := uL2n52) rfl rfl (v_pickT rfl rfl rfl) rfl ?_
  refine L_op (env' := uL2n52) rfl rfl (v_move (.inl rfl) rfl) rfl ?_
  refine L_call rfl rfl rfl (by exact mWakes_spec _) ?_
  rintro _ _ ⟨rfl, rfl⟩
  refine L_env (env' := uL2n52) rfl ?_
  refine L_op (env' := uL2n52) rfl rfl (v_pickT rfl rfl rfl) rfl ?_
  refine L_op (env' := uL2n52) rfl rfl (v_move (.inr rfl) rfl) rfl ?_
  refine L_nil ?_
  refine K_seq ?_
  refine B_ret ?_
  refine E_app (.inr rfl) (vres_tmp rfl rfl) (by first | exact BaseOk.refl _ | exact BaseOk.set (BaseOk.refl _) _ rfl) (by first | rfl | simp [VVal.under, VVal.underL, *]) ?_
  exact ⟨rfl, rfl⟩

theorem MatchLeast_law {x : SW} (rows : List (BitVec 64)) (i : Int) : F (psys x) 3 [fzW rows, iI i] [] fun v G => v = .bool true := (MatchLeast_walk [] rows i).mono fun v G h => h.1
end Go.Proofs.YtpekleeidllllaaDoor.VT
