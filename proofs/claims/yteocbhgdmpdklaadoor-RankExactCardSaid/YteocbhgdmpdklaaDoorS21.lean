/- ranks: walks -/
import Derived.Test.YteocbhgdmpdklaaDoorS30
import Derived.Test.YteocbhgdmpdklaaDoorP8
set_option autoImplicit false
set_option linter.unusedVariables false
set_option linter.unusedSimpArgs false
set_option maxHeartbeats 4000000
set_option maxRecDepth 100000
namespace Go.Proofs.YteocbhgdmpdklaaDoor.VT
open Go Go.V Go.RowKit

abbrev uS21n3 {a0 a1 a2 : VVal} : VEnv := a0 :: a1 :: a2 :: []
abbrev uS21n6 {a0 a1 a2 a3 a4 a5 : VVal} : VEnv := a0 :: a1 :: a2 :: a3 :: a4 :: a5 :: []
abbrev uS21n9 {a0 a1 a2 a3 a4 a5 a6 a7 a8 : VVal} : VEnv := a0 :: a1 :: a2 :: a3 :: a4 :: a5 :: a6 :: a7 :: a8 :: []
abbrev uS21n12 {a0 a1 a2 a3 a4 a5 a6 a7 a8 a9 a10 a11 : VVal} : VEnv := a0 :: a1 :: a2 :: a3 :: a4 :: a5 :: a6 :: a7 :: a8 :: a9 :: a10 :: a11 :: []
abbrev uS21n20 {a0 a1 a2 a3 a4 a5 a6 a7 a8 a9 a10 a11 a12 a13 a14 a15 a16 a17 a18 a19 : VVal} : VEnv := a0 :: a1 :: a2 :: a3 :: a4 :: a5 :: a6 :: a7 :: a8 :: a9 :: a10 :: a11 :: a12 :: a13 :: a14 :: a15 :: a16 :: a17 :: a18 :: a19 :: []
abbrev uS21n30 {a0 a1 a2 a3 a4 a5 a6 a7 a8 a9 a10 a11 a12 a13 a14 a15 a16 a17 a18 a19 a20 a21 a22 a23 a24 a25 a26 a27 a28 a29 : VVal} : VEnv := a0 :: a1 :: a2 :: a3 :: a4 :: a5 :: a6 :: a7 :: a8 :: a9 :: a10 :: a11 :: a12 :: a13 :: a14 :: a15 :: a16 :: a17 :: a18 :: a19 :: a20 :: a21 :: a22 :: a23 :: a24 :: a25 :: a26 :: a27 :: a28 :: a29 :: []

/-- the links' cells -/
abbrev rkB (J : List (BitVec 64)) : VBlk := .cells (J.map iW) true
theorem rk_under {J : List (BitVec 64)} {n : Nat} : (rkB J).under n = true := by
  show VVal.underL n (J.map iW) = true
  induction J with
  | nil => rfl
  | cons w l ih => exact ih
theorem set_keep {L : VHeap} {p : Nat} {k : VBlk} (h : L[p]? = some k) : L = L.set p k := by
  apply List.ext_getElem?
  intro i
  rw [List.getElem?_set]
  by_cases e : p = i
  · subst e; rw [h]; rw [if_pos rfl, if_pos (List.getElem?_eq_some_iff.1 h).1]
  · rw [if_neg e]
def hasB (J : List (BitVec 64)) (s j : Int) : Bool := decide (0 ≤ s ∧ s < 64) && (decide (0 ≤ j ∧ j < 64) && lk J s.toNat j.toNat)
def blw (J : List (BitVec 64)) (a : Int) : BitVec 64 := if 0 ≤ a ∧ a < 64 then spr J (1#64 <<< a.toNat) else 0#64

theorem rkNew_spec {x : SW} (H : VHeap) : F (psys x) 27 [] H fun v G => v = .ptr (some (H.length, 0)) ∧ G = H ++ [rkB rk0] := by
  refine F_body Tryd.func27 rfl uS21n3 rfl ?_
  refine B_seq ?_
  refine B_region ?_
  refine L_op (env' := uS21n3) rfl rfl (v_const (VVal.ptr none) (.inr rfl) rfl) rfl ?_
  refine L_nil ?_
  refine K_seq ?_
  refine B_seq ?_
  refine B_region ?_
  refine L_op (env' := uS21n3) rfl rfl (rfl) rfl ?_
  refine L_op (env' := uS21n3) rfl rfl (v_boxT rfl rfl rfl) rfl ?_
  refine L_op (env' := uS21n3) rfl rfl (v_move (.inr rfl) rfl) rfl ?_
  refine L_nil ?_
  refine K_seq ?_
  refine B_ret ?_
  refine E_gh (.inr rfl) (vres_tmp rfl rfl) (Gh.packPtr (j := 0) (k := rkB rk0) (BaseOk.refl _) rfl rk_under) ?_
  exact ⟨rfl, rfl⟩

theorem rkIs_spec {x : SW} (H : VHeap) (a : Int) : F (psys x) 67 [iI a] H fun v G => v = .bool (decide (0 ≤ a ∧ a < 64)) ∧ G = H := by
  refine F_body Tryd.func67 rfl uS21n9 rfl ?_
  refine B_seq ?_
  refine B_region ?_
  refine L_op (env' := uS21n9) rfl rfl (v_const (VVal.bool false) (.inr rfl) rfl) rfl ?_
  refine L_nil ?_
  refine K_seq ?_
  refine B_seq ?_
  refine B_region ?_
  refine L_op (env' := uS21n9) rfl rfl (v_move (.inl rfl) rfl) rfl ?_
  refine L_op (env' := uS21n9) rfl rfl (rfl) rfl ?_
  refine L_op (env' := uS21n9) rfl rfl (v_move (.inl rfl) rfl) rfl ?_
  refine L_split 5 (env1 := uS21n9) (env2 := uS21n9) rfl rfl rfl (fun hg1 => ?_) (fun hg1 => ?_)
  · try simp only [decide_eq_true_eq, decide_eq_false_iff_not, Bool.not_eq_true', Bool.not_eq_false', bne_iff_ne, beq_iff_eq, Bool.and_eq_true, Bool.or_eq_true, Bool.not_eq_true, ge_iff_le, gt_iff_lt, Int.not_le, Int.not_lt, beq_eq_false_iff_ne, bne_eq_false_iff_eq, ne_eq, Decidable.not_not, wd_zero, wd_one, wd_inj] at hg1
    refine L_op (env' := uS21n9) rfl rfl (v_move (.inl rfl) rfl) rfl ?_
    refine L_op (env' := uS21n9) rfl rfl (rfl) rfl ?_
    refine L_op (env' := uS21n9) rfl rfl (v_pickT rfl rfl rfl) rfl ?_
    refine L_op (env' := uS21n9) rfl rfl (v_move (.inr rfl) rfl) rfl ?_
    refine L_nil ?_
    refine K_seq ?_
    refine B_ret ?_
    refine E_app (.inr rfl) (vres_tmp rfl rfl) (by first | exact BaseOk.refl _ | exact BaseOk.set (BaseOk.refl _) _ rfl) (by first | rfl | simp [VVal.under, VVal.underL, *]) ?_
    exact ⟨by simp [*]; try omega, rfl⟩
  · try simp only [decide_eq_true_eq, decide_eq_false_iff_not, Bool.not_eq_true', Bool.not_eq_false', bne_iff_ne, beq_iff_eq, Bool.and_eq_true, Bool.or_eq_true, Bool.not_eq_true, ge_iff_le, gt_iff_lt, Int.not_le, Int.not_lt, beq_eq_false_iff_ne, bne_eq_false_iff_eq, ne_eq, Decidable.not_not, wd_zero, wd_one, wd_inj] at hg1
    refine L_off (env' := uS21n9) rfl rfl ?_
    refine L_off (env' := uS21n9) rfl rfl ?_
    refine L_op (env' := uS21n9) rfl rfl (v_pickFC (VVal.bool false) rfl rfl rfl) rfl ?_
    refine L_op (env' := uS21n9) rfl rfl (v_move (.inr rfl) rfl) rfl ?_
    refine L_nil ?_
    refine K_seq ?_
    refine B_ret ?_
    refine E_app (.inr rfl) (vres_tmp rfl rfl) (by first | exact BaseOk.refl _ | exact BaseOk.set (BaseOk.refl _) _ rfl) (by first | rfl | simp [VVal.under, VVal.underL, *]) ?_
    exact ⟨by simp [*]; try omega, rfl⟩

theorem places_spec {x : SW} (H : VHeap) (w : BitVec 64) : F (psys x) 68 [iW w] H fun v G => v = .agg [iW w] ∧ G = H := by
  refine F_body Tryd.func68 rfl uS21n6 rfl ?_
  refine B_seq ?_
  refine B_region ?_
  refine L_op (env' := uS21n6) rfl rfl (v_alloc rfl rfl) rfl ?_
  refine L_nil ?_
  refine K_seq ?_
  refine B_seq ?_
  refine B_region ?_
  refine L_op (env' := uS21n6) rfl rfl (rfl) rfl ?_
  refine L_op (env' := uS21n6) rfl rfl (v_move (.inl rfl) rfl) rfl ?_
  refine L_call rfl rfl rfl (by exact Of_spec _ 0#64 _) ?_
  rintro _ _ ⟨rfl, rfl⟩
  refine L_env (env' := uS21n6) rfl ?_
  refine L_op (env' := uS21n6) rfl rfl (v_storeT rfl rfl rfl rfl rfl rfl rfl (by first | exact get_app rfl rfl | exact get_out (by assumption) | assumption | (simp [*]; done)) (by first | exact Nat.le_of_ble_eq_true rfl | (simp only [List.length_map, List.length_cons, List.length_nil]; omega) | omega | (simp; done) | (simp; omega)) (by first | exact set_app rfl | exact set_out (lt_of_get (by assumption)) | rfl)) rfl ?_
  refine L_nil ?_
  refine K_seq ?_
  refine B_ret ?_
  refine E_app (.inr rfl) (vres_cellA rfl rfl rfl rfl (by first | exact get_app rfl rfl | exact get_out (by assumption) | assumption | (simp [*]; done)) (by first | rfl | assumption | exact fget (α := BitVec 64) 0 (by omega) | exact fget (α := Int) 0 (by omega) | exact fget0 (α := BitVec 64) 0 (by omega) | exact fget0 (α := Int) 0 (by omega) | exact fget (α := Bool) false (by omega) | exact fget0 (α := Bool) false (by omega) | (simp [*]; done))) (by first | exact BaseOk.refl _ | exact BaseOk.set (BaseOk.refl _) _ rfl) (by first | rfl | simp [VVal.under, VVal.underL, *]) ?_
  exact ⟨rfl, rfl⟩

theorem rkHas_spec {x : SW} (H : VHeap) (p : Nat) (J : List (BitVec 64)) (hp : H[p]? = some (rkB J)) (hJ : J.length = 64) (s j : Int) : F (psys x) 33 [.ptr (some (p, 0)), iI s, iI j] H fun v G => v = .bool (hasB J s j) ∧ G = H := by
  refine F_body Tryd.func33 rfl uS21n20 rfl ?_
  refine B_seq ?_
  refine B_region ?_
  refine L_op (env' := uS21n20) rfl rfl (v_const (VVal.bool false) (.inr rfl) rfl) rfl ?_
  refine L_nil ?_
  refine K_seq ?_
  refine B_seq ?_
  refine B_region ?_
  refine L_op (env' := uS21n20) rfl rfl (v_move (.inl rfl) rfl) rfl ?_
  refine L_call rfl rfl rfl (by exact rkIs_spec _ _) ?_
  rintro _ _ ⟨rfl, rfl⟩
  refine L_env (env' := uS21n20) rfl ?_
  refine L_op (env' := uS21n20) rfl rfl (v_move (.inl rfl) rfl) rfl ?_
  refine L_split 9 (env1 := uS21n20) (env2 := uS21n20) rfl rfl rfl (fun hg1 => ?_) (fun hg1 => ?_)
  · try simp only [decide_eq_true_eq, decide_eq_false_iff_not, Bool.not_eq_true', Bool.not_eq_false', bne_iff_ne, beq_iff_eq, Bool.and_eq_true, Bool.or_eq_true, Bool.not_eq_true, ge_iff_le, gt_iff_lt, Int.not_le, Int.not_lt, beq_eq_false_iff_ne, bne_eq_false_iff_eq, ne_eq, Decidable.not_not, wd_zero, wd_one, wd_inj] at hg1
    refine L_op (env' := uS21n20) rfl rfl (v_move (.inl rfl) rfl) rfl ?_
    refine L_op (env' := uS21n20) rfl rfl (v_move (.inl rfl) rfl) rfl ?_
    refine L_op (env' := uS21n20) rfl rfl (rfl) rfl ?_
    refine L_op (env' := uS21n20) rfl rfl (rfl) rfl ?_
    refine L_op (env' := uS21n20) rfl rfl (by first | exact v_idxFA rfl rfl rfl rfl rfl rfl (by first | assumption | omega | (simp [*]; done) | (simp at *; omega)) | exact v_idxA rfl rfl rfl rfl rfl rfl (by first | assumption | omega | (simp [*]; done) | (simp at *; omega))) rfl ?_
    refine L_op (env' := uS21n20) rfl rfl (by first | exact v_loadF rfl rfl rfl rfl (by first | rfl | assumption | exact fget (α := BitVec 64) 0 (by omega) | exact fget (α := Int) 0 (by omega) | exact fget0 (α := BitVec 64) 0 (by omega) | exact fget0 (α := Int) 0 (by omega) | exact fget (α := Bool) false (by omega) | exact fget0 (α := Bool) false (by omega) | (simp [*]; done)) | exact v_load rfl rfl rfl rfl (by first | exact get_app rfl rfl | exact get_out (by assumption) | assumption | (simp [*]; done)) (by first | rfl | assumption | exact fget (α := BitVec 64) 0 (by omega) | exact fget (α := Int) 0 (by omega) | exact fget0 (α := BitVec 64) 0 (by omega) | exact fget0 (α := Int) 0 (by omega) | exact fget (α := Bool) false (by omega) | exact fget0 (α := Bool) false (by omega) | (simp [*]; done))) rfl ?_
    refine L_call rfl rfl rfl (by exact places_spec _ _) ?_
    rintro _ _ ⟨rfl, rfl⟩
    refine L_env (env' := uS21n20) rfl ?_
    refine L_op (env' := uS21n20) rfl rfl (v_move (.inl rfl) rfl) rfl ?_
    refine L_call rfl rfl rfl (by exact Has_spec _ _ _) ?_
    rintro _ _ ⟨rfl, rfl⟩
    refine L_env (env' := uS21n20) rfl ?_
    refine L_op (env' := uS21n20) rfl rfl (v_pickT rfl rfl rfl) rfl ?_
    refine L_op (env' := uS21n20) rfl rfl (v_move (.inr rfl) rfl) rfl ?_
    refine L_nil ?_
    refine K_seq ?_
    refine B_ret ?_
    refine E_app (.inr rfl) (vres_tmp rfl rfl) (by first | exact BaseOk.refl _ | exact BaseOk.set (BaseOk.refl _) _ rfl) (by first | rfl | simp [VVal.under, VVal.underL, *]) ?_
    first
      | exact ⟨by rw [hasB, decide_eq_true hg1, Bool.true_and]; rfl, rfl⟩
      | exact ⟨by rw [hasB, decide_eq_false (by assumption), Bool.false_and], rfl⟩
  · try simp only [decide_eq_true_eq, decide_eq_false_iff_not, Bool.not_eq_true', Bool.not_eq_false', bne_iff_ne, beq_iff_eq, Bool.and_eq_true, Bool.or_eq_true, Bool.not_eq_true, ge_iff_le, gt_iff_lt, Int.not_le, Int.not_lt, beq_eq_false_iff_ne, bne_eq_false_iff_eq, ne_eq, Decidable.not_not, wd_zero, wd_one, wd_inj] at hg1
    refine L_off (env' := uS21n20) rfl rfl ?_
    refine L_off (env' := uS21n20) rfl rfl ?_
    refine L_off (env' := uS21n20) rfl rfl ?_
    refine L_off (env' := uS21n20) rfl rfl ?_
    refine L_off (env' := uS21n20) rfl rfl ?_
    refine L_off (env' := uS21n20) rfl rfl ?_
    refine L_off (env' := uS21n20) rfl rfl ?_
    refine L_off (env' := uS21n20) rfl rfl ?_
    refine L_off (env' := uS21n20) rfl rfl ?_
    refine L_op (env' := uS21n20) rfl rfl (v_pickFC (VVal.bool false) rfl rfl rfl) rfl ?_
    refine L_op (env' := uS21n20) rfl rfl (v_move (.inr rfl) rfl) rfl ?_
    refine L_nil ?_
    refine K_seq ?_
    refine B_ret ?_
    refine E_app (.inr rfl) (vres_tmp rfl rfl) (by first | exact BaseOk.refl _ | exact BaseOk.set (BaseOk.refl _) _ rfl) (by first | rfl | simp [VVal.under, VVal.underL, *]) ?_
    first
      | exact ⟨by rw [hasB, decide_eq_true hg1, Bool.true_and]; rfl, rfl⟩
      | exact ⟨by rw [hasB, decide_eq_false (by assumption), Bool.false_and], rfl⟩

theorem Spread_spec {x : SW} (H : VHeap) (p : Nat) (J : List (BitVec 64)) (hp : H[p]? = some (rkB J)) (hJ : J.length = 64) (s : BitVec 64) : F (psys x) 43 [.ptr (some (p, 0)), iW s] H fun v G => v = iW (spr J s) ∧ G = H := by
  have hpl := lt_of_get hp
  refine F_body Tryd.func43 rfl uS21n30 rfl ?_
  refine B_seq ?_
  refine B_region ?_
  refine L_op (env' := uS21n30) rfl rfl (v_boxT rfl rfl rfl) rfl ?_
  refine L_op (env' := uS21n30) rfl rfl (v_const (VVal.int .u64 0) (.inr rfl) rfl) rfl ?_
  refine L_nil ?_
  refine K_seq ?_
  refine B_seq ?_
  refine B_seq ?_
  refine B_region ?_
  refine L_op (env' := uS21n30) rfl rfl (v_move (.inl rfl) rfl) rfl ?_
  refine L_op (env' := uS21n30) rfl rfl (v_move (.inr rfl) rfl) rfl ?_
  refine L_nil ?_
  refine K_seq ?_
  refine B_block ?_
  refine B_clear [true,false,false,true,true,false,true,true,true,true,true,true,true,true,true,true,true,true,true,true,true,true,true,true,true,true,true,true,true,true] (env' := uS21n30) rfl ?_
  refine B_loopE (fun (⟨t, f⟩ : BitVec 64 × BitVec 64) => sprM t f) (fun (⟨t, f⟩ : BitVec 64 × BitVec 64) => [(1, iW t), (5, iW f)]) (fun (⟨t, f⟩ : BitVec 64 × BitVec 64) G => (SprI J s t f ∧ subW f t) ∧ G = H ++ [.cells [.ptr (some (p, 0))] true]) ⟨s, s⟩ rfl ?_ ?_
  · refine ⟨?_, rfl⟩
    exact ⟨SprI.init, fun _ h => h⟩
  rintro ⟨t, f⟩ _ ⟨⟨hS, hf⟩, rfl⟩
  refine B_env (env' := uS21n30) rfl ?_
  refine B_seq ?_
  refine B_seq ?_
  refine B_region ?_
  refine L_op (env' := uS21n30) rfl rfl (v_move (.inl rfl) rfl) rfl ?_
  refine L_op (env' := uS21n30) rfl rfl (rfl) rfl ?_
  refine L_nil ?_
  refine K_seq ?_
  refine B_cond _ rfl (fun hc1 => ?_) (fun hc1 => ?_)
  · try simp only [decide_eq_true_eq, decide_eq_false_iff_not, Bool.not_eq_true', Bool.not_eq_false', bne_iff_ne, beq_iff_eq, Bool.and_eq_true, Bool.or_eq_true, Bool.not_eq_true, ge_iff_le, gt_iff_lt, Int.not_le, Int.not_lt, beq_eq_false_iff_ne, bne_eq_false_iff_eq, ne_eq, Decidable.not_not, wd_zero, wd_one, wd_inj] at hc1
    refine B_skip ?_
    refine K_seq ?_
    refine B_block ?_
    refine B_seq ?_
    refine B_region ?_
    refine L_op (env' := uS21n30) rfl rfl (v_alloc rfl rfl) rfl ?_
    refine L_op (env' := uS21n30) rfl rfl (v_storeC (VVal.int .u64 0) rfl rfl rfl rfl rfl rfl rfl (by first | exact get_app rfl rfl | exact get_out (by assumption) | assumption | (simp [*]; done)) (by first | exact Nat.le_of_ble_eq_true rfl | (simp only [List.length_map, List.length_cons, List.length_nil]; omega) | omega | (simp; done) | (simp; omega)) (by first | exact set_app rfl | exact set_out (lt_of_get (by assumption)) | rfl)) rfl ?_
    refine L_nil ?_
    refine K_seq ?_
    refine B_seq ?_
    refine B_seq ?_
    refine B_region ?_
    refine L_op (env' := uS21n30) rfl rfl (v_move (.inl rfl) rfl) rfl ?_
    refine L_call rfl rfl rfl (by exact places_spec _ _) ?_
    rintro _ _ ⟨rfl, rfl⟩
    refine L_env (env' := uS21n30) rfl ?_
    refine L_call rfl rfl rfl (by exact All_spec _ _) ?_
    rintro _ _ ⟨rfl, rfl⟩
    refine L_env (env' := uS21n30) rfl ?_
    refine L_nil ?_
    refine K_seq ?_
    refine B_block ?_
    refine B_clear [true,false,false,true,true,true,false,true,true,true,true,true,true,false,true,true,true,true,true,true,true,true,true,true,true,true,true,true,true,true] (env' := uS21n30) rfl ?_
    refine B_rangeM cI (pl f 0) (fun l0 h => by cases h) rfl (fun l G R h => All1_spec _ _ _ _ h) (σ := BitVec 64) (fun k s => H ++ [.cells [.ptr (some (p, 0))] true, .cells [iW s] true, k]) 0#64 (fun k => by rw [List.append_assoc]; rfl) (fun k s => by rw [List.length_append]; exact get_app rfl rfl) (fun k k1 s => by rw [List.length_append]; exact set_app rfl) (fun pre s => s = pre.foldl (fun n a => n ||| J.getD a 0) 0#64) ?_ (fun j pre c s => False) rfl ?_ ?_ ?_
    · rfl
    · intro pre c post s hx hI kr kb hkr hkb
      try dsimp only at hI ⊢
      subst hI
      have hc : c ∈ pl f 0 := by rw [hx]; simp
      obtain ⟨_, hc64, hcb⟩ := mem_pl.1 hc
      refine B_env (env' := uS21n30) rfl ?_
      refine B_region ?_
      refine L_op (env' := uS21n30) rfl rfl (v_move (.inr rfl) rfl) rfl ?_
      refine L_nil ?_
      refine ⟨rfl, (pre.foldl (fun n a => n ||| J.getD a 0) 0#64), rfl, ?_⟩
      try dsimp only
      refine B_block ?_
      refine B_draw [0, 1, 2, 3, 4, 5, 6, 7, 8] #[0, 0, 0, 2, 10, 30, 62, 127, 255] (by kernel_rfl) (by kernel_rfl) (by kernel_rfl) ?_
      refine O_op (env' := uS21n30) (c := .look) rfl rfl rfl (by first | exact v_loadF rfl rfl rfl rfl (by first | rfl | assumption | exact fget (α := BitVec 64) 0 (by omega) | exact fget (α := Int) 0 (by omega) | exact fget0 (α := BitVec 64) 0 (by omega) | exact fget0 (α := Int) 0 (by omega) | exact fget (α := Bool) false (by omega) | exact fget0 (α := Bool) false (by omega) | (simp [*]; done)) | exact v_load rfl rfl rfl rfl (by first | exact get_app rfl rfl | exact get_out (by assumption) | assumption | (simp [*]; done)) (by first | rfl | assumption | exact fget (α := BitVec 64) 0 (by omega) | exact fget (α := Int) 0 (by omega) | exact fget0 (α := BitVec 64) 0 (by omega) | exact fget0 (α := Int) 0 (by omega) | exact fget (α := Bool) false (by omega) | exact fget0 (α := Bool) false (by omega) | (simp [*]; done))) rfl rfl rfl ?_
      refine O_op (env' := uS21n30) (c := .look) rfl rfl rfl (by first | exact v_loadF rfl rfl rfl rfl (by first | rfl | assumption | exact fget (α := BitVec 64) 0 (by omega) | exact fget (α := Int) 0 (by omega) | exact fget0 (α := BitVec 64) 0 (by omega) | exact fget0 (α := Int) 0 (by omega) | exact fget (α := Bool) false (by omega) | exact fget0 (α := Bool) false (by omega) | (simp [*]; done)) | exact v_load rfl rfl rfl rfl (by first | exact get_app rfl rfl | exact get_out (by assumption) | assumption | (simp [*]; done)) (by first | rfl | assumption | exact fget (α := BitVec 64) 0 (by omega) | exact fget (α := Int) 0 (by omega) | exact fget0 (α := BitVec 64) 0 (by omega) | exact fget0 (α := Int) 0 (by omega) | exact fget (α := Bool) false (by omega) | exact fget0 (α := Bool) false (by omega) | (simp [*]; done))) rfl rfl rfl ?_
      refine O_op (env' := uS21n30) (c := .calm) rfl rfl rfl (v_move (.inl rfl) rfl) rfl rfl rfl ?_
      refine O_op (env' := uS21n30) (c := .calm) rfl rfl rfl (rfl) rfl rfl rfl ?_
      refine O_op (env' := uS21n30) (c := .calm) rfl rfl rfl (rfl) rfl rfl rfl ?_
      refine O_op (env' := uS21n30) (c := .calm) rfl rfl rfl (by first | exact v_idxFA rfl rfl rfl rfl rfl rfl (by first | assumption | omega | (simp [*]; done) | (simp at *; omega)) | exact v_idxA rfl rfl rfl rfl rfl rfl (by first | assumption | omega | (simp [*]; done) | (simp at *; omega))) rfl rfl rfl ?_
      refine O_op (env' := uS21n30) (c := .look) rfl rfl rfl (by first | exact v_loadF rfl rfl rfl rfl (by first | rfl | assumption | exact fget (α := BitVec 64) 0 (by omega) | exact fget (α := Int) 0 (by omega) | exact fget0 (α := BitVec 64) 0 (by omega) | exact fget0 (α := Int) 0 (by omega) | exact fget (α := Bool) false (by omega) | exact fget0 (α := Bool) false (by omega) | (simp [*]; done)) | exact v_load rfl rfl rfl rfl (by first | exact get_app rfl rfl | exact get_out (by assumption) | assumption | (simp [*]; done)) (by first | rfl | assumption | exact fget (α := BitVec 64) 0 (by omega) | exact fget (α := Int) 0 (by omega) | exact fget0 (α := BitVec 64) 0 (by omega) | exact fget0 (α := Int) 0 (by omega) | exact fget (α := Bool) false (by omega) | exact fget0 (α := Bool) false (by omega) | (simp [*]; done))) rfl rfl rfl ?_
      refine O_op (env' := uS21n30) (c := .calm) rfl rfl rfl (v_orW rfl rfl rfl) rfl rfl rfl ?_
      refine O_op (env' := uS21n30) (c := .turn) rfl rfl rfl (v_storeT rfl rfl rfl rfl rfl rfl rfl (by first | exact get_app rfl rfl | exact get_out (by assumption) | assumption | (simp [*]; done)) (by first | exact Nat.le_of_ble_eq_true rfl | (simp only [List.length_map, List.length_cons, List.length_nil]; omega) | omega | (simp; done) | (simp; omega)) (by first | exact set_app rfl | exact set_out (lt_of_get (by assumption)) | rfl)) rfl rfl rfl ?_
      refine O_nil [] (by kernel_rfl) (trivial) ?_
      refine K_blk ?_
      refine ⟨_, rfl, .inl ⟨rfl, ?_⟩⟩
      rw [List.foldl_append]; rfl
    · intro s k hk hI
      try dsimp only at hI ⊢
      have hI : s = nxW J f := hI
      subst hI
      refine K_blk ?_
      refine K_seq ?_
      refine B_seq ?_
      refine B_region ?_
      refine L_op (env' := uS21n30) rfl rfl (by first | exact v_loadF rfl rfl rfl rfl (by first | rfl | assumption | exact fget (α := BitVec 64) 0 (by omega) | exact fget (α := Int) 0 (by omega) | exact fget0 (α := BitVec 64) 0 (by omega) | exact fget0 (α := Int) 0 (by omega) | exact fget (α := Bool) false (by omega) | exact fget0 (α := Bool) false (by omega) | (simp [*]; done)) | exact v_load rfl rfl rfl rfl (by first | exact get_app rfl rfl | exact get_out (by assumption) | assumption | (simp [*]; done)) (by first | rfl | assumption | exact fget (α := BitVec 64) 0 (by omega) | exact fget (α := Int) 0 (by omega) | exact fget0 (α := BitVec 64) 0 (by omega) | exact fget0 (α := Int) 0 (by omega) | exact fget (α := Bool) false (by omega) | exact fget0 (α := Bool) false (by omega) | (simp [*]; done))) rfl ?_
      refine L_op (env' := uS21n30) rfl rfl (v_move (.inl rfl) rfl) rfl ?_
      refine L_op (env' := uS21n30) rfl rfl (v_andNotW rfl rfl rfl) rfl ?_
      refine L_op (env' := uS21n30) rfl rfl (v_move (.inr rfl) rfl) rfl ?_
      refine L_nil ?_
      refine K_seq ?_
      refine B_region ?_
      refine L_op (env' := uS21n30) rfl rfl (v_move (.inl rfl) rfl) rfl ?_
      refine L_op (env' := uS21n30) rfl rfl (by first | exact v_loadF rfl rfl rfl rfl (by first | rfl | assumption | exact fget (α := BitVec 64) 0 (by omega) | exact fget (α := Int) 0 (by omega) | exact fget0 (α := BitVec 64) 0 (by omega) | exact fget0 (α := Int) 0 (by omega) | exact fget (α := Bool) false (by omega) | exact fget0 (α := Bool) false (by omega) | (simp [*]; done)) | exact v_load rfl rfl rfl rfl (by first | exact get_app rfl rfl | exact get_out (by assumption) | assumption | (simp [*]; done)) (by first | rfl | assumption | exact fget (α := BitVec 64) 0 (by omega) | exact fget (α := Int) 0 (by omega) | exact fget0 (α := BitVec 64) 0 (by omega) | exact fget0 (α := Int) 0 (by omega) | exact fget (α := Bool) false (by omega) | exact fget0 (α := Bool) false (by omega) | (simp [*]; done))) rfl ?_
      refine L_op (env' := uS21n30) rfl rfl (v_orW rfl rfl rfl) rfl ?_
      refine L_op (env' := uS21n30) rfl rfl (v_move (.inr rfl) rfl) rfl ?_
      refine L_nil ?_
      refine K_blk ?_
      refine K_loopG [true,false,false,true,true,false,true,true,true,true,true,true,true,true,true,true,true,true,true,true,true,true,true,true,true,true,true,true,true,true] (env' := uS21n30) rfl (Gh.dropTo (L := [.cells [.ptr (some (p, 0))] true]) 1 rfl (BaseOk.refl _) (by first | (simp [VVal.underL, VVal.under]; done) | (simp [VVal.underL, VVal.under]; omega)) (by first | (simp [VVal.underL, VVal.under, VBlk.under]; done) | (simp [VVal.underL, VVal.under, VBlk.under]; omega))) ⟨⟨_, _⟩, ?_, rfl, ?_⟩
      · exact sprM_lt (by assumption)
      · exact ⟨⟨hS.next hf, fun a ha => by rw [BitVec.getLsbD_and, Bool.and_eq_true] at ha; rw [BitVec.getLsbD_or, ha.1, Bool.or_true]⟩, rfl⟩
    · rintro j pre c post s k hk hx ⟨⟩
  · try simp only [decide_eq_true_eq, decide_eq_false_iff_not, Bool.not_eq_true', Bool.not_eq_false', bne_iff_ne, beq_iff_eq, Bool.and_eq_true, Bool.or_eq_true, Bool.not_eq_true, ge_iff_le, gt_iff_lt, Int.not_le, Int.not_lt, beq_eq_false_iff_ne, bne_eq_false_iff_eq, ne_eq, Decidable.not_not, wd_zero, wd_one, wd_inj] at hc1
    refine B_exit ?_
    refine K_seqX ?_
    refine K_loopX ?_
    refine K_blkX ?_
    refine K_seq ?_
    refine B_seq ?_
    refine B_region ?_
    refine L_op (env' := uS21n30) rfl rfl (v_move (.inl rfl) rfl) rfl ?_
    refine L_op (env' := uS21n30) rfl rfl (v_move (.inr rfl) rfl) rfl ?_
    refine L_nil ?_
    refine K_seq ?_
    refine B_ret ?_
    refine E_app (.inr rfl) (vres_tmp rfl rfl) (by first | exact BaseOk.refl _ | exact BaseOk.set (BaseOk.refl _) _ rfl) (by first | rfl | simp [VVal.under, VVal.underL, *]) ?_
    obtain rfl : f = 0#64 := by simpa using hc1
    exact ⟨by rw [hS.done], rfl⟩

theorem rkBelow_spec {x : SW} (H : VHeap) (p : Nat) (J : List (BitVec 64)) (hp : H[p]? = some (rkB J)) (hJ : J.length = 64) (a : Int) : F (psys x) 42 [.ptr (some (p, 0)), iI a] H fun v G => v = iW (blw J a) ∧ G = H := by
  refine F_body Tryd.func42 rfl uS21n12 rfl ?_
  refine B_seq ?_
  refine B_region ?_
  refine L_op (env' := uS21n12) rfl rfl (v_const (VVal.int .u64 0) (.inr rfl) rfl) rfl ?_
  refine L_nil ?_
  refine K_seq ?_
  refine B_seq ?_
  refine B_seq ?_
  refine B_region ?_
  refine L_op (env' := uS21n12) rfl rfl (v_move (.inl rfl) rfl) rfl ?_
  refine L_call rfl rfl rfl (by exact rkIs_spec _ _) ?_
  rintro _ _ ⟨rfl, rfl⟩
  refine L_env (env' := uS21n12) rfl ?_
  refine L_op (env' := uS21n12) rfl rfl (rfl) rfl ?_
  refine L_nil ?_
  refine K_seq ?_
  refine B_cond _ rfl (fun hc1 => ?_) (fun hc1 => ?_)
  · try simp only [decide_eq_true_eq, decide_eq_false_iff_not, Bool.not_eq_true', Bool.not_eq_false', bne_iff_ne, beq_iff_eq, Bool.and_eq_true, Bool.or_eq_true, Bool.not_eq_true, ge_iff_le, gt_iff_lt, Int.not_le, Int.not_lt, beq_eq_false_iff_ne, bne_eq_false_iff_eq, ne_eq, Decidable.not_not, wd_zero, wd_one, wd_inj] at hc1
    refine B_seq ?_
    refine B_region ?_
    refine L_op (env' := uS21n12) rfl rfl (v_const (VVal.int .u64 0) (.inr rfl) rfl) rfl ?_
    refine L_nil ?_
    refine K_seq ?_
    refine B_ret ?_
    refine K_seqR ?_
    refine E_app (.inr rfl) (vres_tmp rfl rfl) (by first | exact BaseOk.refl _ | exact BaseOk.set (BaseOk.refl _) _ rfl) (by first | rfl | simp [VVal.under, VVal.underL, *]) ?_
    first
      | exact ⟨by rw [blw, if_pos (by assumption)], rfl⟩
      | exact ⟨by rw [blw, if_neg (by assumption)]; rfl, rfl⟩
  · try simp only [decide_eq_true_eq, decide_eq_false_iff_not, Bool.not_eq_true', Bool.not_eq_false', bne_iff_ne, beq_iff_eq, Bool.and_eq_true, Bool.or_eq_true, Bool.not_eq_true, ge_iff_le, gt_iff_lt, Int.not_le, Int.not_lt, beq_eq_false_iff_ne, bne_eq_false_iff_eq, ne_eq, Decidable.not_not, wd_zero, wd_one, wd_inj] at hc1
    refine B_skip ?_
    refine K_seq ?_
    refine B_seq ?_
    refine B_region ?_
    refine L_op (env' := uS21n12) rfl rfl (v_move (.inl rfl) rfl) rfl ?_
    refine L_op (env' := uS21n12) rfl rfl (v_move (.inl rfl) rfl) rfl ?_
    refine L_op (env' := uS21n12) rfl rfl (v_shl1 rfl rfl rfl (by first | assumption | omega | (simp [*]; done) | (simp at *; omega))) rfl ?_
    refine L_call rfl rfl rfl (by exact Spread_spec _ _ _ (by first | assumption | exact get_out (by assumption) | exact get_app rfl rfl) (by assumption) _) ?_
    rintro _ _ ⟨rfl, rfl⟩
    refine L_env (env' := uS21n12) rfl ?_
    refine L_op (env' := uS21n12) rfl rfl (v_move (.inr rfl) rfl) rfl ?_
    refine L_nil ?_
    refine K_seq ?_
    refine B_ret ?_
    refine E_app (.inr rfl) (vres_tmp rfl rfl) (by first | exact BaseOk.refl _ | exact BaseOk.set (BaseOk.refl _) _ rfl) (by first | rfl | simp [VVal.under, VVal.underL, *]) ?_
    first
      | exact ⟨by rw [blw, if_pos (by assumption)], rfl⟩
      | exact ⟨by rw [blw, if_neg (by assumption)]; rfl, rfl⟩
end Go.Proofs.YteocbhgdmpdklaaDoor.VT
