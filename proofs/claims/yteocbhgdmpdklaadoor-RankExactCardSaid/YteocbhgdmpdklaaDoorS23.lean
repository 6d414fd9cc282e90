/- ranks told: walks -/
import Derived.Test.YteocbhgdmpdklaaDoorS21
import Derived.Test.YteocbhgdmpdklaaDoorS22
set_option autoImplicit false
set_option linter.unusedVariables false
set_option linter.unusedSimpArgs false
set_option maxHeartbeats 4000000
set_option maxRecDepth 100000
namespace Go.Proofs.YteocbhgdmpdklaaDoor.VT
open Go Go.V Go.RowKit

abbrev uS23n22 {a0 a1 a2 a3 a4 a5 a6 a7 a8 a9 a10 a11 a12 a13 a14 a15 a16 a17 a18 a19 a20 a21 : VVal} : VEnv := a0 :: a1 :: a2 :: a3 :: a4 :: a5 :: a6 :: a7 :: a8 :: a9 :: a10 :: a11 :: a12 :: a13 :: a14 :: a15 :: a16 :: a17 :: a18 :: a19 :: a20 :: a21 :: []
abbrev uS23n27 {a0 a1 a2 a3 a4 a5 a6 a7 a8 a9 a10 a11 a12 a13 a14 a15 a16 a17 a18 a19 a20 a21 a22 a23 a24 a25 a26 : VVal} : VEnv := a0 :: a1 :: a2 :: a3 :: a4 :: a5 :: a6 :: a7 :: a8 :: a9 :: a10 :: a11 :: a12 :: a13 :: a14 :: a15 :: a16 :: a17 :: a18 :: a19 :: a20 :: a21 :: a22 :: a23 :: a24 :: a25 :: a26 :: []
abbrev uS23n32 {a0 a1 a2 a3 a4 a5 a6 a7 a8 a9 a10 a11 a12 a13 a14 a15 a16 a17 a18 a19 a20 a21 a22 a23 a24 a25 a26 a27 a28 a29 a30 a31 : VVal} : VEnv := a0 :: a1 :: a2 :: a3 :: a4 :: a5 :: a6 :: a7 :: a8 :: a9 :: a10 :: a11 :: a12 :: a13 :: a14 :: a15 :: a16 :: a17 :: a18 :: a19 :: a20 :: a21 :: a22 :: a23 :: a24 :: a25 :: a26 :: a27 :: a28 :: a29 :: a30 :: a31 :: []

/-- who stands over -/
def abP (J : List (BitVec 64)) (a : Int) (b : Nat) : Bool := decide (0 ≤ a ∧ a < 64) && (spr J (1#64 <<< b)).getLsbD a.toNat
def abv (J : List (BitVec 64)) (a : Int) : BitVec 64 := wdP (abP J a) 64
/-- the list of pairs as it grows, behind a cell -/
structure LnkAt (h : Nat) (l : List (Int × Int)) (v : VVal) (X : VHeap) : Prop where
  s1 : X[0]? = some (.cells [v] true)
  lv : LV h 2 X v (l.flatMap enP) l.length
  n1 : vidx v ≠ some (h + 0)
section
variable {h : Nat} {l : List (Int × Int)} {v : VVal} {X : VHeap}
theorem LnkAt.app (r : LnkAt h l v X) (Y : VHeap) : LnkAt h l v (X ++ Y) := ⟨get_append r.s1, r.lv.app Y, r.n1⟩
theorem LnkAt.set (r : LnkAt h l v X) {p : Nat} {k : VBlk} (hp : 0 < p) (hv : vidx v ≠ some (h + p)) : LnkAt h l v (X.set p k) :=
  ⟨by rw [List.getElem?_set_ne (by omega)]; exact r.s1, r.lv.frame fun i hi => by rw [List.getElem?_set_ne (fun e => hv (by rw [hi, e]))], r.n1⟩
theorem LnkAt.one (r : LnkAt h l v X) : 0 < X.length := (List.getElem?_eq_some_iff.1 r.s1).1
theorem LnkAt.grow (r : LnkAt h l v X) {Y1 : VHeap} {k1 k2 : VBlk} {p : Int × Int} {v' : VVal} {a b c : Nat} {ex : Bool} (hv : v' = .slice (some (h + (X.length + 1), 0)) a b ex c) (hl : Y1.length = X.length)
    (h3 : LV h 2 (Y1 ++ [k1, k2]) v' (l.flatMap enP ++ [iI p.1, iI p.2]) (l.length + 1)) : LnkAt h (l ++ [p]) v' ((Y1 ++ [k1, k2]).set 0 (.cells [v'] true)) := by
  have h2 := r.one
  refine ⟨?_, (LV.pair h3).frame fun i hi => ?_, ?_⟩
  · rw [List.getElem?_set_self (by simp)]
  · rw [List.getElem?_set_ne]
    subst hv; simp only [vidx, Option.some.injEq] at hi; omega
  · subst hv; simp only [vidx, ne_eq, Option.some.injEq]; omega
theorem LnkAt.next (r : LnkAt h l v X) {Y1 : VHeap} {k1 k2 kb ka : VBlk} {pr : Int × Int} {v' : VVal} {a b c p q : Nat} {ex : Bool} (hp : X[p]? = some kb) (hq : X[q]? = some ka) (hp1 : 0 < p) (hq1 : 0 < q) (hvp : vidx v ≠ some (h + p)) (hvq : vidx v ≠ some (h + q))
    (hv : v' = .slice (some (h + (X.length + 1), 0)) a b ex c) (hl : Y1.length = X.length) (hf : ∀ i, vidx v ≠ some (h + i) → Y1[i]? = X[i]?) (h3 : LV h 2 (Y1 ++ [k1, k2]) v' (l.flatMap enP ++ [iI pr.1, iI pr.2]) (l.length + 1)) :
    p < ((Y1 ++ [k1, k2]).set 0 (.cells [v'] true)).length ∧ ((Y1 ++ [k1, k2]).set 0 (.cells [v'] true)).set p kb = (Y1 ++ [k1, k2]).set 0 (.cells [v'] true) ∧ LnkAt h (l ++ [pr]) v' ((Y1 ++ [k1, k2]).set 0 (.cells [v'] true)) ∧ ((Y1 ++ [k1, k2]).set 0 (.cells [v'] true))[q]? = some ka ∧ vidx v' ≠ some (h + q) ∧ vidx v' ≠ some (h + p) := by
  have hpl := (List.getElem?_eq_some_iff.1 hp).1
  have hql := (List.getElem?_eq_some_iff.1 hq).1
  refine ⟨by simp; omega, (set_keep ?_).symm, r.grow hv hl h3, ?_, ?_, ?_⟩
  · rw [List.getElem?_set_ne (by omega), List.getElem?_append_left (by omega), hf p hvp]; exact hp
  · rw [List.getElem?_set_ne (by omega), List.getElem?_append_left (by omega), hf q hvq]; exact hq
  · subst hv; simp only [vidx, ne_eq, Option.some.injEq]; omega
  · subst hv; simp only [vidx, ne_eq, Option.some.injEq]; omega
end
theorem get_end {X : VHeap} {k : VBlk} : (X ++ [k])[X.length]? = some k := by simp
theorem set_end {X : VHeap} {k k' : VBlk} : (X ++ [k]).set X.length k' = X ++ [k'] := by simp

theorem Above_spec {x : SW} (H : VHeap) (p : Nat) (J : List (BitVec 64)) (hp : H[p]? = some (rkB J)) (hJ : J.length = 64) (a : Int) : F (psys x) 44 [.ptr (some (p, 0)), iI a] H fun v G => v = iW (abv J a) ∧ G = H := by
  refine F_body Tryd.func44 rfl uS23n22 rfl ?_
  refine B_seq ?_
  refine B_region ?_
  refine L_op (env' := uS23n22) rfl rfl (v_const (VVal.int .u64 0) (.inr rfl) rfl) rfl ?_
  refine L_nil ?_
  refine K_seq ?_
  refine B_seq ?_
  refine B_region ?_
  refine L_op (env' := uS23n22) rfl rfl (v_const (VVal.int .u64 0) (.inr rfl) rfl) rfl ?_
  refine L_nil ?_
  refine K_seq ?_
  refine B_seq ?_
  refine B_seq ?_
  refine B_region ?_
  refine L_op (env' := uS23n22) rfl rfl (v_const (VVal.int .i64 0) (.inl rfl) rfl) rfl ?_
  refine L_nil ?_
  refine K_seq ?_
  refine B_block ?_
  refine B_clear [false,false,true,true,true,false,true,false,true,true,true,true,true,true,true,true,true,true,true,true,true,true] (env' := uS23n22) rfl ?_
  refine B_loopE (fun (b : Nat) => 64 - b) (fun (b : Nat) => [(5, iW (wdP (abP J a) b)), (7, iI (b : Nat))]) (fun (b : Nat) G => (b ≤ 64) ∧ G = H ++ []) 0 (by rw [wdP_0]; rfl) ?_ ?_
  · refine ⟨?_, rfl⟩
    exact Nat.zero_le _
  rintro b _ ⟨hb, rfl⟩
  refine B_env (env' := uS23n22) rfl ?_
  refine B_seq ?_
  refine B_region ?_
  refine L_op (env' := uS23n22) rfl rfl (rfl) rfl ?_
  refine L_nil ?_
  refine K_seq ?_
  refine B_seq ?_
  refine B_cond _ rfl (fun hc1 => ?_) (fun hc1 => ?_)
  · try simp only [decide_eq_true_eq, decide_eq_false_iff_not, Bool.not_eq_true', Bool.not_eq_false', bne_iff_ne, beq_iff_eq, Bool.and_eq_true, Bool.or_eq_true, Bool.not_eq_true, ge_iff_le, gt_iff_lt, Int.not_le, Int.not_lt, beq_eq_false_iff_ne, bne_eq_false_iff_eq, ne_eq, Decidable.not_not, wd_zero, wd_one, wd_inj] at hc1
    refine B_skip ?_
    refine K_seq ?_
    refine B_seq ?_
    refine B_block ?_
    refine B_seq ?_
    refine B_region ?_
    refine L_op (env' := uS23n22) rfl rfl (v_move (.inl rfl) rfl) rfl ?_
    refine L_op (env' := uS23n22) rfl rfl (v_move (.inr rfl) rfl) rfl ?_
    refine L_nil ?_
    refine K_seq ?_
    refine B_seq ?_
    refine B_region ?_
    refine L_op (env' := uS23n22) rfl rfl (v_move (.inl rfl) rfl) rfl ?_
    refine L_op (env' := uS23n22) rfl rfl (v_move (.inl rfl) rfl) rfl ?_
    refine L_call rfl rfl rfl (by exact rkBelow_spec _ _ _ (by first | assumption | exact get_out (by assumption) | exact get_app rfl rfl) (by assumption) _) ?_
    rintro v _ ⟨hv, rfl⟩; obtain rfl : v = iW (spr J (1#64 <<< b)) := hv.trans (by rw [blw, if_pos (by omega)]; rfl)
    refine L_env (env' := uS23n22) rfl ?_
    refine L_call rfl rfl rfl (by exact places_spec _ _) ?_
    rintro _ _ ⟨rfl, rfl⟩
    refine L_env (env' := uS23n22) rfl ?_
    refine L_op (env' := uS23n22) rfl rfl (v_move (.inl rfl) rfl) rfl ?_
    refine L_call rfl rfl rfl (by exact Has_spec _ _ _) ?_
    rintro _ _ ⟨rfl, rfl⟩
    refine L_env (env' := uS23n22) rfl ?_
    refine L_nil ?_
    refine K_seq ?_
    refine B_cond _ rfl (fun hc2 => ?_) (fun hc2 => ?_)
    · try simp only [decide_eq_true_eq, decide_eq_false_iff_not, Bool.not_eq_true', Bool.not_eq_false', bne_iff_ne, beq_iff_eq, Bool.and_eq_true, Bool.or_eq_true, Bool.not_eq_true, ge_iff_le, gt_iff_lt, Int.not_le, Int.not_lt, beq_eq_false_iff_ne, bne_eq_false_iff_eq, ne_eq, Decidable.not_not, wd_zero, wd_one, wd_inj] at hc2
      refine B_region ?_
      refine L_op (env' := uS23n22) rfl rfl (v_move (.inl rfl) rfl) rfl ?_
      refine L_op (env' := uS23n22) rfl rfl (v_move (.inl rfl) rfl) rfl ?_
      refine L_op (env' := uS23n22) rfl rfl (v_shl1 rfl rfl rfl (by first | assumption | omega | (simp [*]; done) | (simp at *; omega))) rfl ?_
      refine L_op (env' := uS23n22) rfl rfl (v_orW rfl rfl rfl) rfl ?_
      refine L_op (env' := uS23n22) rfl rfl (v_move (.inr rfl) rfl) rfl ?_
      refine L_nil ?_
      refine K_blk ?_
      refine K_seq ?_
      refine B_region ?_
      refine L_op (env' := uS23n22) rfl rfl (v_addI rfl rfl rfl (by first | assumption | omega | (simp [*]; done) | (simp at *; omega))) rfl ?_
      refine L_op (env' := uS23n22) rfl rfl (v_move (.inl rfl) rfl) rfl ?_
      refine L_nil ?_
      first
        | (have hE : wdP (abP J a) b ||| 1#64 <<< (b : Int).toNat = wdP (abP J a) (b + 1) := wdP_yes (by unfold abP; simpa using hc2)); rw [hE]
        | (have hE : wdP (abP J a) b = wdP (abP J a) (b + 1) := wdP_no (by unfold abP; simpa using hc2)); rw [hE]
      refine K_loop [false,false,true,true,true,false,true,false,true,true,true,true,true,true,true,true,true,true,true,true,true,true] (env' := uS23n22) rfl ⟨b + 1, ?_, rfl, ?_⟩
      · first | omega | (simp only []; omega)
      · exact ⟨by omega, rfl⟩
    · try simp only [decide_eq_true_eq, decide_eq_false_iff_not, Bool.not_eq_true', Bool.not_eq_false', bne_iff_ne, beq_iff_eq, Bool.and_eq_true, Bool.or_eq_true, Bool.not_eq_true, ge_iff_le, gt_iff_lt, Int.not_le, Int.not_lt, beq_eq_false_iff_ne, bne_eq_false_iff_eq, ne_eq, Decidable.not_not, wd_zero, wd_one, wd_inj] at hc2
      refine B_skip ?_
      refine K_blk ?_
      refine K_seq ?_
      refine B_region ?_
      refine L_op (env' := uS23n22) rfl rfl (v_addI rfl rfl rfl (by first | assumption | omega | (simp [*]; done) | (simp at *; omega))) rfl ?_
      refine L_op (env' := uS23n22) rfl rfl (v_move (.inl rfl) rfl) rfl ?_
      refine L_nil ?_
      first
        | (have hE : wdP (abP J a) b ||| 1#64 <<< (b : Int).toNat = wdP (abP J a) (b + 1) := wdP_yes (by unfold abP; simpa using hc2)); rw [hE]
        | (have hE : wdP (abP J a) b = wdP (abP J a) (b + 1) := wdP_no (by unfold abP; simpa using hc2)); rw [hE]
      refine K_loop [false,false,true,true,true,false,true,false,true,true,true,true,true,true,true,true,true,true,true,true,true,true] (env' := uS23n22) rfl ⟨b + 1, ?_, rfl, ?_⟩
      · first | omega | (simp only []; omega)
      · exact ⟨by omega, rfl⟩
  · try simp only [decide_eq_true_eq, decide_eq_false_iff_not, Bool.not_eq_true', Bool.not_eq_false', bne_iff_ne, beq_iff_eq, Bool.and_eq_true, Bool.or_eq_true, Bool.not_eq_true, ge_iff_le, gt_iff_lt, Int.not_le, Int.not_lt, beq_eq_false_iff_ne, bne_eq_false_iff_eq, ne_eq, Decidable.not_not, wd_zero, wd_one, wd_inj] at hc1
    refine B_exit ?_
    refine K_seqX ?_
    refine K_loopX ?_
    refine K_blkX ?_
    refine K_seq ?_
    refine B_seq ?_
    refine B_region ?_
    refine L_op (env' := uS23n22) rfl rfl (v_move (.inl rfl) rfl) rfl ?_
    refine L_op (env' := uS23n22) rfl rfl (v_move (.inr rfl) rfl) rfl ?_
    refine L_nil ?_
    refine K_seq ?_
    refine B_ret ?_
    refine E_app (.inr rfl) (vres_tmp rfl rfl) (by first | exact BaseOk.refl _ | exact BaseOk.set (BaseOk.refl _) _ rfl) (by first | rfl | simp [VVal.under, VVal.underL, *]) ?_
    obtain rfl : b = 64 := by omega
    exact ⟨rfl, rfl⟩

theorem Depth_spec {x : SW} (H : VHeap) (p : Nat) (J : List (BitVec 64)) (hp : H[p]? = some (rkB J)) (r : Rk J) (a : Int) : F (psys x) 32 [.ptr (some (p, 0)), iI a] H fun v G => v = iI (dptI J a) ∧ G = H := by
  have hpl := lt_of_get hp
  have hJ := r.len
  refine F_body Tryd.func32 rfl uS23n32 rfl ?_
  refine B_seq ?_
  refine B_region ?_
  refine L_op (env' := uS23n32) rfl rfl (v_boxT rfl rfl rfl) rfl ?_
  refine L_op (env' := uS23n32) rfl rfl (v_const (VVal.int .i64 0) (.inr rfl) rfl) rfl ?_
  refine L_nil ?_
  refine K_seq ?_
  refine B_seq ?_
  refine B_seq ?_
  refine B_region ?_
  refine L_op (env' := uS23n32) rfl rfl (v_move (.inl rfl) rfl) rfl ?_
  refine L_call rfl rfl rfl (by exact rkIs_spec _ _) ?_
  rintro _ _ ⟨rfl, rfl⟩
  refine L_env (env' := uS23n32) rfl ?_
  refine L_op (env' := uS23n32) rfl rfl (rfl) rfl ?_
  refine L_nil ?_
  refine K_seq ?_
  refine B_cond _ rfl (fun hc1 => ?_) (fun hc1 => ?_)
  · try simp only [decide_eq_true_eq, decide_eq_false_iff_not, Bool.not_eq_true', Bool.not_eq_false', bne_iff_ne, beq_iff_eq, Bool.and_eq_true, Bool.or_eq_true, Bool.not_eq_true, ge_iff_le, gt_iff_lt, Int.not_le, Int.not_lt, beq_eq_false_iff_ne, bne_eq_false_iff_eq, ne_eq, Decidable.not_not, wd_zero, wd_one, wd_inj] at hc1
    refine B_seq ?_
    refine B_region ?_
    refine L_op (env' := uS23n32) rfl rfl (v_const (VVal.int .i64 0) (.inr rfl) rfl) rfl ?_
    refine L_nil ?_
    refine K_seq ?_
    refine B_ret ?_
    refine K_seqR ?_
    refine E_app (.inr rfl) (vres_tmp rfl rfl) (by first | exact BaseOk.refl _ | exact BaseOk.set (BaseOk.refl _) _ rfl) (by first | rfl | simp [VVal.under, VVal.underL, *]) ?_
    first
      | (have hf : f = 0#64 := by simpa using hc2); subst hf; rw [dep_0] at hS; exact ⟨by unfold dptI; rw [if_pos (by assumption)]; rw [show d = dpt J a.toNat by simpa using hS], rfl⟩
      | exact ⟨by unfold dptI; rw [if_neg (by assumption)], rfl⟩
  · try simp only [decide_eq_true_eq, decide_eq_false_iff_not, Bool.not_eq_true', Bool.not_eq_false', bne_iff_ne, beq_iff_eq, Bool.and_eq_true, Bool.or_eq_true, Bool.not_eq_true, ge_iff_le, gt_iff_lt, Int.not_le, Int.not_lt, beq_eq_false_iff_ne, bne_eq_false_iff_eq, ne_eq, Decidable.not_not, wd_zero, wd_one, wd_inj] at hc1
    refine B_skip ?_
    refine K_seq ?_
    refine B_seq ?_
    refine B_region ?_
    refine L_op (env' := uS23n32) rfl rfl (v_const (VVal.int .i64 (-1)) (.inr rfl) rfl) rfl ?_
    refine L_nil ?_
    refine K_seq ?_
    refine B_seq ?_
    refine B_seq ?_
    refine B_region ?_
    refine L_op (env' := uS23n32) rfl rfl (v_move (.inl rfl) rfl) rfl ?_
    refine L_op (env' := uS23n32) rfl rfl (v_shl1 rfl rfl rfl (by first | assumption | omega | (simp [*]; done) | (simp at *; omega))) rfl ?_
    refine L_op (env' := uS23n32) rfl rfl (v_move (.inr rfl) rfl) rfl ?_
    refine L_nil ?_
    refine K_seq ?_
    refine B_block ?_
    refine B_clear [true,true,false,true,true,false,false,true,true,true,true,true,true,true,true,true,true,true,true,true,true,true,true,true,true,true,true,true,true,true,true,true] (env' := uS23n32) rfl ?_
    refine B_loopE (fun (⟨d, f⟩ : Int × BitVec 64) => dep J f) (fun (⟨d, f⟩ : Int × BitVec 64) => [(5, iI d), (6, iW f)]) (fun (⟨d, f⟩ : Int × BitVec 64) G => (d + dep J f = dpt J a.toNat) ∧ G = H ++ [.cells [.ptr (some (p, 0))] true]) ⟨-1, 1#64 <<< a.toNat⟩ rfl ?_ ?_
    · refine ⟨?_, rfl⟩
      show (-1 : Int) + (dep J (1#64 <<< a.toNat) : Nat) = _; rw [r.dpt_one (by omega)]; omega
    rintro ⟨d, f⟩ _ ⟨hS, rfl⟩
    refine B_env (env' := uS23n32) rfl ?_
    have hdl := @dep_le J f
    have hdl2 := @dep_le J (J.getD a.toNat 0)
    have hdl3 : dpt J a.toNat ≤ 65 := hdl2
    refine B_seq ?_
    refine B_seq ?_
    refine B_region ?_
    refine L_op (env' := uS23n32) rfl rfl (v_move (.inl rfl) rfl) rfl ?_
    refine L_op (env' := uS23n32) rfl rfl (rfl) rfl ?_
    refine L_nil ?_
    refine K_seq ?_
    refine B_cond _ rfl (fun hc2 => ?_) (fun hc2 => ?_)
    · try simp only [decide_eq_true_eq, decide_eq_false_iff_not, Bool.not_eq_true', Bool.not_eq_false', bne_iff_ne, beq_iff_eq, Bool.and_eq_true, Bool.or_eq_true, Bool.not_eq_true, ge_iff_le, gt_iff_lt, Int.not_le, Int.not_lt, beq_eq_false_iff_ne, bne_eq_false_iff_eq, ne_eq, Decidable.not_not, wd_zero, wd_one, wd_inj] at hc2
      refine B_skip ?_
      refine K_seq ?_
      refine B_seq ?_
      refine B_block ?_
      refine B_seq ?_
      refine B_region ?_
      refine L_op (env' := uS23n32) rfl rfl (v_alloc rfl rfl) rfl ?_
      refine L_op (env' := uS23n32) rfl rfl (v_storeC (VVal.int .u64 0) rfl rfl rfl rfl rfl rfl rfl (by first | exact get_app rfl rfl | exact get_out (by assumption) | assumption | (simp [*]; done)) (by first | exact Nat.le_of_ble_eq_true rfl | (simp only [List.length_map, List.length_cons, List.length_nil]; omega) | omega | (simp; done) | (simp; omega)) (by first | exact set_app rfl | exact set_out (lt_of_get (by assumption)) | rfl)) rfl ?_
      refine L_nil ?_
      refine K_seq ?_
      refine B_seq ?_
      refine B_seq ?_
      refine B_region ?_
      refine L_op (env' := uS23n32) rfl rfl (v_move (.inl rfl) rfl) rfl ?_
      refine L_call rfl rfl rfl (by exact places_spec _ _) ?_
      rintro _ _ ⟨rfl, rfl⟩
      refine L_env (env' := uS23n32) rfl ?_
      refine L_call rfl rfl rfl (by exact All_spec _ _) ?_
      rintro _ _ ⟨rfl, rfl⟩
      refine L_env (env' := uS23n32) rfl ?_
      refine L_nil ?_
      refine K_seq ?_
      refine B_block ?_
      refine B_clear [true,true,false,true,true,false,true,false,true,true,true,true,true,true,true,true,true,true,true,true,false,true,true,true,true,true,true,true,true,true,true,true] (env' := uS23n32) rfl ?_
      refine B_rangeM cI (pl f 0) (fun l0 h => by cases h) rfl (fun l G R h => All1_spec _ _ _ _ h) (σ := BitVec 64) (fun k s => H ++ [.cells [.ptr (some (p, 0))] true, .cells [iW s] true, k]) 0#64 (fun k => by rw [List.append_assoc]; rfl) (fun k s => by rw [List.length_append]; exact get_app rfl rfl) (fun k k1 s => by rw [List.length_append]; exact set_app rfl) (fun pre s => s = pre.foldl (fun n a => n ||| J.getD a 0) 0#64) ?_ (fun j pre c s => False) rfl ?_ ?_ ?_
      · rfl
      · intro pre c post s hx hI kr kb hkr hkb
        try dsimp only at hI ⊢
        subst hI
        have hc : c ∈ pl f 0 := by rw [hx]; simp
        obtain ⟨_, hc64, hcb⟩ := mem_pl.1 hc
        refine B_env (env' := uS23n32) rfl ?_
        refine B_region ?_
        refine L_op (env' := uS23n32) rfl rfl (v_move (.inr rfl) rfl) rfl ?_
        refine L_nil ?_
        refine ⟨rfl, (pre.foldl (fun n a => n ||| J.getD a 0) 0#64), rfl, ?_⟩
        try dsimp only
        refine B_block ?_
        refine B_draw [0, 1, 2, 3, 4, 5, 6, 7, 8] #[0, 0, 0, 2, 10, 30, 62, 127, 255] (by kernel_rfl) (by kernel_rfl) (by kernel_rfl) ?_
        refine O_op (env' := uS23n32) (c := .look) rfl rfl rfl (by first | exact v_loadF rfl rfl rfl rfl (by first | rfl | assumption | exact fget (α := BitVec 64) 0 (by omega) | exact fget (α := Int) 0 (by omega) | exact fget0 (α := BitVec 64) 0 (by omega) | exact fget0 (α := Int) 0 (by omega) | exact fget (α := Bool) false (by omega) | exact fget0 (α := Bool) false (by omega) | (simp [*]; done)) | exact v_load rfl rfl rfl rfl (by first | exact get_app rfl rfl | exact get_out (by assumption) | assumption | (simp [*]; done)) (by first | rfl | assumption | exact fget (α := BitVec 64) 0 (by omega) | exact fget (α := Int) 0 (by omega) | exact fget0 (α := BitVec 64) 0 (by omega) | exact fget0 (α := Int) 0 (by omega) | exact fget (α := Bool) false (by omega) | exact fget0 (α := Bool) false (by omega) | (simp [*]; done))) rfl rfl rfl ?_
        refine O_op (env' := uS23n32) (c := .look) rfl rfl rfl (by first | exact v_loadF rfl rfl rfl rfl (by first | rfl | assumption | exact fget (α := BitVec 64) 0 (by omega) | exact fget (α := Int) 0 (by omega) | exact fget0 (α := BitVec 64) 0 (by omega) | exact fget0 (α := Int) 0 (by omega) | exact fget (α := Bool) false (by omega) | exact fget0 (α := Bool) false (by omega) | (simp [*]; done)) | exact v_load rfl rfl rfl rfl (by first | exact get_app rfl rfl | exact get_out (by assumption) | assumption | (simp [*]; done)) (by first | rfl | assumption | exact fget (α := BitVec 64) 0 (by omega) | exact fget (α := Int) 0 (by omega) | exact fget0 (α := BitVec 64) 0 (by omega) | exact fget0 (α := Int) 0 (by omega) | exact fget (α := Bool) false (by omega) | exact fget0 (α := Bool) false (by omega) | (simp [*]; done))) rfl rfl rfl ?_
        refine O_op (env' := uS23n32) (c := .calm) rfl rfl rfl (v_move (.inl rfl) rfl) rfl rfl rfl ?_
        refine O_op (env' := uS23n32) (c := .calm) rfl rfl rfl (rfl) rfl rfl rfl ?_
        refine O_op (env' := uS23n32) (c := .calm) rfl rfl rfl (rfl) rfl rfl rfl ?_
        refine O_op (env' := uS23n32) (c := .calm) rfl rfl rfl (by first | exact v_idxFA rfl rfl rfl rfl rfl rfl (by first | assumption | omega | (simp [*]; done) | (simp at *; omega)) | exact v_idxA rfl rfl rfl rfl rfl rfl (by first | assumption | omega | (simp [*]; done) | (simp at *; omega))) rfl rfl rfl ?_
        refine O_op (env' := uS23n32) (c := .look) rfl rfl rfl (by first | exact v_loadF rfl rfl rfl rfl (by first | rfl | assumption | exact fget (α := BitVec 64) 0 (by omega) | exact fget (α := Int) 0 (by omega) | exact fget0 (α := BitVec 64) 0 (by omega) | exact fget0 (α := Int) 0 (by omega) | exact fget (α := Bool) false (by omega) | exact fget0 (α := Bool) false (by omega) | (simp [*]; done)) | exact v_load rfl rfl rfl rfl (by first | exact get_app rfl rfl | exact get_out (by assumption) | assumption | (simp [*]; done)) (by first | rfl | assumption | exact fget (α := BitVec 64) 0 (by omega) | exact fget (α := Int) 0 (by omega) | exact fget0 (α := BitVec 64) 0 (by omega) | exact fget0 (α := Int) 0 (by omega) | exact fget (α := Bool) false (by omega) | exact fget0 (α := Bool) false (by omega) | (simp [*]; done))) rfl rfl rfl ?_
        refine O_op (env' := uS23n32) (c := .calm) rfl rfl rfl (v_orW rfl rfl rfl) rfl rfl rfl ?_
        refine O_op (env' := uS23n32) (c := .turn) rfl rfl rfl (v_storeT rfl rfl rfl rfl rfl rfl rfl (by first | exact get_app rfl rfl | exact get_out (by assumption) | assumption | (simp [*]; done)) (by first | exact Nat.le_of_ble_eq_true rfl | (simp only [List.length_map, List.length_cons, List.length_nil]; omega) | omega | (simp; done) | (simp; omega)) (by first | exact set_app rfl | exact set_out (lt_of_get (by assumption)) | rfl)) rfl rfl rfl ?_
        refine O_nil [] (by kernel_rfl) (trivial) ?_
        refine K_blk ?_
        refine ⟨_, rfl, .inl ⟨rfl, ?_⟩⟩
        rw [List.foldl_append]; rfl
      · intro s k hk hI
        try dsimp only at hI ⊢
        have hI : s = nxW J f := hI
        subst hI
        refine K_blk ?_
        refine K_seq ?_
        refine B_region ?_
        refine L_op (env' := uS23n32) rfl rfl (by first | exact v_loadF rfl rfl rfl rfl (by first | rfl | assumption | exact fget (α := BitVec 64) 0 (by omega) | exact fget (α := Int) 0 (by omega) | exact fget0 (α := BitVec 64) 0 (by omega) | exact fget0 (α := Int) 0 (by omega) | exact fget (α := Bool) false (by omega) | exact fget0 (α := Bool) false (by omega) | (simp [*]; done)) | exact v_load rfl rfl rfl rfl (by first | exact get_app rfl rfl | exact get_out (by assumption) | assumption | (simp [*]; done)) (by first | rfl | assumption | exact fget (α := BitVec 64) 0 (by omega) | exact fget (α := Int) 0 (by omega) | exact fget0 (α := BitVec 64) 0 (by omega) | exact fget0 (α := Int) 0 (by omega) | exact fget (α := Bool) false (by omega) | exact fget0 (α := Bool) false (by omega) | (simp [*]; done))) rfl ?_
        refine L_op (env' := uS23n32) rfl rfl (v_move (.inr rfl) rfl) rfl ?_
        refine L_nil ?_
        refine K_blk ?_
        refine K_seq ?_
        refine B_region ?_
        refine L_op (env' := uS23n32) rfl rfl (v_move (.inl rfl) rfl) rfl ?_
        refine L_op (env' := uS23n32) rfl rfl (v_addI rfl rfl rfl (by first | assumption | omega | (simp [*]; done) | (simp at *; omega))) rfl ?_
        refine L_op (env' := uS23n32) rfl rfl (v_move (.inr rfl) rfl) rfl ?_
        refine L_nil ?_
        refine K_loopG [true,true,false,true,true,false,false,true,true,true,true,true,true,true,true,true,true,true,true,true,true,true,true,true,true,true,true,true,true,true,true,true] (env' := uS23n32) rfl (Gh.dropTo (L := [.cells [.ptr (some (p, 0))] true]) 1 rfl (BaseOk.refl _) (by first | (simp [VVal.underL, VVal.under]; done) | (simp [VVal.underL, VVal.under]; omega)) (by first | (simp [VVal.underL, VVal.under, VBlk.under]; done) | (simp [VVal.underL, VVal.under, VBlk.under]; omega))) ⟨⟨_, _⟩, ?_, rfl, ?_⟩
        · have hds := r.dep_step (w := f) (by assumption); show dep J (nxW J f) < dep J f; omega
        · exact ⟨by have hds := r.dep_step (w := f) (by assumption); show (d + 1 : Int) + (dep J (nxW J f) : Nat) = _; omega, rfl⟩
      · rintro j pre c post s k hk hx ⟨⟩
    · try simp only [decide_eq_true_eq, decide_eq_false_iff_not, Bool.not_eq_true', Bool.not_eq_false', bne_iff_ne, beq_iff_eq, Bool.and_eq_true, Bool.or_eq_true, Bool.not_eq_true, ge_iff_le, gt_iff_lt, Int.not_le, Int.not_lt, beq_eq_false_iff_ne, bne_eq_false_iff_eq, ne_eq, Decidable.not_not, wd_zero, wd_one, wd_inj] at hc2
      refine B_exit ?_
      refine K_seqX ?_
      refine K_loopX ?_
      refine K_blkX ?_
      refine K_seq ?_
      refine B_seq ?_
      refine B_region ?_
      refine L_op (env' := uS23n32) rfl rfl (v_move (.inl rfl) rfl) rfl ?_
      refine L_op (env' := uS23n32) rfl rfl (v_move (.inr rfl) rfl) rfl ?_
      refine L_nil ?_
      refine K_seq ?_
      refine B_ret ?_
      refine E_app (.inr rfl) (vres_tmp rfl rfl) (by first | exact BaseOk.refl _ | exact BaseOk.set (BaseOk.refl _) _ rfl) (by first | rfl | simp [VVal.under, VVal.underL, *]) ?_
      first
        | (have hf : f = 0#64 := by simpa using hc2); subst hf; rw [dep_0] at hS; exact ⟨by unfold dptI; rw [if_pos (by assumption)]; rw [show d = dpt J a.toNat by simpa using hS], rfl⟩
        | exact ⟨by unfold dptI; rw [if_neg (by assumption)], rfl⟩

theorem Links_spec {x : SW} (H : VHeap) (p : Nat) (J : List (BitVec 64)) (hp : H[p]? = some (rkB J)) (hJ : J.length = 64) : F (psys x) 31 [.ptr (some (p, 0))] H fun v G => v = fzP (lkL J) ∧ G = H := by
  refine F_body Tryd.func31 rfl uS23n27 rfl ?_
  refine B_seq ?_
  refine B_region ?_
  refine L_op (env' := uS23n27) rfl rfl (v_const (VVal.slice none 0 0 true 0) (.inr rfl) rfl) rfl ?_
  refine L_nil ?_
  refine K_seq ?_
  refine B_seq ?_
  refine B_region ?_
  refine L_op (env' := uS23n27) rfl rfl (v_alloc rfl rfl) rfl ?_
  refine L_nil ?_
  refine K_seq ?_
  refine B_seq ?_
  refine B_seq ?_
  refine B_region ?_
  refine L_op (env' := uS23n27) rfl rfl (v_move (.inl rfl) rfl) rfl ?_
  refine L_op (env' := uS23n27) rfl rfl (rfl) rfl ?_
  refine L_op (env' := uS23n27) rfl rfl (rfl) rfl ?_
  refine L_op (env' := uS23n27) rfl rfl (by first | exact v_loadFA rfl rfl rfl rfl (by exact rk_all hJ) | exact v_loadA rfl rfl rfl rfl (by first | exact get_app rfl rfl | exact get_out (by assumption) | assumption | (simp [*]; done)) (by exact rk_all hJ)) rfl ?_
  refine L_op (env' := uS23n27) rfl rfl (v_const (VVal.int .i64 0) (.inl rfl) rfl) rfl ?_
  refine L_nil ?_
  refine K_seq ?_
  refine B_block ?_
  refine B_clear [true,true,true,false,true,true,true,true,true,true,false,false,true,true,true,true,true,true,true,true,true,true,true,true,true,true,true] (env' := uS23n27) rfl ?_
  refine B_loopE (fun (a : Nat) => 64 - a) (fun (a : Nat) => [(11, iI (a : Nat))]) (fun (a : Nat) G => (a ≤ 64) ∧ ∃ X v, G = H ++ X ∧ LnkAt H.length (lkTo J a) v X) 0 rfl ?_ ?_
  · refine ⟨?_, ⟨_, _, rfl, ⟨rfl, LV.nil _ _ _, by simp [vidx]⟩⟩⟩
    exact Nat.zero_le _
  rintro a _ ⟨ha, ⟨X, v, rfl, hcv⟩⟩
  refine B_env (env' := uS23n27) rfl ?_
  refine B_seq ?_
  refine B_region ?_
  refine L_op (env' := uS23n27) rfl rfl (rfl) rfl ?_
  refine L_nil ?_
  refine K_seq ?_
  refine B_seq ?_
  refine B_cond _ rfl (fun hc1 => ?_) (fun hc1 => ?_)
  · try simp only [decide_eq_true_eq, decide_eq_false_iff_not, Bool.not_eq_true', Bool.not_eq_false', bne_iff_ne, beq_iff_eq, Bool.and_eq_true, Bool.or_eq_true, Bool.not_eq_true, ge_iff_le, gt_iff_lt, Int.not_le, Int.not_lt, beq_eq_false_iff_ne, bne_eq_false_iff_eq, ne_eq, Decidable.not_not, wd_zero, wd_one, wd_inj] at hc1
    refine B_skip ?_
    refine K_seq ?_
    refine B_seq ?_
    refine B_block ?_
    refine B_seq ?_
    refine B_region ?_
    refine L_op (env' := uS23n27) rfl rfl (v_move (.inl rfl) rfl) rfl ?_
    refine L_op (env' := uS23n27) rfl rfl (v_idxV rfl rfl rfl rfl rfl rfl rfl (by omega) (fget (α := BitVec 64) 0 (by omega))) rfl ?_
    refine L_op (env' := uS23n27) rfl rfl (v_alloc rfl rfl) rfl ?_
    refine L_op (env' := uS23n27) rfl rfl (v_storeT rfl rfl rfl rfl rfl rfl rfl (by exact get_app rfl get_end) (by first | exact Nat.le_of_ble_eq_true rfl | (simp only [List.length_map, List.length_cons, List.length_nil]; omega) | omega | (simp; done) | (simp; omega)) (by first | exact set_app rfl | exact set_out (lt_of_get (by assumption)) | rfl)) rfl ?_
    refine L_heap (H' := H ++ (X ++ [.cells [iI (a : Nat)] true])) (by rw [set_end]; rfl) ?_
    refine L_op (env' := uS23n27) rfl rfl (v_move (.inr rfl) rfl) rfl ?_
    refine L_nil ?_
    refine K_seq ?_
    refine B_seq ?_
    refine B_region ?_
    refine L_op (env' := uS23n27) rfl rfl (v_move (.inl rfl) rfl) rfl ?_
    refine L_call rfl rfl rfl (by exact places_spec _ _) ?_
    rintro _ _ ⟨rfl, rfl⟩
    refine L_env (env' := uS23n27) rfl ?_
    refine L_call rfl rfl rfl (by exact All_spec _ _) ?_
    rintro _ _ ⟨rfl, rfl⟩
    refine L_env (env' := uS23n27) rfl ?_
    refine L_nil ?_
    refine K_seq ?_
    refine B_block ?_
    refine B_clear [true,true,true,false,false,true,true,true,true,true,false,false,true,true,true,true,true,false,true,true,true,true,true,true,true,true,true] (env' := uS23n27) rfl ?_
    have hX2 := hcv.one
    have hvX : vidx v ≠ some (H.length + X.length) := hcv.lv.ne (Nat.le_refl _)
    have hvX1 : vidx v ≠ some (H.length + (X.length + 1)) := hcv.lv.ne (by omega)
    refine B_rangeM cI (pl (J.getD (a : Int).toNat 0) 0) (fun l0 h => by cases h) rfl (fun l G R h => All1_spec _ _ _ _ h) (σ := { Z : VHeap // (X.length + 1) < Z.length }) (fun k s => H ++ s.1.set (X.length + 1) k) ⟨X ++ [.cells [iI (a : Nat)] true] ++ [.dead], by simp⟩ (fun k => by simp) (fun k s => by rw [List.length_append]; exact get_app rfl (by rw [List.length_append, List.length_singleton, List.getElem?_set_self s.2])) (fun k k1 s => by rw [List.length_append, set_app rfl, List.length_append, List.length_singleton, List.set_set]) (fun pre s => ∃ v, LnkAt H.length (lkTo J a ++ lkR J a pre) v s.1 ∧ s.1[X.length]? = some (.cells [iI (a : Nat)] true) ∧ vidx v ≠ some (H.length + X.length) ∧ vidx v ≠ some (H.length + (X.length + 1))) ?_ (fun j pre c s => False) rfl ?_ ?_ ?_
    · exact ⟨v, by rw [show lkR J a [] = [] from rfl, List.append_nil]; exact (hcv.app _).app _, by simp, hvX, hvX1⟩
    · intro pre c post s hx hI kr kb hkr hkb
      try dsimp only at hI ⊢
      obtain ⟨v, hr0, hq0, hv1, hv2⟩ := hI
      have hr := hr0.set (k := kb) (by omega : 0 < X.length + 1) hv2
      have hq : (s.1.set (X.length + 1) kb)[X.length]? = some (.cells [iI (a : Nat)] true) := by rw [List.getElem?_set_ne (by omega)]; exact hq0
      have hpl : pre.length ≤ 64 := by
        have h1 := pl_len' (J.getD (a : Int).toNat 0)
        rw [hx] at h1; simp at h1; omega
      refine B_env (env' := uS23n27) rfl ?_
      refine B_region ?_
      refine L_op (env' := uS23n27) rfl rfl (v_move (.inr rfl) rfl) rfl ?_
      refine L_nil ?_
      refine ⟨rfl, s, rfl, ?_⟩
      try dsimp only
      refine B_block ?_
      refine B_region ?_
      refine L_op (env' := uS23n27) rfl rfl (by first | exact v_loadF rfl rfl rfl rfl (by first | rfl | assumption | exact fget (α := BitVec 64) 0 (by omega) | exact fget (α := Int) 0 (by omega) | exact fget0 (α := BitVec 64) 0 (by omega) | exact fget0 (α := Int) 0 (by omega) | exact fget (α := Bool) false (by omega) | exact fget0 (α := Bool) false (by omega) | (simp [*]; done)) | exact v_load rfl rfl rfl rfl (by exact get_app (j := 0) rfl hr.s1) (by first | rfl | assumption | exact fget (α := BitVec 64) 0 (by omega) | exact fget (α := Int) 0 (by omega) | exact fget0 (α := BitVec 64) 0 (by omega) | exact fget0 (α := Int) 0 (by omega) | exact fget (α := Bool) false (by omega) | exact fget0 (α := Bool) false (by omega) | (simp [*]; done))) rfl ?_
      refine L_op (env' := uS23n27) rfl rfl (by first | exact v_loadF rfl rfl rfl rfl (by first | rfl | assumption | exact fget (α := BitVec 64) 0 (by omega) | exact fget (α := Int) 0 (by omega) | exact fget0 (α := BitVec 64) 0 (by omega) | exact fget0 (α := Int) 0 (by omega) | exact fget (α := Bool) false (by omega) | exact fget0 (α := Bool) false (by omega) | (simp [*]; done)) | exact v_load rfl rfl rfl rfl (by exact get_app rfl hq) (by first | rfl | assumption | exact fget (α := BitVec 64) 0 (by omega) | exact fget (α := Int) 0 (by omega) | exact fget0 (α := BitVec 64) 0 (by omega) | exact fget0 (α := Int) 0 (by omega) | exact fget (α := Bool) false (by omega) | exact fget0 (α := Bool) false (by omega) | (simp [*]; done))) rfl ?_
      refine L_op (env' := uS23n27) rfl rfl (v_move (.inl rfl) rfl) rfl ?_
      refine L_op (env' := uS23n27) rfl rfl (rfl) rfl ?_
      refine L_op (env' := uS23n27) rfl rfl (v_buildSlice rfl rfl (by decide) rfl) rfl ?_
      refine L_opX rfl rfl (v_appX rfl rfl rfl rfl rfl rfl rfl hr.lv rfl rfl (by decide) (by have := @lkTo_len J a; have hq3 : (lkR J a pre).length = pre.length := List.length_map _; rw [List.length_append]; show (_ + _ + 1) * 16 ≤ _ ∧ _ + _ + 1 ≤ _; omega) (by decide)) ?_
      rintro _ _ ⟨Y1, rfl, rfl, hY1, hY2, hY3⟩
      refine L_env (env' := uS23n27) rfl ?_
      refine L_op (env' := uS23n27) rfl rfl (v_storeT rfl rfl rfl rfl rfl rfl rfl (by exact get_app (j := 0) rfl (by rw [List.getElem?_append_left (by rw [hY1]; exact hr.one), hY2 0 hr.n1]; exact hr.s1)) (by first | exact Nat.le_of_ble_eq_true rfl | (simp only [List.length_map, List.length_cons, List.length_nil]; omega) | omega | (simp; done) | (simp; omega)) (by first | exact set_app rfl | exact set_out (lt_of_get (by assumption)) | rfl)) rfl ?_
      refine L_nil ?_
      refine K_blk ?_
      have hN := hr.next (pr := ((a : Int), (c : Int))) (List.getElem?_set_self s.2) hq (by omega) (by omega) hv2 hv1 rfl hY1 hY2 hY3
      refine ⟨⟨_, hN.1⟩, (congrArg (H ++ ·) hN.2.1.symm), .inl ⟨rfl, ?_⟩⟩
      exact ⟨_, by rw [lkR_snoc, ← List.append_assoc]; exact hN.2.2.1, hN.2.2.2.1, hN.2.2.2.2.1, hN.2.2.2.2.2⟩
    · intro s k hk hI
      try dsimp only at hI ⊢
      obtain ⟨v, hr, hq, hv1, hv2⟩ := hI
      have hr := hr.set (k := k) (by omega : 0 < X.length + 1) hv2
      refine K_blk ?_
      refine K_blk ?_
      refine K_seq ?_
      refine B_region ?_
      refine L_op (env' := uS23n27) rfl rfl (v_addI rfl rfl rfl (by first | assumption | omega | (simp [*]; done) | (simp at *; omega))) rfl ?_
      refine L_op (env' := uS23n27) rfl rfl (v_move (.inl rfl) rfl) rfl ?_
      refine L_nil ?_
      refine K_loop [true,true,true,false,true,true,true,true,true,true,false,false,true,true,true,true,true,true,true,true,true,true,true,true,true,true,true] (env' := uS23n27) rfl ⟨a + 1, ?_, rfl, ?_⟩
      · first | omega | (simp only []; omega)
      · exact ⟨by omega, _, _, rfl, by rw [lkTo_succ]; exact hr⟩
    · rintro j pre c post s k hk hx ⟨⟩
  · try simp only [decide_eq_true_eq, decide_eq_false_iff_not, Bool.not_eq_true', Bool.not_eq_false', bne_iff_ne, beq_iff_eq, Bool.and_eq_true, Bool.or_eq_true, Bool.not_eq_true, ge_iff_le, gt_iff_lt, Int.not_le, Int.not_lt, beq_eq_false_iff_ne, bne_eq_false_iff_eq, ne_eq, Decidable.not_not, wd_zero, wd_one, wd_inj] at hc1
    refine B_exit ?_
    refine K_seqX ?_
    refine K_loopX ?_
    refine K_blkX ?_
    refine K_seq ?_
    refine B_seq ?_
    refine B_region ?_
    refine L_op (env' := uS23n27) rfl rfl (by first | exact v_loadF rfl rfl rfl rfl (by first | rfl | assumption | exact fget (α := BitVec 64) 0 (by omega) | exact fget (α := Int) 0 (by omega) | exact fget0 (α := BitVec 64) 0 (by omega) | exact fget0 (α := Int) 0 (by omega) | exact fget (α := Bool) false (by omega) | exact fget0 (α := Bool) false (by omega) | (simp [*]; done)) | exact v_load rfl rfl rfl rfl (by exact get_app (j := 0) rfl hcv.s1) (by first | rfl | assumption | exact fget (α := BitVec 64) 0 (by omega) | exact fget (α := Int) 0 (by omega) | exact fget0 (α := BitVec 64) 0 (by omega) | exact fget0 (α := Int) 0 (by omega) | exact fget (α := Bool) false (by omega) | exact fget0 (α := Bool) false (by omega) | (simp [*]; done))) rfl ?_
    refine L_op (env' := uS23n27) rfl rfl (v_move (.inr rfl) rfl) rfl ?_
    refine L_nil ?_
    refine K_seq ?_
    refine B_ret ?_
    refine E_gh (.inr rfl) (vres_tmp rfl rfl) (Gh.ansLV (BaseOk.refl _) hcv.lv (under_flatP _ _)) ?_
    obtain rfl : a = 64 := by omega
    exact ⟨rfl, rfl⟩
end Go.Proofs.YteocbhgdmpdklaaDoor.VT
