/- order's Covers: walk -/
import Derived.Test.YteocbhgdmpdklaaDoorS8
set_option autoImplicit false
set_option linter.unusedVariables false
set_option linter.unusedSimpArgs false
set_option maxHeartbeats 4000000
set_option maxRecDepth 100000
namespace Go.Proofs.YteocbhgdmpdklaaDoor.VT
open Go Go.V Go.RowKit

abbrev uS9n48 {a0 a1 a2 a3 a4 a5 a6 a7 a8 a9 a10 a11 a12 a13 a14 a15 a16 a17 a18 a19 a20 a21 a22 a23 a24 a25 a26 a27 a28 a29 a30 a31 a32 a33 a34 a35 a36 a37 a38 a39 a40 a41 a42 a43 a44 a45 a46 a47 : VVal} : VEnv := a0 :: a1 :: a2 :: a3 :: a4 :: a5 :: a6 :: a7 :: a8 :: a9 :: a10 :: a11 :: a12 :: a13 :: a14 :: a15 :: a16 :: a17 :: a18 :: a19 :: a20 :: a21 :: a22 :: a23 :: a24 :: a25 :: a26 :: a27 :: a28 :: a29 :: a30 :: a31 :: a32 :: a33 :: a34 :: a35 :: a36 :: a37 :: a38 :: a39 :: a40 :: a41 :: a42 :: a43 :: a44 :: a45 :: a46 :: a47 :: []

theorem set_same {L : VHeap} {p : Nat} {k : VBlk} (h : L[p]? = some k) : L.set p k = L := by
  apply List.ext_getElem?
  intro i
  rw [List.getElem?_set]
  by_cases e : p = i
  · subst e; rw [h]; rw [if_pos rfl, if_pos (List.getElem?_eq_some_iff.1 h).1]
  · rw [if_neg e]
/-- the list of pairs as it grows, behind a cell -/
structure CovAt (h : Nat) (ps ss : List (BitVec 64)) (l : List (Int × Int)) (v : VVal) (X : VHeap) : Prop where
  s0 : X[0]? = some (.cells [ordV ps ss] true)
  s1 : X[1]? = some (.cells [v] true)
  lv : LV h 2 X v (l.flatMap enP) l.length
  n0 : vidx v ≠ some (h + 0)
  n1 : vidx v ≠ some (h + 1)
section
variable {h : Nat} {ps ss : List (BitVec 64)} {l : List (Int × Int)} {v : VVal} {X : VHeap}
theorem CovAt.app (r : CovAt h ps ss l v X) (Y : VHeap) : CovAt h ps ss l v (X ++ Y) := ⟨get_append r.s0, get_append r.s1, r.lv.app Y, r.n0, r.n1⟩
theorem CovAt.set (r : CovAt h ps ss l v X) {p : Nat} {k : VBlk} (hp : 1 < p) (hv : vidx v ≠ some (h + p)) : CovAt h ps ss l v (X.set p k) :=
  ⟨by rw [List.getElem?_set_ne (by omega)]; exact r.s0, by rw [List.getElem?_set_ne (by omega)]; exact r.s1, r.lv.frame fun i hi => by rw [List.getElem?_set_ne (fun e => hv (by rw [hi, e]))], r.n0, r.n1⟩
theorem CovAt.two (r : CovAt h ps ss l v X) : 1 < X.length := (List.getElem?_eq_some_iff.1 r.s1).1
theorem CovAt.grow (r : CovAt h ps ss l v X) {Y1 : VHeap} {k1 k2 : VBlk} {p : Int × Int} {v' : VVal} {a b c : Nat} {ex : Bool} (hv : v' = .slice (some (h + (X.length + 1), 0)) a b ex c) (hl : Y1.length = X.length) (hf : ∀ i, vidx v ≠ some (h + i) → Y1[i]? = X[i]?)
    (h3 : LV h 2 (Y1 ++ [k1, k2]) v' (l.flatMap enP ++ [iI p.1, iI p.2]) (l.length + 1)) : CovAt h ps ss (l ++ [p]) v' ((Y1 ++ [k1, k2]).set 1 (.cells [v'] true)) := by
  have h2 := r.two
  refine ⟨?_, ?_, (LV.pair h3).frame fun i hi => ?_, ?_, ?_⟩
  · rw [List.getElem?_set_ne (by omega), List.getElem?_append_left (by omega), hf 0 r.n0]; exact r.s0
  · rw [List.getElem?_set_self (by simp)]
  · rw [List.getElem?_set_ne]
    subst hv; simp only [vidx, Option.some.injEq] at hi; omega
  · subst hv; simp only [vidx, ne_eq, Option.some.injEq]; omega
  · subst hv; simp only [vidx, ne_eq, Option.some.injEq]; omega
theorem CovAt.next (r : CovAt h ps ss l v X) {Y1 : VHeap} {k1 k2 kb ka : VBlk} {pr : Int × Int} {v' : VVal} {a b c p q : Nat} {ex : Bool} (hp : X[p]? = some kb) (hq : X[q]? = some ka) (hp1 : 1 < p) (hq1 : 1 < q) (hvp : vidx v ≠ some (h + p)) (hvq : vidx v ≠ some (h + q))
    (hv : v' = .slice (some (h + (X.length + 1), 0)) a b ex c) (hl : Y1.length = X.length) (hf : ∀ i, vidx v ≠ some (h + i) → Y1[i]? = X[i]?) (h3 : LV h 2 (Y1 ++ [k1, k2]) v' (l.flatMap enP ++ [iI pr.1, iI pr.2]) (l.length + 1)) :
    p < ((Y1 ++ [k1, k2]).set 1 (.cells [v'] true)).length ∧ ((Y1 ++ [k1, k2]).set 1 (.cells [v'] true)).set p kb = (Y1 ++ [k1, k2]).set 1 (.cells [v'] true) ∧ CovAt h ps ss (l ++ [pr]) v' ((Y1 ++ [k1, k2]).set 1 (.cells [v'] true)) ∧ ((Y1 ++ [k1, k2]).set 1 (.cells [v'] true))[q]? = some ka ∧ vidx v' ≠ some (h + q) ∧ vidx v' ≠ some (h + p) := by
  have hpl := (List.getElem?_eq_some_iff.1 hp).1
  have hql := (List.getElem?_eq_some_iff.1 hq).1
  refine ⟨by simp; omega, set_same ?_, r.grow hv hl hf h3, ?_, ?_, ?_⟩
  · rw [List.getElem?_set_ne (by omega), List.getElem?_append_left (by omega), hf p hvp]; exact hp
  · rw [List.getElem?_set_ne (by omega), List.getElem?_append_left (by omega), hf q hvq]; exact hq
  · subst hv; simp only [vidx, ne_eq, Option.some.injEq]; omega
  · subst hv; simp only [vidx, ne_eq, Option.some.injEq]; omega
end
theorem get_last {X : VHeap} {k : VBlk} : (X ++ [k])[X.length]? = some k := by simp
theorem set_last {X : VHeap} {k k' : VBlk} : (X ++ [k]).set X.length k' = X ++ [k'] := by simp
theorem pl_len (w : BitVec 64) : (pl w 0).length ≤ 64 := by unfold pl; exact Nat.le_trans (List.length_filter_le _ _) (by simp)
theorem pcRow_len {ps ss : List (BitVec 64)} {a : Nat} {l : List Nat} : (pcRow ps ss a l).length ≤ l.length := by
  unfold pcRow; rw [List.length_map]; exact List.length_filter_le _ _
theorem pcTo_len {ps ss : List (BitVec 64)} : ∀ {a : Nat}, (pcTo ps ss a).length ≤ a * 64
  | 0 => by simp [pcTo]
  | a + 1 => by
    rw [pcTo_succ, List.length_append]
    have := @pcTo_len ps ss a
    have := @pcRow_len ps ss a (pl (ss.getD a 0) 0)
    have := pl_len (ss.getD a 0)
    omega

theorem Covers_spec {x : SW} (H : VHeap) (m : Nat) (R : Nat → Nat → Bool) (ps ss : List (BitVec 64)) (ho : Ord m R ps ss) : F (psys x) 15 [ordV ps ss] H fun v G => v = fzP (cvL m R) ∧ G = H := by
  have hm := ho.le
  have hsl := ho.sl
  refine F_body Tryd.func15 rfl uS9n48 rfl ?_
  refine B_seq ?_
  refine B_region ?_
  refine L_op (env' := uS9n48) rfl rfl (v_boxT rfl rfl rfl) rfl ?_
  refine L_op (env' := uS9n48) rfl rfl (v_const (VVal.slice none 0 0 true 0) (.inr rfl) rfl) rfl ?_
  refine L_nil ?_
  refine K_seq ?_
  refine B_seq ?_
  refine B_region ?_
  refine L_op (env' := uS9n48) rfl rfl (v_alloc rfl rfl) rfl ?_
  refine L_nil ?_
  refine K_seq ?_
  refine B_seq ?_
  refine B_seq ?_
  refine B_region ?_
  refine L_op (env' := uS9n48) rfl rfl (by first | exact v_loadF rfl rfl rfl rfl (by first | rfl | assumption | exact fget (α := BitVec 64) 0 (by omega) | exact fget (α := Int) 0 (by omega) | exact fget0 (α := BitVec 64) 0 (by omega) | exact fget0 (α := Int) 0 (by omega) | exact fget (α := Bool) false (by omega) | exact fget0 (α := Bool) false (by omega) | (simp [*]; done)) | exact v_load rfl rfl rfl rfl (by first | exact get_app rfl rfl | exact get_out (by assumption) | assumption | (simp [*]; done)) (by first | rfl | assumption | exact fget (α := BitVec 64) 0 (by omega) | exact fget (α := Int) 0 (by omega) | exact fget0 (α := BitVec 64) 0 (by omega) | exact fget0 (α := Int) 0 (by omega) | exact fget (α := Bool) false (by omega) | exact fget0 (α := Bool) false (by omega) | (simp [*]; done))) rfl ?_
  refine L_op (env' := uS9n48) rfl rfl (rfl) rfl ?_
  refine L_op (env' := uS9n48) rfl rfl (rfl) rfl ?_
  refine L_op (env' := uS9n48) rfl rfl (by first | exact v_loadF rfl rfl rfl rfl (by first | rfl | assumption | exact fget (α := BitVec 64) 0 (by omega) | exact fget (α := Int) 0 (by omega) | exact fget0 (α := BitVec 64) 0 (by omega) | exact fget0 (α := Int) 0 (by omega) | exact fget (α := Bool) false (by omega) | exact fget0 (α := Bool) false (by omega) | (simp [*]; done)) | exact v_load rfl rfl rfl rfl (by first | exact get_app rfl rfl | exact get_out (by assumption) | assumption | (simp [*]; done)) (by first | rfl | assumption | exact fget (α := BitVec 64) 0 (by omega) | exact fget (α := Int) 0 (by omega) | exact fget0 (α := BitVec 64) 0 (by omega) | exact fget0 (α := Int) 0 (by omega) | exact fget (α := Bool) false (by omega) | exact fget0 (α := Bool) false (by omega) | (simp [*]; done))) rfl ?_
  refine L_op (env' := uS9n48) rfl rfl (rfl) rfl ?_
  refine L_op (env' := uS9n48) rfl rfl (v_const (VVal.int .i64 0) (.inl rfl) rfl) rfl ?_
  refine L_nil ?_
  refine K_seq ?_
  refine B_block ?_
  refine B_clear [true,false,true,false,true,true,true,true,true,true,false,false,true,true,true,true,true,true,true,true,true,true,true,true,true,true,true,true,true,true,true,true,true,true,true,true,true,true,true,true,true,true,true,true,true,true,true,true] (env' := uS9n48) rfl ?_
  refine B_loopE (fun (a : Nat) => m - a) (fun (a : Nat) => [(11, iI (a : Nat))]) (fun (a : Nat) G => (a ≤ m) ∧ ∃ X v, G = H ++ X ∧ CovAt H.length ps ss (pcTo ps ss a) v X) 0 rfl ?_ ?_
  · refine ⟨?_, ⟨_, _, rfl, ⟨rfl, rfl, LV.nil _ _ _, by simp [vidx], by simp [vidx]⟩⟩⟩
    exact Nat.zero_le _
  rintro a _ ⟨ha, ⟨X, v, rfl, hcv⟩⟩
  refine B_env (env' := uS9n48) rfl ?_
  refine B_seq ?_
  refine B_region ?_
  refine L_op (env' := uS9n48) rfl rfl (rfl) rfl ?_
  refine L_nil ?_
  refine K_seq ?_
  refine B_seq ?_
  refine B_cond _ rfl (fun hc1 => ?_) (fun hc1 => ?_)
  · try simp only [decide_eq_true_eq, decide_eq_false_iff_not, Bool.not_eq_true', Bool.not_eq_false', bne_iff_ne, beq_iff_eq, Bool.and_eq_true, Bool.or_eq_true, Bool.not_eq_true, ge_iff_le, gt_iff_lt, Int.not_le, Int.not_lt, beq_eq_false_iff_ne, bne_eq_false_iff_eq, ne_eq, Decidable.not_not, wd_zero, wd_one, wd_inj] at hc1
    refine B_skip ?_
    refine K_seq ?_
    refine B_seq ?_
    refine B_block ?_
    refine B_seq ?_
    refine B_region ?_
    refine L_op (env' := uS9n48) rfl rfl (v_move (.inl rfl) rfl) rfl ?_
    refine L_op (env' := uS9n48) rfl rfl (v_alloc rfl rfl) rfl ?_
    refine L_op (env' := uS9n48) rfl rfl (v_storeT rfl rfl rfl rfl rfl rfl rfl (by exact get_app rfl get_last) (by first | exact Nat.le_of_ble_eq_true rfl | (simp only [List.length_map, List.length_cons, List.length_nil]; omega) | omega | (simp; done) | (simp; omega)) (by first | exact set_app rfl | exact set_out (lt_of_get (by assumption)) | rfl)) rfl ?_
    refine L_heap (H' := H ++ (X ++ [.cells [iI (a : Nat)] true])) (by rw [set_last]; rfl) ?_
    refine L_nil ?_
    refine K_seq ?_
    refine B_seq ?_
    refine B_draw [0, 1, 2, 3, 4, 5, 6, 7, 8] #[0, 1, 3, 7, 0, 31, 63, 127, 255] (by kernel_rfl) (by kernel_rfl) (by kernel_rfl) ?_
    refine O_op (env' := uS9n48) (c := .look) rfl rfl rfl (by first | exact v_loadF rfl rfl rfl rfl (by first | rfl | assumption | exact fget (α := BitVec 64) 0 (by omega) | exact fget (α := Int) 0 (by omega) | exact fget0 (α := BitVec 64) 0 (by omega) | exact fget0 (α := Int) 0 (by omega) | exact fget (α := Bool) false (by omega) | exact fget0 (α := Bool) false (by omega) | (simp [*]; done)) | exact v_load rfl rfl rfl rfl (by exact get_app (j := 0) rfl (hcv.app _).s0) (by first | rfl | assumption | exact fget (α := BitVec 64) 0 (by omega) | exact fget (α := Int) 0 (by omega) | exact fget0 (α := BitVec 64) 0 (by omega) | exact fget0 (α := Int) 0 (by omega) | exact fget (α := Bool) false (by omega) | exact fget0 (α := Bool) false (by omega) | (simp [*]; done))) rfl rfl rfl ?_
    refine O_op (env' := uS9n48) (c := .calm) rfl rfl rfl (rfl) rfl rfl rfl ?_
    refine O_op (env' := uS9n48) (c := .calm) rfl rfl rfl (rfl) rfl rfl rfl ?_
    refine O_op (env' := uS9n48) (c := .look) rfl rfl rfl (by first | exact v_loadF rfl rfl rfl rfl (by first | rfl | assumption | exact fget (α := BitVec 64) 0 (by omega) | exact fget (α := Int) 0 (by omega) | exact fget0 (α := BitVec 64) 0 (by omega) | exact fget0 (α := Int) 0 (by omega) | exact fget (α := Bool) false (by omega) | exact fget0 (α := Bool) false (by omega) | (simp [*]; done)) | exact v_load rfl rfl rfl rfl (by first | exact get_app rfl rfl | exact get_out (by assumption) | assumption | (simp [*]; done)) (by first | rfl | assumption | exact fget (α := BitVec 64) 0 (by omega) | exact fget (α := Int) 0 (by omega) | exact fget0 (α := BitVec 64) 0 (by omega) | exact fget0 (α := Int) 0 (by omega) | exact fget (α := Bool) false (by omega) | exact fget0 (α := Bool) false (by omega) | (simp [*]; done))) rfl rfl rfl ?_
    refine O_op (env' := uS9n48) (c := .look) rfl rfl rfl (by first | exact v_loadF rfl rfl rfl rfl (by first | rfl | assumption | exact fget (α := BitVec 64) 0 (by omega) | exact fget (α := Int) 0 (by omega) | exact fget0 (α := BitVec 64) 0 (by omega) | exact fget0 (α := Int) 0 (by omega) | exact fget (α := Bool) false (by omega) | exact fget0 (α := Bool) false (by omega) | (simp [*]; done)) | exact v_load rfl rfl rfl rfl (by exact get_app rfl get_last) (by first | rfl | assumption | exact fget (α := BitVec 64) 0 (by omega) | exact fget (α := Int) 0 (by omega) | exact fget0 (α := BitVec 64) 0 (by omega) | exact fget0 (α := Int) 0 (by omega) | exact fget (α := Bool) false (by omega) | exact fget0 (α := Bool) false (by omega) | (simp [*]; done))) rfl rfl rfl ?_
    refine O_op (env' := uS9n48) (c := .calm) rfl rfl rfl (by first | exact v_idxF rfl rfl rfl rfl rfl rfl rfl (by first | assumption | omega | (simp [*]; done) | (simp at *; omega)) | exact v_idx rfl rfl rfl rfl rfl rfl rfl (by first | assumption | omega | (simp [*]; done) | (simp at *; omega))) rfl rfl rfl ?_
    refine O_op (env' := uS9n48) (c := .look) rfl rfl rfl (by first | exact v_loadF rfl rfl rfl rfl (by first | rfl | assumption | exact fget (α := BitVec 64) 0 (by omega) | exact fget (α := Int) 0 (by omega) | exact fget0 (α := BitVec 64) 0 (by omega) | exact fget0 (α := Int) 0 (by omega) | exact fget (α := Bool) false (by omega) | exact fget0 (α := Bool) false (by omega) | (simp [*]; done)) | exact v_load rfl rfl rfl rfl (by first | exact get_app rfl rfl | exact get_out (by assumption) | assumption | (simp [*]; done)) (by first | rfl | assumption | exact fget (α := BitVec 64) 0 (by omega) | exact fget (α := Int) 0 (by omega) | exact fget0 (α := BitVec 64) 0 (by omega) | exact fget0 (α := Int) 0 (by omega) | exact fget (α := Bool) false (by omega) | exact fget0 (α := Bool) false (by omega) | (simp [*]; done))) rfl rfl rfl ?_
    refine O_call (env' := uS9n48) rfl rfl rfl rfl rfl (by exact of_spec _ _) (by first | exact Nat.le_refl _ | simp) rfl rfl ?_
    refine O_call (env' := uS9n48) rfl rfl rfl rfl rfl (by exact All_spec _ _) (by first | exact Nat.le_refl _ | simp) rfl rfl ?_
    refine O_nil [] (by kernel_rfl) (trivial) ?_
    refine K_seq ?_
    refine B_block ?_
    refine B_clear [true,false,true,false,false,true,true,true,true,true,false,false,true,true,true,true,true,true,true,true,true,true,false,true,true,true,true,true,true,true,true,true,true,true,true,true,true,true,true,true,true,true,true,true,true,true,true,true] (env' := uS9n48) rfl ?_
    have hX2 := hcv.two
    have hvX : vidx v ≠ some (H.length + X.length) := hcv.lv.ne (Nat.le_refl _)
    have hvX1 : vidx v ≠ some (H.length + (X.length + 1)) := hcv.lv.ne (by omega)
    refine B_rangeM cI (pl (ss.getD (a : Int).toNat 0) 0) (fun l0 h => by cases h) rfl (fun l G R h => All1_spec _ _ _ _ h) (σ := { Z : VHeap // (X.length + 1) < Z.length }) (fun k s => H ++ s.1.set (X.length + 1) k) ⟨X ++ [.cells [iI (a : Nat)] true] ++ [.dead], by simp⟩ (fun k => by simp) (fun k s => by rw [List.length_append]; exact get_app rfl (by rw [List.length_append, List.length_singleton, List.getElem?_set_self s.2])) (fun k k1 s => by rw [List.length_append, set_app rfl, List.length_append, List.length_singleton, List.set_set]) (fun pre s => ∃ v, CovAt H.length ps ss (pcTo ps ss a ++ pcRow ps ss a pre) v s.1 ∧ s.1[X.length]? = some (.cells [iI (a : Nat)] true) ∧ vidx v ≠ some (H.length + X.length) ∧ vidx v ≠ some (H.length + (X.length + 1))) ?_ (fun j pre c s => False) rfl ?_ ?_ ?_
    · exact ⟨v, by rw [show pcRow ps ss a [] = [] from rfl, List.append_nil]; exact (hcv.app _).app _, by simp, hvX, hvX1⟩
    · intro pre c post s hx hI kr kb hkr hkb
      try dsimp only at hI ⊢
      obtain ⟨v, hr0, hq0, hv1, hv2⟩ := hI
      have hr := hr0.set (k := kb) (by omega : 1 < X.length + 1) hv2
      have hq : (s.1.set (X.length + 1) kb)[X.length]? = some (.cells [iI (a : Nat)] true) := by rw [List.getElem?_set_ne (by omega)]; exact hq0
      have hc : c ∈ pl (ss.getD a 0) 0 := by show c ∈ pl (ss.getD (a : Int).toNat 0) 0; rw [hx]; simp
      obtain ⟨_, hc64, hcb⟩ := mem_pl.1 hc
      have hcm : c < m := (ho.rg _ _ (by rw [← ho.sg a (by omega)]; exact hcb)).2
      have hps : ps.length = m := ho.pl
      have hpl : pre.length ≤ 64 := by
        have h1 := pl_len (ss.getD (a : Int).toNat 0)
        rw [hx] at h1; simp at h1; omega
      refine B_env (env' := uS9n48) rfl ?_
      refine B_region ?_
      refine L_op (env' := uS9n48) rfl rfl (v_move (.inr rfl) rfl) rfl ?_
      refine L_nil ?_
      refine ⟨rfl, s, rfl, ?_⟩
      try dsimp only
      refine B_block ?_
      refine B_seq ?_
      refine B_draw [0, 1, 2, 3, 4, 5, 6, 7, 8, 9, 10, 11, 12, 13, 14, 15] #[0, 1, 3, 7, 0, 31, 63, 0, 128, 384, 896, 0, 3968, 8064, 16383, 32767] (by kernel_rfl) (by kernel_rfl) (by kernel_rfl) ?_
      refine O_op (env' := uS9n48) (c := .look) rfl rfl rfl (by first | exact v_loadF rfl rfl rfl rfl (by first | rfl | assumption | exact fget (α := BitVec 64) 0 (by omega) | exact fget (α := Int) 0 (by omega) | exact fget0 (α := BitVec 64) 0 (by omega) | exact fget0 (α := Int) 0 (by omega) | exact fget (α := Bool) false (by omega) | exact fget0 (α := Bool) false (by omega) | (simp [*]; done)) | exact v_load rfl rfl rfl rfl (by exact get_app (j := 0) rfl hr.s0) (by first | rfl | assumption | exact fget (α := BitVec 64) 0 (by omega) | exact fget (α := Int) 0 (by omega) | exact fget0 (α := BitVec 64) 0 (by omega) | exact fget0 (α := Int) 0 (by omega) | exact fget (α := Bool) false (by omega) | exact fget0 (α := Bool) false (by omega) | (simp [*]; done))) rfl rfl rfl ?_
      refine O_op (env' := uS9n48) (c := .calm) rfl rfl rfl (rfl) rfl rfl rfl ?_
      refine O_op (env' := uS9n48) (c := .calm) rfl rfl rfl (rfl) rfl rfl rfl ?_
      refine O_op (env' := uS9n48) (c := .look) rfl rfl rfl (by first | exact v_loadF rfl rfl rfl rfl (by first | rfl | assumption | exact fget (α := BitVec 64) 0 (by omega) | exact fget (α := Int) 0 (by omega) | exact fget0 (α := BitVec 64) 0 (by omega) | exact fget0 (α := Int) 0 (by omega) | exact fget (α := Bool) false (by omega) | exact fget0 (α := Bool) false (by omega) | (simp [*]; done)) | exact v_load rfl rfl rfl rfl (by first | exact get_app rfl rfl | exact get_out (by assumption) | assumption | (simp [*]; done)) (by first | rfl | assumption | exact fget (α := BitVec 64) 0 (by omega) | exact fget (α := Int) 0 (by omega) | exact fget0 (α := BitVec 64) 0 (by omega) | exact fget0 (α := Int) 0 (by omega) | exact fget (α := Bool) false (by omega) | exact fget0 (α := Bool) false (by omega) | (simp [*]; done))) rfl rfl rfl ?_
      refine O_op (env' := uS9n48) (c := .look) rfl rfl rfl (by first | exact v_loadF rfl rfl rfl rfl (by first | rfl | assumption | exact fget (α := BitVec 64) 0 (by omega) | exact fget (α := Int) 0 (by omega) | exact fget0 (α := BitVec 64) 0 (by omega) | exact fget0 (α := Int) 0 (by omega) | exact fget (α := Bool) false (by omega) | exact fget0 (α := Bool) false (by omega) | (simp [*]; done)) | exact v_load rfl rfl rfl rfl (by exact get_app rfl hq) (by first | rfl | assumption | exact fget (α := BitVec 64) 0 (by omega) | exact fget (α := Int) 0 (by omega) | exact fget0 (α := BitVec 64) 0 (by omega) | exact fget0 (α := Int) 0 (by omega) | exact fget (α := Bool) false (by omega) | exact fget0 (α := Bool) false (by omega) | (simp [*]; done))) rfl rfl rfl ?_
      refine O_op (env' := uS9n48) (c := .calm) rfl rfl rfl (by first | exact v_idxF rfl rfl rfl rfl rfl rfl rfl (by first | assumption | omega | (simp [*]; done) | (simp at *; omega)) | exact v_idx rfl rfl rfl rfl rfl rfl rfl (by first | assumption | omega | (simp [*]; done) | (simp at *; omega))) rfl rfl rfl ?_
      refine O_op (env' := uS9n48) (c := .look) rfl rfl rfl (by first | exact v_loadF rfl rfl rfl rfl (by first | rfl | assumption | exact fget (α := BitVec 64) 0 (by omega) | exact fget (α := Int) 0 (by omega) | exact fget0 (α := BitVec 64) 0 (by omega) | exact fget0 (α := Int) 0 (by omega) | exact fget (α := Bool) false (by omega) | exact fget0 (α := Bool) false (by omega) | (simp [*]; done)) | exact v_load rfl rfl rfl rfl (by first | exact get_app rfl rfl | exact get_out (by assumption) | assumption | (simp [*]; done)) (by first | rfl | assumption | exact fget (α := BitVec 64) 0 (by omega) | exact fget (α := Int) 0 (by omega) | exact fget0 (α := BitVec 64) 0 (by omega) | exact fget0 (α := Int) 0 (by omega) | exact fget (α := Bool) false (by omega) | exact fget0 (α := Bool) false (by omega) | (simp [*]; done))) rfl rfl rfl ?_
      refine O_op (env' := uS9n48) (c := .look) rfl rfl rfl (by first | exact v_loadF rfl rfl rfl rfl (by first | rfl | assumption | exact fget (α := BitVec 64) 0 (by omega) | exact fget (α := Int) 0 (by omega) | exact fget0 (α := BitVec 64) 0 (by omega) | exact fget0 (α := Int) 0 (by omega) | exact fget (α := Bool) false (by omega) | exact fget0 (α := Bool) false (by omega) | (simp [*]; done)) | exact v_load rfl rfl rfl rfl (by exact get_app (j := 0) rfl hr.s0) (by first | rfl | assumption | exact fget (α := BitVec 64) 0 (by omega) | exact fget (α := Int) 0 (by omega) | exact fget0 (α := BitVec 64) 0 (by omega) | exact fget0 (α := Int) 0 (by omega) | exact fget (α := Bool) false (by omega) | exact fget0 (α := Bool) false (by omega) | (simp [*]; done))) rfl rfl rfl ?_
      refine O_op (env' := uS9n48) (c := .calm) rfl rfl rfl (rfl) rfl rfl rfl ?_
      refine O_op (env' := uS9n48) (c := .calm) rfl rfl rfl (rfl) rfl rfl rfl ?_
      refine O_op (env' := uS9n48) (c := .look) rfl rfl rfl (by first | exact v_loadF rfl rfl rfl rfl (by first | rfl | assumption | exact fget (α := BitVec 64) 0 (by omega) | exact fget (α := Int) 0 (by omega) | exact fget0 (α := BitVec 64) 0 (by omega) | exact fget0 (α := Int) 0 (by omega) | exact fget (α := Bool) false (by omega) | exact fget0 (α := Bool) false (by omega) | (simp [*]; done)) | exact v_load rfl rfl rfl rfl (by first | exact get_app rfl rfl | exact get_out (by assumption) | assumption | (simp [*]; done)) (by first | rfl | assumption | exact fget (α := BitVec 64) 0 (by omega) | exact fget (α := Int) 0 (by omega) | exact fget0 (α := BitVec 64) 0 (by omega) | exact fget0 (α := Int) 0 (by omega) | exact fget (α := Bool) false (by omega) | exact fget0 (α := Bool) false (by omega) | (simp [*]; done))) rfl rfl rfl ?_
      refine O_op (env' := uS9n48) (c := .calm) rfl rfl rfl (v_move (.inl rfl) rfl) rfl rfl rfl ?_
      refine O_op (env' := uS9n48) (c := .calm) rfl rfl rfl (by first | exact v_idxF rfl rfl rfl rfl rfl rfl rfl (by first | assumption | omega | (simp [*]; done) | (simp at *; omega)) | exact v_idx rfl rfl rfl rfl rfl rfl rfl (by first | assumption | omega | (simp [*]; done) | (simp at *; omega))) rfl rfl rfl ?_
      refine O_op (env' := uS9n48) (c := .look) rfl rfl rfl (by first | exact v_loadF rfl rfl rfl rfl (by first | rfl | assumption | exact fget (α := BitVec 64) 0 (by omega) | exact fget (α := Int) 0 (by omega) | exact fget0 (α := BitVec 64) 0 (by omega) | exact fget0 (α := Int) 0 (by omega) | exact fget (α := Bool) false (by omega) | exact fget0 (α := Bool) false (by omega) | (simp [*]; done)) | exact v_load rfl rfl rfl rfl (by first | exact get_app rfl rfl | exact get_out (by assumption) | assumption | (simp [*]; done)) (by first | rfl | assumption | exact fget (α := BitVec 64) 0 (by omega) | exact fget (α := Int) 0 (by omega) | exact fget0 (α := BitVec 64) 0 (by omega) | exact fget0 (α := Int) 0 (by omega) | exact fget (α := Bool) false (by omega) | exact fget0 (α := Bool) false (by omega) | (simp [*]; done))) rfl rfl rfl ?_
      refine O_op (env' := uS9n48) (c := .calm) rfl rfl rfl (v_andW rfl rfl rfl) rfl rfl rfl ?_
      refine O_op (env' := uS9n48) (c := .calm) rfl rfl rfl (rfl) rfl rfl rfl ?_
      refine O_nil [] (by kernel_rfl) (trivial) ?_
      refine K_seq ?_
      refine B_cond _ rfl (fun hc2 => ?_) (fun hc2 => ?_)
      · try simp only [decide_eq_true_eq, decide_eq_false_iff_not, Bool.not_eq_true', Bool.not_eq_false', bne_iff_ne, beq_iff_eq, Bool.and_eq_true, Bool.or_eq_true, Bool.not_eq_true, ge_iff_le, gt_iff_lt, Int.not_le, Int.not_lt, beq_eq_false_iff_ne, bne_eq_false_iff_eq, ne_eq, Decidable.not_not, wd_zero, wd_one, wd_inj] at hc2
        refine B_region ?_
        refine L_op (env' := uS9n48) rfl rfl (by first | exact v_loadF rfl rfl rfl rfl (by first | rfl | assumption | exact fget (α := BitVec 64) 0 (by omega) | exact fget (α := Int) 0 (by omega) | exact fget0 (α := BitVec 64) 0 (by omega) | exact fget0 (α := Int) 0 (by omega) | exact fget (α := Bool) false (by omega) | exact fget0 (α := Bool) false (by omega) | (simp [*]; done)) | exact v_load rfl rfl rfl rfl (by exact get_app (j := 1) rfl hr.s1) (by first | rfl | assumption | exact fget (α := BitVec 64) 0 (by omega) | exact fget (α := Int) 0 (by omega) | exact fget0 (α := BitVec 64) 0 (by omega) | exact fget0 (α := Int) 0 (by omega) | exact fget (α := Bool) false (by omega) | exact fget0 (α := Bool) false (by omega) | (simp [*]; done))) rfl ?_
        refine L_op (env' := uS9n48) rfl rfl (by first | exact v_loadF rfl rfl rfl rfl (by first | rfl | assumption | exact fget (α := BitVec 64) 0 (by omega) | exact fget (α := Int) 0 (by omega) | exact fget0 (α := BitVec 64) 0 (by omega) | exact fget0 (α := Int) 0 (by omega) | exact fget (α := Bool) false (by omega) | exact fget0 (α := Bool) false (by omega) | (simp [*]; done)) | exact v_load rfl rfl rfl rfl (by exact get_app rfl hq) (by first | rfl | assumption | exact fget (α := BitVec 64) 0 (by omega) | exact fget (α := Int) 0 (by omega) | exact fget0 (α := BitVec 64) 0 (by omega) | exact fget0 (α := Int) 0 (by omega) | exact fget (α := Bool) false (by omega) | exact fget0 (α := Bool) false (by omega) | (simp [*]; done))) rfl ?_
        refine L_op (env' := uS9n48) rfl rfl (v_move (.inl rfl) rfl) rfl ?_
        refine L_op (env' := uS9n48) rfl rfl (rfl) rfl ?_
        refine L_op (env' := uS9n48) rfl rfl (v_buildSlice rfl rfl (by decide) rfl) rfl ?_
        refine L_opX rfl rfl (v_appX rfl rfl rfl rfl rfl rfl rfl hr.lv rfl rfl (by decide) (by have := @pcTo_len ps ss a; have := @pcRow_len ps ss a pre; rw [List.length_append]; show (_ + _ + 1) * 16 ≤ _ ∧ _ + _ + 1 ≤ _; omega) (by decide)) ?_
        rintro _ _ ⟨Y1, rfl, rfl, hY1, hY2, hY3⟩
        refine L_env (env' := uS9n48) rfl ?_
        refine L_op (env' := uS9n48) rfl rfl (v_storeT rfl rfl rfl rfl rfl rfl rfl (by exact get_app (j := 1) rfl (by rw [List.getElem?_append_left (by rw [hY1]; exact hr.two), hY2 1 hr.n1]; exact hr.s1)) (by first | exact Nat.le_of_ble_eq_true rfl | (simp only [List.length_map, List.length_cons, List.length_nil]; omega) | omega | (simp; done) | (simp; omega)) (by first | exact set_app rfl | exact set_out (lt_of_get (by assumption)) | rfl)) rfl ?_
        refine L_nil ?_
        refine K_blk ?_
        have hN := hr.next (pr := ((a : Int), (c : Int))) (List.getElem?_set_self s.2) hq (by omega) (by omega) hv2 hv1 rfl hY1 hY2 hY3
        refine ⟨⟨_, hN.1⟩, (congrArg (H ++ ·) hN.2.1.symm), .inl ⟨rfl, ?_⟩⟩
        exact ⟨_, by rw [pcRow_yes (show ss.getD a 0 &&& ps.getD c 0 = 0#64 from hc2), ← List.append_assoc]; exact hN.2.2.1, hN.2.2.2.1, hN.2.2.2.2.1, hN.2.2.2.2.2⟩
      · try simp only [decide_eq_true_eq, decide_eq_false_iff_not, Bool.not_eq_true', Bool.not_eq_false', bne_iff_ne, beq_iff_eq, Bool.and_eq_true, Bool.or_eq_true, Bool.not_eq_true, ge_iff_le, gt_iff_lt, Int.not_le, Int.not_lt, beq_eq_false_iff_ne, bne_eq_false_iff_eq, ne_eq, Decidable.not_not, wd_zero, wd_one, wd_inj] at hc2
        refine B_skip ?_
        refine K_blk ?_
        refine ⟨s, rfl, .inl ⟨rfl, ?_⟩⟩
        exact ⟨v, by rw [pcRow_no (show ¬ ss.getD a 0 &&& ps.getD c 0 = 0#64 from hc2)]; exact hr0, hq0, hv1, hv2⟩
    · intro s k hk hI
      try dsimp only at hI ⊢
      obtain ⟨v, hr, hq, hv1, hv2⟩ := hI
      have hr := hr.set (k := k) (by omega : 1 < X.length + 1) hv2
      refine K_blk ?_
      refine K_blk ?_
      refine K_seq ?_
      refine B_region ?_
      refine L_op (env' := uS9n48) rfl rfl (v_addI rfl rfl rfl (by first | assumption | omega | (simp [*]; done) | (simp at *; omega))) rfl ?_
      refine L_op (env' := uS9n48) rfl rfl (v_move (.inl rfl) rfl) rfl ?_
      refine L_nil ?_
      refine K_loop [true,false,true,false,true,true,true,true,true,true,false,false,true,true,true,true,true,true,true,true,true,true,true,true,true,true,true,true,true,true,true,true,true,true,true,true,true,true,true,true,true,true,true,true,true,true,true,true] (env' := uS9n48) rfl ⟨a + 1, ?_, rfl, ?_⟩
      · first | omega | (simp only []; omega)
      · exact ⟨by omega, _, _, rfl, by rw [pcTo_succ]; exact hr⟩
    · rintro j pre c post s k hk hx ⟨⟩
  · try simp only [decide_eq_true_eq, decide_eq_false_iff_not, Bool.not_eq_true', Bool.not_eq_false', bne_iff_ne, beq_iff_eq, Bool.and_eq_true, Bool.or_eq_true, Bool.not_eq_true, ge_iff_le, gt_iff_lt, Int.not_le, Int.not_lt, beq_eq_false_iff_ne, bne_eq_false_iff_eq, ne_eq, Decidable.not_not, wd_zero, wd_one, wd_inj] at hc1
    refine B_exit ?_
    refine K_seqX ?_
    refine K_loopX ?_
    refine K_blkX ?_
    refine K_seq ?_
    refine B_seq ?_
    refine B_region ?_
    refine L_op (env' := uS9n48) rfl rfl (by first | exact v_loadF rfl rfl rfl rfl (by first | rfl | assumption | exact fget (α := BitVec 64) 0 (by omega) | exact fget (α := Int) 0 (by omega) | exact fget0 (α := BitVec 64) 0 (by omega) | exact fget0 (α := Int) 0 (by omega) | exact fget (α := Bool) false (by omega) | exact fget0 (α := Bool) false (by omega) | (simp [*]; done)) | exact v_load rfl rfl rfl rfl (by exact get_app (j := 1) rfl hcv.s1) (by first | rfl | assumption | exact fget (α := BitVec 64) 0 (by omega) | exact fget (α := Int) 0 (by omega) | exact fget0 (α := BitVec 64) 0 (by omega) | exact fget0 (α := Int) 0 (by omega) | exact fget (α := Bool) false (by omega) | exact fget0 (α := Bool) false (by omega) | (simp [*]; done))) rfl ?_
    refine L_op (env' := uS9n48) rfl rfl (v_move (.inr rfl) rfl) rfl ?_
    refine L_nil ?_
    refine K_seq ?_
    refine B_ret ?_
    refine E_gh (.inr rfl) (vres_tmp rfl rfl) (Gh.ansLV (BaseOk.refl _) hcv.lv (under_flatP _ _)) ?_
    obtain rfl : a = m := by omega
    exact ⟨by rw [ho.pcv], rfl⟩

theorem Before_at {x : SW} (H : VHeap) {m : Nat} {R : Nat → Nat → Bool} {ps ss : List (BitVec 64)} (o : V.Ord m R ps ss) (a b : Int) : F (psys x) 19 [ordV ps ss, iI a, iI b] H fun v G => v = .bool (bfr m R a b) ∧ G = H := by
  have := Before_spec (x := x) H ps ss (by rw [o.pl, o.sl]) a b
  rw [o.bf] at this; exact this
theorem Preds_at {x : SW} (H : VHeap) {m : Nat} {R : Nat → Nat → Bool} {ps ss : List (BitVec 64)} (o : V.Ord m R ps ss) (a : Int) : F (psys x) 18 [ordV ps ss, iI a] H fun v G => v = iW (prW m R a) ∧ G = H := by
  have := Preds_spec (x := x) H ps ss a
  rw [o.prs] at this; exact this
theorem Succs_at {x : SW} (H : VHeap) {m : Nat} {R : Nat → Nat → Bool} {ps ss : List (BitVec 64)} (o : V.Ord m R ps ss) (a : Int) : F (psys x) 24 [ordV ps ss, iI a] H fun v G => v = iW (suW m R a) ∧ G = H := by
  have := Succs_spec (x := x) H ps ss (by rw [o.pl, o.sl]) a
  rw [o.sus] at this; exact this
theorem Ready_at {x : SW} (H : VHeap) {m : Nat} {R : Nat → Nat → Bool} {ps ss : List (BitVec 64)} (o : V.Ord m R ps ss) (d : BitVec 64) : F (psys x) 22 [ordV ps ss, iW d] H fun v G => v = iW (rdW m R d) ∧ G = H := by
  have := Ready_spec (x := x) H ps ss (by rw [o.pl]; exact o.le) d
  rw [o.rd] at this; exact this
theorem Down_at {x : SW} (H : VHeap) {m : Nat} {R : Nat → Nat → Bool} {ps ss : List (BitVec 64)} (o : V.Ord m R ps ss) (d : BitVec 64) : F (psys x) 23 [ordV ps ss, iW d] H fun v G => v = .bool (dnW m R d) ∧ G = H := by
  have := Down_spec (x := x) H ps ss d
  rw [o.dn] at this; exact this
end Go.Proofs.YteocbhgdmpdklaaDoor.VT
