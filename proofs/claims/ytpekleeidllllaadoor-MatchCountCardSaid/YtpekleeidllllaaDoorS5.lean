/- matchings: Least; walk -/
import Derived.Test.YtpekleeidllllaaDoorS4
set_option autoImplicit false
set_option linter.unusedVariables false
set_option linter.unusedSimpArgs false
set_option maxHeartbeats 4000000
set_option maxRecDepth 100000
namespace Go.Proofs.YtpekleeidllllaaDoor.VT
open Go Go.V Go.RowKit

abbrev uS5n50 {a0 a1 a2 a3 a4 a5 a6 a7 a8 a9 a10 a11 a12 a13 a14 a15 a16 a17 a18 a19 a20 a21 a22 a23 a24 a25 a26 a27 a28 a29 a30 a31 a32 a33 a34 a35 a36 a37 a38 a39 a40 a41 a42 a43 a44 a45 a46 a47 a48 a49 : VVal} : VEnv := a0 :: a1 :: a2 :: a3 :: a4 :: a5 :: a6 :: a7 :: a8 :: a9 :: a10 :: a11 :: a12 :: a13 :: a14 :: a15 :: a16 :: a17 :: a18 :: a19 :: a20 :: a21 :: a22 :: a23 :: a24 :: a25 :: a26 :: a27 :: a28 :: a29 :: a30 :: a31 :: a32 :: a33 :: a34 :: a35 :: a36 :: a37 :: a38 :: a39 :: a40 :: a41 :: a42 :: a43 :: a44 :: a45 :: a46 :: a47 :: a48 :: a49 :: []

abbrev iN (u : Nat) : VVal := iI (u : Nat)
abbrev fzN (us : List Nat) : VVal := .fsl (us.map iN) us.length 1 false
theorem mapN_under (n : Nat) (l : List Nat) : VVal.underL n (l.map iN) = true := VVal.underL_map fun _ => rfl
/-- what Least answers -/
def leV (rows : List (BitVec 64)) : VVal := if rows.length ≤ 12 ∧ fullB rows 0#64 = true then .tuple [fzN (lst rows 0#64), .bool true] else .tuple [fzN [], .bool false]
/-- the places as they are chosen -/
structure LsAt (h : Nat) (rows : List (BitVec 64)) (ds : List Nat) (t : BitVec 64) (v : VVal) (X : VHeap) : Prop where
  s0 : X[0]? = some (.cells [fzW rows] true)
  s2 : X[2]? = some (.cells [v] true)
  s3 : X[3]? = some (.cells [iW t] true)
  lv : LVE h 1 X v (ds.map iN) ds.length
  n0 : vidx v ≠ some (h + 0)
  n2 : vidx v ≠ some (h + 2)
  n3 : vidx v ≠ some (h + 3)
section
variable {h : Nat} {rows : List (BitVec 64)} {ds : List Nat} {t : BitVec 64} {v : VVal} {X : VHeap}
theorem LsAt.app (r : LsAt h rows ds t v X) (Y : VHeap) : LsAt h rows ds t v (X ++ Y) := ⟨get_append r.s0, get_append r.s2, get_append r.s3, r.lv.app Y, r.n0, r.n2, r.n3⟩
theorem LsAt.set (r : LsAt h rows ds t v X) {p : Nat} {k : VBlk} (hp : 3 < p) (hv : vidx v ≠ some (h + p)) : LsAt h rows ds t v (X.set p k) :=
  ⟨by rw [List.getElem?_set_ne (by omega)]; exact r.s0, by rw [List.getElem?_set_ne (by omega)]; exact r.s2, by rw [List.getElem?_set_ne (by omega)]; exact r.s3, r.lv.frame fun i hi => by rw [List.getElem?_set_ne (fun e => hv (by rw [hi, e]))], r.n0, r.n2, r.n3⟩
theorem LsAt.four (r : LsAt h rows ds t v X) : 3 < X.length := (List.getElem?_eq_some_iff.1 r.s3).1
/-- a place more -/
theorem LsAt.grow (r : LsAt h rows ds t v X) {Y1 : VHeap} {k1 k2 : VBlk} {c : Nat} {t' : BitVec 64} {v' : VVal} {a b n : Nat} {ex : Bool} (hv : v' = .slice (some (h + (X.length + 1), 0)) a b ex n) (hl : Y1.length = X.length) (hf : ∀ i, vidx v ≠ some (h + i) → Y1[i]? = X[i]?)
    (h3 : LV h 1 (Y1 ++ [k1, k2]) v' (ds.map iN ++ [iN c]) (ds.length + 1)) : LsAt h rows (ds ++ [c]) t' v' (((Y1 ++ [k1, k2]).set 2 (.cells [v'] true)).set 3 (.cells [iW t'] true)) := by
  have h4 := r.four
  have hne : ∀ i, i < X.length → vidx v' ≠ some (h + i) := fun i hi => by subst hv; simp only [vidx, ne_eq, Option.some.injEq]; omega
  refine ⟨?_, ?_, ?_, .inl ?_, hne 0 (by omega), hne 2 (by omega), hne 3 (by omega)⟩
  · rw [List.getElem?_set_ne (by omega), List.getElem?_set_ne (by omega), List.getElem?_append_left (by omega), hf 0 r.n0]; exact r.s0
  · rw [List.getElem?_set_ne (by omega), List.getElem?_set_self (by simp; omega)]
  · rw [List.getElem?_set_self (by simp; omega)]
  · rw [List.map_append, List.length_append]
    refine h3.frame fun i hi => ?_
    have : i = X.length + 1 := by subst hv; simp only [vidx, Option.some.injEq] at hi; omega
    subst this
    rw [List.getElem?_set_ne (by omega), List.getElem?_set_ne (by omega)]
end
theorem LsAt.next {h : Nat} {rows : List (BitVec 64)} {ds : List Nat} {t : BitVec 64} {v : VVal} {X : VHeap} (r : LsAt h rows ds t v X) {Y1 : VHeap} {k1 k2 kb : VBlk} {c p : Nat} {t' : BitVec 64} {v' : VVal} {a b n : Nat} {ex : Bool} (hp : X[p]? = some kb) (hp3 : 3 < p) (hvp : vidx v ≠ some (h + p)) (hv : v' = .slice (some (h + (X.length + 1), 0)) a b ex n) (hl : Y1.length = X.length) (hf : ∀ i, vidx v ≠ some (h + i) → Y1[i]? = X[i]?)
    (h3 : LV h 1 (Y1 ++ [k1, k2]) v' (ds.map iN ++ [iN c]) (ds.length + 1)) : p < (((Y1 ++ [k1, k2]).set 2 (.cells [v'] true)).set 3 (.cells [iW t'] true)).length ∧ (((Y1 ++ [k1, k2]).set 2 (.cells [v'] true)).set 3 (.cells [iW t'] true)).set p kb = ((Y1 ++ [k1, k2]).set 2 (.cells [v'] true)).set 3 (.cells [iW t'] true) ∧
      LsAt h rows (ds ++ [c]) t' v' (((Y1 ++ [k1, k2]).set 2 (.cells [v'] true)).set 3 (.cells [iW t'] true)) ∧ vidx v' ≠ some (h + p) := by
  have hpl := (List.getElem?_eq_some_iff.1 hp).1
  refine ⟨by simp; omega, (set_keep ?_).symm, r.grow hv hl hf h3, ?_⟩
  · rw [List.getElem?_set_ne (by omega), List.getElem?_set_ne (by omega), List.getElem?_append_left (by omega), hf p hvp]; exact hp
  · subst hv; simp only [vidx, ne_eq, Option.some.injEq]; omega
theorem get_end {X : VHeap} {k : VBlk} : (X ++ [k])[X.length]? = some k := by simp
theorem set_end {X : VHeap} {k k' : VBlk} : (X ++ [k]).set X.length k' = X ++ [k'] := by simp
theorem find_no {l : List Nat} {f : Nat → Bool} (h : ∀ v, v ∈ l → f v = false) : l.find? f = none := List.find?_eq_none.2 fun v hv => by rw [h v hv]; decide
theorem find_yes {pre post : List Nat} {c : Nat} {f : Nat → Bool} (h : ∀ v, v ∈ pre → f v = false) (hc : f c = true) : (pre ++ c :: post).find? f = some c := by
  rw [List.find?_append, find_no h, List.find?_cons, hc]; rfl
theorem lst_drop {rows : List (BitVec 64)} {t : BitVec 64} {i : Nat} (hi : i < rows.length) : lst (rows.drop i) t = match (pl (rows.getD i 0 &&& ~~~t) 0).find? (fun u => fullB (rows.drop (i + 1)) (t ||| 1#64 <<< u)) with
    | some u => u :: lst (rows.drop (i + 1)) (t ||| 1#64 <<< u)
    | none => lst (rows.drop (i + 1)) t := by
  rw [List.drop_eq_getElem_cons hi, lst, List.getD_eq_getElem?_getD, List.getElem?_eq_getElem hi]; rfl
theorem lst_none {rows : List (BitVec 64)} {t : BitVec 64} {i : Nat} (hi : i < rows.length) (h : ∀ u, u ∈ pl (rows.getD i 0 &&& ~~~t) 0 → fullB (rows.drop (i + 1)) (t ||| 1#64 <<< u) = false) : lst (rows.drop i) t = lst (rows.drop (i + 1)) t := by
  rw [lst_drop hi, find_no h]
theorem lst_some {rows : List (BitVec 64)} {t : BitVec 64} {i c : Nat} {pre post : List Nat} (hi : i < rows.length) (hx : pl (rows.getD i 0 &&& ~~~t) 0 = pre ++ c :: post) (h : ∀ u, u ∈ pre → fullB (rows.drop (i + 1)) (t ||| 1#64 <<< u) = false) (hc : fullB (rows.drop (i + 1)) (t ||| 1#64 <<< c) = true) : lst (rows.drop i) t = c :: lst (rows.drop (i + 1)) (t ||| 1#64 <<< c) := by
  rw [lst_drop hi, hx, find_yes h hc]

theorem Least_spec {x : SW} (H : VHeap) (rows : List (BitVec 64)) (hl : rows.length ≤ 1000000) : F (psys x) 9 [fzW rows] H fun v G => v = leV rows ∧ G = H := by
  refine F_body Tryd.func9 rfl uS5n50 rfl ?_
  refine B_seq ?_
  refine B_region ?_
  refine L_op (env' := uS5n50) rfl rfl (v_boxT rfl rfl rfl) rfl ?_
  refine L_op (env' := uS5n50) rfl rfl (v_const (VVal.slice none 0 0 true 0) (.inr rfl) rfl) rfl ?_
  refine L_op (env' := uS5n50) rfl rfl (v_const (VVal.bool false) (.inr rfl) rfl) rfl ?_
  refine L_nil ?_
  refine K_seq ?_
  refine B_seq ?_
  refine B_seq ?_
  refine B_region ?_
  refine L_op (env' := uS5n50) rfl rfl (by first | exact v_loadF rfl rfl rfl rfl (by first | rfl | assumption | exact fget (α := BitVec 64) 0 (by omega)) | exact v_load rfl rfl rfl rfl (by first | exact get_app rfl rfl | exact get_out (by assumption) | assumption | (simp [*]; done)) (by first | rfl | assumption | exact fget (α := BitVec 64) 0 (by omega))) rfl ?_
  refine L_call rfl rfl rfl (by exact fits_spec _ _) ?_
  rintro _ _ ⟨rfl, rfl⟩
  refine L_env (env' := uS5n50) rfl ?_
  refine L_op (env' := uS5n50) rfl rfl (rfl) rfl ?_
  refine L_op (env' := uS5n50) rfl rfl (v_move (.inl rfl) rfl) rfl ?_
  refine L_split 12 (env1 := uS5n50) (env2 := uS5n50) rfl rfl rfl (fun hg1 => ?_) (fun hg1 => ?_)
  · try simp only [decide_eq_true_eq, decide_eq_false_iff_not, Bool.not_eq_true', Bool.not_eq_false', bne_iff_ne, beq_iff_eq, Bool.and_eq_true, Bool.or_eq_true, Bool.not_eq_true, ge_iff_le, gt_iff_lt, Int.not_le, Int.not_lt, beq_eq_false_iff_ne, bne_eq_false_iff_eq, ne_eq, Decidable.not_not, wd_zero, wd_one, wd_inj] at hg1
    refine L_off (env' := uS5n50) rfl rfl ?_
    refine L_off (env' := uS5n50) rfl rfl ?_
    refine L_off (env' := uS5n50) rfl rfl ?_
    refine L_op (env' := uS5n50) rfl rfl (v_pickTC (VVal.bool true) rfl rfl rfl) rfl ?_
    refine L_nil ?_
    refine K_seq ?_
    refine B_true rfl rfl ?_
    refine B_seq ?_
    refine B_region ?_
    refine L_op (env' := uS5n50) rfl rfl (v_const (VVal.slice none 0 0 true 0) (.inr rfl) rfl) rfl ?_
    refine L_op (env' := uS5n50) rfl rfl (v_const (VVal.bool false) (.inr rfl) rfl) rfl ?_
    refine L_nil ?_
    refine K_seq ?_
    refine B_gh (Gh.freezeNil 2 (es' := 1) rfl rfl) ?_
    refine B_ret ?_
    refine K_seqR ?_
    refine E_app (.inr rfl) (vres_tmp2 rfl rfl rfl) (by first | exact BaseOk.refl _ | exact BaseOk.set (BaseOk.refl _) _ rfl) (by first | rfl | simp [VVal.under, VVal.underL, mapN_under, *]) ?_
    first
      | exact ⟨by rw [leV, if_neg (by simp [*]; try omega)]; rfl, rfl⟩
      | exact ⟨by rw [leV, if_pos (by simp [*]; try omega), hlst, List.drop_length]; simp [lst], rfl⟩
  · try simp only [decide_eq_true_eq, decide_eq_false_iff_not, Bool.not_eq_true', Bool.not_eq_false', bne_iff_ne, beq_iff_eq, Bool.and_eq_true, Bool.or_eq_true, Bool.not_eq_true, ge_iff_le, gt_iff_lt, Int.not_le, Int.not_lt, beq_eq_false_iff_ne, bne_eq_false_iff_eq, ne_eq, Decidable.not_not, wd_zero, wd_one, wd_inj] at hg1
    refine L_op (env' := uS5n50) rfl rfl (by first | exact v_loadF rfl rfl rfl rfl (by first | rfl | assumption | exact fget (α := BitVec 64) 0 (by omega)) | exact v_load rfl rfl rfl rfl (by first | exact get_app rfl rfl | exact get_out (by assumption) | assumption | (simp [*]; done)) (by first | rfl | assumption | exact fget (α := BitVec 64) 0 (by omega))) rfl ?_
    refine L_call rfl rfl rfl (by exact full_spec _ rows 0#64 hl) ?_
    rintro _ _ ⟨rfl, rfl⟩
    refine L_env (env' := uS5n50) rfl ?_
    refine L_op (env' := uS5n50) rfl rfl (rfl) rfl ?_
    refine L_op (env' := uS5n50) rfl rfl (v_pickF rfl rfl rfl) rfl ?_
    refine L_nil ?_
    refine K_seq ?_
    refine B_cond _ rfl (fun hc2 => ?_) (fun hc2 => ?_)
    · try simp only [decide_eq_true_eq, decide_eq_false_iff_not, Bool.not_eq_true', Bool.not_eq_false', bne_iff_ne, beq_iff_eq, Bool.and_eq_true, Bool.or_eq_true, Bool.not_eq_true, ge_iff_le, gt_iff_lt, Int.not_le, Int.not_lt, beq_eq_false_iff_ne, bne_eq_false_iff_eq, ne_eq, Decidable.not_not, wd_zero, wd_one, wd_inj] at hc2
      refine B_seq ?_
      refine B_region ?_
      refine L_op (env' := uS5n50) rfl rfl (v_const (VVal.slice none 0 0 true 0) (.inr rfl) rfl) rfl ?_
      refine L_op (env' := uS5n50) rfl rfl (v_const (VVal.bool false) (.inr rfl) rfl) rfl ?_
      refine L_nil ?_
      refine K_seq ?_
      refine B_gh (Gh.freezeNil 2 (es' := 1) rfl rfl) ?_
      refine B_ret ?_
      refine K_seqR ?_
      refine E_app (.inr rfl) (vres_tmp2 rfl rfl rfl) (by first | exact BaseOk.refl _ | exact BaseOk.set (BaseOk.refl _) _ rfl) (by first | rfl | simp [VVal.under, VVal.underL, mapN_under, *]) ?_
      first
        | exact ⟨by rw [leV, if_neg (by simp [*]; try omega)]; rfl, rfl⟩
        | exact ⟨by rw [leV, if_pos (by simp [*]; try omega), hlst, List.drop_length]; simp [lst], rfl⟩
    · try simp only [decide_eq_true_eq, decide_eq_false_iff_not, Bool.not_eq_true', Bool.not_eq_false', bne_iff_ne, beq_iff_eq, Bool.and_eq_true, Bool.or_eq_true, Bool.not_eq_true, ge_iff_le, gt_iff_lt, Int.not_le, Int.not_lt, beq_eq_false_iff_ne, bne_eq_false_iff_eq, ne_eq, Decidable.not_not, wd_zero, wd_one, wd_inj] at hc2
      refine B_skip ?_
      refine K_seq ?_
      refine B_seq ?_
      refine B_region ?_
      refine L_op (env' := uS5n50) rfl rfl (v_buildSlice rfl rfl (by decide) rfl) rfl ?_
      refine L_op (env' := uS5n50) rfl rfl (v_alloc rfl rfl) rfl ?_
      refine L_op (env' := uS5n50) rfl rfl (v_alloc rfl rfl) rfl ?_
      refine L_op (env' := uS5n50) rfl rfl (v_storeT rfl rfl rfl rfl rfl rfl rfl (by first | exact get_app rfl rfl | exact get_out (by assumption) | assumption | (simp [*]; done)) (by first | exact Nat.le_of_ble_eq_true rfl | (simp only [List.length_map, List.length_cons, List.length_nil]; omega) | omega | (simp; done) | (simp; omega)) (by first | exact set_app rfl | exact set_out (lt_of_get (by assumption)) | rfl)) rfl ?_
      refine L_op (env' := uS5n50) rfl rfl (v_storeC (VVal.int .u64 0) rfl rfl rfl rfl rfl rfl rfl (by first | exact get_app rfl rfl | exact get_out (by assumption) | assumption | (simp [*]; done)) (by first | exact Nat.le_of_ble_eq_true rfl | (simp only [List.length_map, List.length_cons, List.length_nil]; omega) | omega | (simp; done) | (simp; omega)) (by first | exact set_app rfl | exact set_out (lt_of_get (by assumption)) | rfl)) rfl ?_
      refine L_nil ?_
      refine K_seq ?_
      refine B_seq ?_
      refine B_seq ?_
      refine B_region ?_
      refine L_op (env' := uS5n50) rfl rfl (by first | exact v_loadF rfl rfl rfl rfl (by first | rfl | assumption | exact fget (α := BitVec 64) 0 (by omega)) | exact v_load rfl rfl rfl rfl (by first | exact get_app rfl rfl | exact get_out (by assumption) | assumption | (simp [*]; done)) (by first | rfl | assumption | exact fget (α := BitVec 64) 0 (by omega))) rfl ?_
      refine L_op (env' := uS5n50) rfl rfl (rfl) rfl ?_
      refine L_op (env' := uS5n50) rfl rfl (v_const (VVal.int .i64 0) (.inl rfl) rfl) rfl ?_
      refine L_nil ?_
      refine K_seq ?_
      refine B_block ?_
      refine B_clear [true,false,true,true,false,false,true,true,true,true,true,true,true,true,true,true,true,true,false,false,false,true,true,true,true,true,true,true,true,true,true,true,true,true,true,true,true,true,true,true,true,true,true,true,true,true,true,true,true,true] (env' := uS5n50) rfl ?_
      refine B_loopE (fun (⟨i, ds, t⟩ : Nat × List Nat × BitVec 64) => rows.length - i) (fun (⟨i, ds, t⟩ : Nat × List Nat × BitVec 64) => [(20, iI (i : Nat))]) (fun (⟨i, ds, t⟩ : Nat × List Nat × BitVec 64) G => (i ≤ rows.length ∧ ds.length ≤ i ∧ lst rows 0#64 = ds ++ lst (rows.drop i) t) ∧ ∃ X v, G = H ++ X ∧ LsAt H.length rows ds t v X) ⟨0, [], 0#64⟩ rfl ?_ ?_
      · refine ⟨?_, ⟨_, _, rfl, ⟨rfl, rfl, rfl, LVE.init (b := 1) rfl, by simp [vidx], by simp [vidx], by simp [vidx]⟩⟩⟩
        exact ⟨Nat.zero_le _, Nat.le_refl _, rfl⟩
      rintro ⟨i, ds, t⟩ _ ⟨⟨hi, hds, hlst⟩, ⟨X, v, rfl, hcv⟩⟩
      refine B_env (env' := uS5n50) rfl ?_
      refine B_seq ?_
      refine B_region ?_
      refine L_op (env' := uS5n50) rfl rfl (rfl) rfl ?_
      refine L_nil ?_
      refine K_seq ?_
      refine B_seq ?_
      refine B_cond _ rfl (fun hc3 => ?_) (fun hc3 => ?_)
      · try simp only [decide_eq_true_eq, decide_eq_false_iff_not, Bool.not_eq_true', Bool.not_eq_false', bne_iff_ne, beq_iff_eq, Bool.and_eq_true, Bool.or_eq_true, Bool.not_eq_true, ge_iff_le, gt_iff_lt, Int.not_le, Int.not_lt, beq_eq_false_iff_ne, bne_eq_false_iff_eq, ne_eq, Decidable.not_not, wd_zero, wd_one, wd_inj] at hc3
        refine B_skip ?_
        refine K_seq ?_
        refine B_seq ?_
        refine B_block ?_
        refine B_seq ?_
        refine B_region ?_
        refine L_op (env' := uS5n50) rfl rfl (v_move (.inl rfl) rfl) rfl ?_
        refine L_op (env' := uS5n50) rfl rfl (by first | exact v_idxF rfl rfl rfl rfl rfl rfl rfl (by first | assumption | omega | (simp [*]; done) | (simp at *; omega)) | exact v_idx rfl rfl rfl rfl rfl rfl rfl (by first | assumption | omega | (simp [*]; done) | (simp at *; omega))) rfl ?_
        refine L_op (env' := uS5n50) rfl rfl (by first | exact v_loadF rfl rfl rfl rfl (by first | rfl | assumption | exact fget (α := BitVec 64) 0 (by omega)) | exact v_load rfl rfl rfl rfl (by first | exact get_app rfl rfl | exact get_out (by assumption) | assumption | (simp [*]; done)) (by first | rfl | assumption | exact fget (α := BitVec 64) 0 (by omega))) rfl ?_
        refine L_op (env' := uS5n50) rfl rfl (v_alloc rfl rfl) rfl ?_
        refine L_op (env' := uS5n50) rfl rfl (v_storeT rfl rfl rfl rfl rfl rfl rfl (by exact get_app rfl get_end) (by first | exact Nat.le_of_ble_eq_true rfl | (simp only [List.length_map, List.length_cons, List.length_nil]; omega) | omega | (simp; done) | (simp; omega)) (by first | exact set_app rfl | exact set_out (lt_of_get (by assumption)) | rfl)) rfl ?_
        refine L_heap (H' := H ++ (X ++ [.cells [iI (i : Nat)] true])) (by rw [set_end]; rfl) ?_
        refine L_op (env' := uS5n50) rfl rfl (v_move (.inr rfl) rfl) rfl ?_
        refine L_nil ?_
        refine K_seq ?_
        refine B_seq ?_
        refine B_region ?_
        refine L_op (env' := uS5n50) rfl rfl (v_move (.inl rfl) rfl) rfl ?_
        refine L_op (env' := uS5n50) rfl rfl (by first | exact v_loadF rfl rfl rfl rfl (by first | rfl | assumption | exact fget (α := BitVec 64) 0 (by omega)) | exact v_load rfl rfl rfl rfl (by exact get_app (j := 3) rfl (hcv.app _).s3) (by first | rfl | assumption | exact fget (α := BitVec 64) 0 (by omega))) rfl ?_
        refine L_op (env' := uS5n50) rfl rfl (v_andNotW rfl rfl rfl) rfl ?_
        refine L_call rfl rfl rfl (by exact mset_spec _ _) ?_
        rintro _ _ ⟨rfl, rfl⟩
        refine L_env (env' := uS5n50) rfl ?_
        refine L_call rfl rfl rfl (by exact All_spec _ _) ?_
        rintro _ _ ⟨rfl, rfl⟩
        refine L_env (env' := uS5n50) rfl ?_
        refine L_nil ?_
        refine K_seq ?_
        refine B_block ?_
        refine B_clear [true,false,true,true,false,false,false,true,true,true,true,true,true,true,true,true,true,true,false,false,false,true,true,true,true,true,true,true,true,false,true,true,true,true,true,true,true,true,true,true,true,true,true,true,true,true,true,true,true,true] (env' := uS5n50) rfl ?_
        have hX2 := hcv.four
        have hvX : vidx v ≠ some (H.length + X.length) := hcv.lv.ne (Nat.le_refl _)
        have hvX1 : vidx v ≠ some (H.length + (X.length + 1)) := hcv.lv.ne (by omega)
        refine B_rangeM cI (pl (rows.getD (i : Int).toNat 0 &&& ~~~t) 0) (fun l0 h => by cases h) rfl (fun l G R h => All1_spec _ _ _ _ h) (σ := { Z : VHeap // (X.length + 1) < Z.length }) (fun k s => H ++ s.1.set (X.length + 1) k) ⟨X ++ [.cells [iI (i : Nat)] true] ++ [.dead], by simp⟩ (fun k => by simp) (fun k s => by rw [List.length_append]; exact get_app rfl (by rw [List.length_append, List.length_singleton, List.getElem?_set_self s.2])) (fun k k1 s => by rw [List.length_append, set_app rfl, List.length_append, List.length_singleton, List.set_set]) (fun pre s => (LsAt H.length rows ds t v s.1 ∧ s.1[X.length]? = some (.cells [iI (i : Nat)] true)) ∧ ∀ u, u ∈ pre → fullB (rows.drop (i + 1)) (t ||| 1#64 <<< u) = false) ?_ (fun j pre c s => (j = Code.exit 2 ∧ (fullB (rows.drop (i + 1)) (t ||| 1#64 <<< c) = true ∧ (∀ u, u ∈ pre → fullB (rows.drop (i + 1)) (t ||| 1#64 <<< u) = false) ∧ ∃ v', LsAt H.length rows (ds ++ [c]) (t ||| 1#64 <<< c) v' s.1 ∧ vidx v' ≠ some (H.length + (X.length + 1))))) rfl ?_ ?_ ?_
        · exact ⟨⟨(hcv.app _).app _, by simp⟩, fun u h => by cases h⟩
        · intro pre c post s hx hI kr kb hkr hkb
          try dsimp only at hI ⊢
          obtain ⟨⟨hr0, hq0⟩, hno⟩ := hI
          have hr := hr0.set (k := kb) (by omega : 3 < X.length + 1) hvX1
          have hq : (s.1.set (X.length + 1) kb)[X.length]? = some (.cells [iI (i : Nat)] true) := by rw [List.getElem?_set_ne (by omega)]; exact hq0
          have hcx : c ∈ (pl (rows.getD (i : Int).toNat 0 &&& ~~~t) 0) := by rw [hx]; simp
          obtain ⟨_, hc64, hcb⟩ := mem_pl.1 hcx
          have hsl := s.2
          refine B_env (env' := uS5n50) rfl ?_
          refine B_region ?_
          refine L_op (env' := uS5n50) rfl rfl (v_move (.inr rfl) rfl) rfl ?_
          refine L_nil ?_
          refine ⟨rfl, s, rfl, ?_⟩
          try dsimp only
          refine B_block ?_
          refine B_seq ?_
          refine B_draw [0, 1, 2, 3, 4, 5, 6, 7, 8] #[0, 0, 2, 7, 0, 0, 32, 112, 255] (by kernel_rfl) (by kernel_rfl) (by kernel_rfl) ?_
          refine O_op (env' := uS5n50) (c := .look) rfl rfl rfl (by first | exact v_loadF rfl rfl rfl rfl (by first | rfl | assumption | exact fget (α := BitVec 64) 0 (by omega)) | exact v_load rfl rfl rfl rfl (by exact get_app (j := 0) rfl hr.s0) (by first | rfl | assumption | exact fget (α := BitVec 64) 0 (by omega))) rfl rfl rfl ?_
          refine O_op (env' := uS5n50) (c := .look) rfl rfl rfl (by first | exact v_loadF rfl rfl rfl rfl (by first | rfl | assumption | exact fget (α := BitVec 64) 0 (by omega)) | exact v_load rfl rfl rfl rfl (by exact get_app rfl hq) (by first | rfl | assumption | exact fget (α := BitVec 64) 0 (by omega))) rfl rfl rfl ?_
          refine O_op (env' := uS5n50) (c := .calm) rfl rfl rfl (v_addI rfl rfl rfl (by first | assumption | omega | (simp [*]; done) | (simp at *; omega))) rfl rfl rfl ?_
          refine O_op (env' := uS5n50) (c := .calm) rfl rfl rfl (v_wLo (k := i + 1) rfl rfl rfl rfl rfl rfl rfl (by omega)) rfl rfl rfl ?_
          refine O_op (env' := uS5n50) (c := .look) rfl rfl rfl (by first | exact v_loadF rfl rfl rfl rfl (by first | rfl | assumption | exact fget (α := BitVec 64) 0 (by omega)) | exact v_load rfl rfl rfl rfl (by exact get_app (j := 3) rfl hr.s3) (by first | rfl | assumption | exact fget (α := BitVec 64) 0 (by omega))) rfl rfl rfl ?_
          refine O_op (env' := uS5n50) (c := .calm) rfl rfl rfl (v_move (.inl rfl) rfl) rfl rfl rfl ?_
          refine O_op (env' := uS5n50) (c := .calm) rfl rfl rfl (v_shl1 rfl rfl rfl (by first | assumption | omega | (simp [*]; done) | (simp at *; omega))) rfl rfl rfl ?_
          refine O_op (env' := uS5n50) (c := .calm) rfl rfl rfl (v_orW rfl rfl rfl) rfl rfl rfl ?_
          refine O_call (env' := uS5n50) rfl rfl rfl rfl rfl (by exact full_spec _ _ _ (by first | assumption | (rw [List.length_drop]; omega))) (by first | exact Nat.le_refl _ | simp) rfl rfl ?_
          refine O_nil [] (by kernel_rfl) (trivial) ?_
          refine K_seq ?_
          refine B_cond _ rfl (fun hc4 => ?_) (fun hc4 => ?_)
          · try simp only [decide_eq_true_eq, decide_eq_false_iff_not, Bool.not_eq_true', Bool.not_eq_false', bne_iff_ne, beq_iff_eq, Bool.and_eq_true, Bool.or_eq_true, Bool.not_eq_true, ge_iff_le, gt_iff_lt, Int.not_le, Int.not_lt, beq_eq_false_iff_ne, bne_eq_false_iff_eq, ne_eq, Decidable.not_not, wd_zero, wd_one, wd_inj] at hc4
            refine B_seq ?_
            refine B_region ?_
            refine L_op (env' := uS5n50) rfl rfl (by first | exact v_loadF rfl rfl rfl rfl (by first | rfl | assumption | exact fget (α := BitVec 64) 0 (by omega)) | exact v_load rfl rfl rfl rfl (by exact get_app (j := 2) rfl hr.s2) (by first | rfl | assumption | exact fget (α := BitVec 64) 0 (by omega))) rfl ?_
            refine L_op (env' := uS5n50) rfl rfl (v_move (.inl rfl) rfl) rfl ?_
            refine L_op (env' := uS5n50) rfl rfl (v_buildSlice rfl rfl (by decide) rfl) rfl ?_
            refine L_opX rfl rfl (v_appXE rfl rfl rfl rfl rfl rfl rfl hr.lv rfl rfl (by decide) (by show (ds.length + 1) * 8 ≤ _ ∧ _; omega) (by decide)) ?_
            rintro _ _ ⟨Y1, rfl, rfl, hY1, hY2, hY3⟩
            refine L_env (env' := uS5n50) rfl ?_
            refine L_op (env' := uS5n50) rfl rfl (v_storeT rfl rfl rfl rfl rfl rfl rfl (by exact get_app (j := 2) rfl (by rw [List.getElem?_append_left (by rw [hY1]; exact Nat.lt_of_succ_lt hr.four), hY2 2 hr.n2]; exact hr.s2)) (by first | exact Nat.le_of_ble_eq_true rfl | (simp only [List.length_map, List.length_cons, List.length_nil]; omega) | omega | (simp; done) | (simp; omega)) (by first | exact set_app rfl | exact set_out (lt_of_get (by assumption)) | rfl)) rfl ?_
            refine L_nil ?_
            refine K_seq ?_
            refine B_seq ?_
            refine B_draw [0, 1, 2, 3, 4] #[0, 0, 2, 7, 15] (by kernel_rfl) (by kernel_rfl) (by kernel_rfl) ?_
            refine O_op (env' := uS5n50) (c := .look) rfl rfl rfl (by first | exact v_loadF rfl rfl rfl rfl (by first | rfl | assumption | exact fget (α := BitVec 64) 0 (by omega)) | exact v_load rfl rfl rfl rfl (by exact get_app (j := 3) rfl ((List.getElem?_set_ne (show (2 : Nat) ≠ 3 by decide)).trans ((List.getElem?_append_left (by rw [hY1]; exact hr.four)).trans ((hY2 3 hr.n3).trans hr.s3)))) (by first | rfl | assumption | exact fget (α := BitVec 64) 0 (by omega))) rfl rfl rfl ?_
            refine O_op (env' := uS5n50) (c := .calm) rfl rfl rfl (v_move (.inl rfl) rfl) rfl rfl rfl ?_
            refine O_op (env' := uS5n50) (c := .calm) rfl rfl rfl (v_shl1 rfl rfl rfl (by first | assumption | omega | (simp [*]; done) | (simp at *; omega))) rfl rfl rfl ?_
            refine O_op (env' := uS5n50) (c := .calm) rfl rfl rfl (v_orW rfl rfl rfl) rfl rfl rfl ?_
            refine O_op (env' := uS5n50) (c := .turn) rfl rfl rfl (v_storeT rfl rfl rfl rfl rfl rfl rfl (by exact get_app (j := 3) rfl ((List.getElem?_set_ne (show (2 : Nat) ≠ 3 by decide)).trans ((List.getElem?_append_left (by rw [hY1]; exact hr.four)).trans ((hY2 3 hr.n3).trans hr.s3)))) (by first | exact Nat.le_of_ble_eq_true rfl | (simp only [List.length_map, List.length_cons, List.length_nil]; omega) | omega | (simp; done) | (simp; omega)) (by first | exact set_app rfl | exact set_out (lt_of_get (by assumption)) | rfl)) rfl rfl rfl ?_
            refine O_nil [] (by kernel_rfl) (trivial) ?_
            refine K_seq ?_
            refine B_exit ?_
            refine K_blkO rfl ?_
            have hN := hr.next (c := c) (t' := t ||| 1#64 <<< c) (List.getElem?_set_self s.2) (by omega) hvX1 rfl hY1 hY2 hY3
            refine ⟨⟨_, hN.1⟩, (congrArg (H ++ ·) hN.2.1.symm), .inr ⟨Code.exit 2, rfl, ⟨rfl, ?_⟩⟩⟩
            exact ⟨by assumption, hno, _, hN.2.2.1, hN.2.2.2⟩
          · try simp only [decide_eq_true_eq, decide_eq_false_iff_not, Bool.not_eq_true', Bool.not_eq_false', bne_iff_ne, beq_iff_eq, Bool.and_eq_true, Bool.or_eq_true, Bool.not_eq_true, ge_iff_le, gt_iff_lt, Int.not_le, Int.not_lt, beq_eq_false_iff_ne, bne_eq_false_iff_eq, ne_eq, Decidable.not_not, wd_zero, wd_one, wd_inj] at hc4
            refine B_skip ?_
            refine K_blk ?_
            refine ⟨s, rfl, .inl ⟨rfl, ?_⟩⟩
            exact ⟨⟨hr0, hq0⟩, fun u hu => by
          rcases List.mem_append.1 hu with h | h
          · exact hno u h
          · rw [List.mem_singleton.1 h]; assumption⟩
        · intro s k hk hI
          try dsimp only at hI ⊢
          obtain ⟨⟨hr0, hq0⟩, hno⟩ := hI
          have hr := hr0.set (k := k) (by omega : 3 < X.length + 1) hvX1
          refine K_blk ?_
          refine K_blk ?_
          refine K_seq ?_
          refine B_region ?_
          refine L_op (env' := uS5n50) rfl rfl (v_addI rfl rfl rfl (by first | assumption | omega | (simp [*]; done) | (simp at *; omega))) rfl ?_
          refine L_op (env' := uS5n50) rfl rfl (v_move (.inl rfl) rfl) rfl ?_
          refine L_nil ?_
          refine K_loop [true,false,true,true,false,false,true,true,true,true,true,true,true,true,true,true,true,true,false,false,false,true,true,true,true,true,true,true,true,true,true,true,true,true,true,true,true,true,true,true,true,true,true,true,true,true,true,true,true,true] (env' := uS5n50) rfl ⟨⟨i + 1, ds, t⟩, ?_, rfl, ?_⟩
          · first | omega | (simp only []; omega)
          · first | exact ⟨⟨(by show i + 1 ≤ rows.length; omega), (by show ds.length ≤ i + 1; omega), hlst.trans (congrArg (ds ++ ·) (lst_none (by omega) hno))⟩, _, _, rfl, hr⟩ | exact ⟨⟨(by show i + 1 ≤ rows.length; omega), (by show (ds ++ [c]).length ≤ i + 1; rw [List.length_append]; show ds.length + 1 ≤ i + 1; omega), hlst.trans ((congrArg (ds ++ ·) (lst_some (by omega) hx hno hfc)).trans (by rw [List.append_assoc]; rfl))⟩, _, _, rfl, hr⟩
        · rintro j pre c post s k hk hx (⟨rfl, hfc, hno, v', hr0, hv1⟩)
          try dsimp only
          have hr := hr0.set (k := k) (by omega : 3 < X.length + 1) hv1
          refine J_exit ?_
          refine K_blkX ?_
          refine K_blk ?_
          refine K_seq ?_
          refine B_region ?_
          refine L_op (env' := uS5n50) rfl rfl (v_addI rfl rfl rfl (by first | assumption | omega | (simp [*]; done) | (simp at *; omega))) rfl ?_
          refine L_op (env' := uS5n50) rfl rfl (v_move (.inl rfl) rfl) rfl ?_
          refine L_nil ?_
          refine K_loop [true,false,true,true,false,false,true,true,true,true,true,true,true,true,true,true,true,true,false,false,false,true,true,true,true,true,true,true,true,true,true,true,true,true,true,true,true,true,true,true,true,true,true,true,true,true,true,true,true,true] (env' := uS5n50) rfl ⟨⟨i + 1, ds ++ [c], t ||| 1#64 <<< c⟩, ?_, rfl, ?_⟩
          · first | omega | (simp only []; omega)
          · first | exact ⟨⟨(by show i + 1 ≤ rows.length; omega), (by show ds.length ≤ i + 1; omega), hlst.trans (congrArg (ds ++ ·) (lst_none (by omega) hno))⟩, _, _, rfl, hr⟩ | exact ⟨⟨(by show i + 1 ≤ rows.length; omega), (by show (ds ++ [c]).length ≤ i + 1; rw [List.length_append]; show ds.length + 1 ≤ i + 1; omega), hlst.trans ((congrArg (ds ++ ·) (lst_some (by omega) hx hno hfc)).trans (by rw [List.append_assoc]; rfl))⟩, _, _, rfl, hr⟩
      · try simp only [decide_eq_true_eq, decide_eq_false_iff_not, Bool.not_eq_true', Bool.not_eq_false', bne_iff_ne, beq_iff_eq, Bool.and_eq_true, Bool.or_eq_true, Bool.not_eq_true, ge_iff_le, gt_iff_lt, Int.not_le, Int.not_lt, beq_eq_false_iff_ne, bne_eq_false_iff_eq, ne_eq, Decidable.not_not, wd_zero, wd_one, wd_inj] at hc3
        refine B_exit ?_
        refine K_seqX ?_
        refine K_loopX ?_
        refine K_blkX ?_
        refine K_seq ?_
        refine B_seq ?_
        refine B_region ?_
        refine L_op (env' := uS5n50) rfl rfl (by first | exact v_loadF rfl rfl rfl rfl (by first | rfl | assumption | exact fget (α := BitVec 64) 0 (by omega)) | exact v_load rfl rfl rfl rfl (by exact get_app (j := 2) rfl hcv.s2) (by first | rfl | assumption | exact fget (α := BitVec 64) 0 (by omega))) rfl ?_
        refine L_op (env' := uS5n50) rfl rfl (v_move (.inr rfl) rfl) rfl ?_
        refine L_op (env' := uS5n50) rfl rfl (v_const (VVal.bool true) (.inr rfl) rfl) rfl ?_
        refine L_nil ?_
        refine K_seq ?_
        obtain rfl : i = rows.length := by omega
        refine B_ghLVE (env' := uS5n50) 2 hcv.lv rfl rfl fun X2 _ _ => ?_
        refine B_ret ?_
        refine E_app (.inr rfl) (vres_tmp2 rfl rfl rfl) (by first | exact BaseOk.refl _ | exact BaseOk.set (BaseOk.refl _) _ rfl) (by first | rfl | simp [VVal.under, VVal.underL, mapN_under, *]) ?_
        first
          | exact ⟨by rw [leV, if_neg (by simp [*]; try omega)]; rfl, rfl⟩
          | exact ⟨by rw [leV, if_pos (by simp [*]; try omega), hlst, List.drop_length]; simp [lst], rfl⟩
end Go.Proofs.YtpekleeidllllaaDoor.VT
