/- matchings: a try; walks -/
import Derived.Test.YtpekleeidllllaaDoorS1
import Derived.Test.YtpekleeidllllaaDoorV26
import Derived.Test.YtpekleeidllllaaDoorP14
set_option autoImplicit false
set_option linter.unusedVariables false
set_option linter.unusedSimpArgs false
set_option maxHeartbeats 4000000
set_option maxRecDepth 100000
namespace Go.Proofs.YtpekleeidllllaaDoor.VT
open Go Go.V Go.RowKit

abbrev uS2n6 {a0 a1 a2 a3 a4 a5 : VVal} : VEnv := a0 :: a1 :: a2 :: a3 :: a4 :: a5 :: []
abbrev uS2n62 {a0 a1 a2 a3 a4 a5 a6 a7 a8 a9 a10 a11 a12 a13 a14 a15 a16 a17 a18 a19 a20 a21 a22 a23 a24 a25 a26 a27 a28 a29 a30 a31 a32 a33 a34 a35 a36 a37 a38 a39 a40 a41 a42 a43 a44 a45 a46 a47 a48 a49 a50 a51 a52 a53 a54 a55 a56 a57 a58 a59 a60 a61 : VVal} : VEnv := a0 :: a1 :: a2 :: a3 :: a4 :: a5 :: a6 :: a7 :: a8 :: a9 :: a10 :: a11 :: a12 :: a13 :: a14 :: a15 :: a16 :: a17 :: a18 :: a19 :: a20 :: a21 :: a22 :: a23 :: a24 :: a25 :: a26 :: a27 :: a28 :: a29 :: a30 :: a31 :: a32 :: a33 :: a34 :: a35 :: a36 :: a37 :: a38 :: a39 :: a40 :: a41 :: a42 :: a43 :: a44 :: a45 :: a46 :: a47 :: a48 :: a49 :: a50 :: a51 :: a52 :: a53 :: a54 :: a55 :: a56 :: a57 :: a58 :: a59 :: a60 :: a61 :: []

theorem fzW_under (n : Nat) (l : List (BitVec 64)) : (fzW l).under n = true := VVal.underL_map fun _ => rfl
theorem mapW_under (n : Nat) (l : List (BitVec 64)) : VVal.underL n (l.map iW) = true := VVal.underL_map fun _ => rfl
theorem mapI_under (n : Nat) (l : List Int) : VVal.underL n (l.map iI) = true := VVal.underL_map fun _ => rfl
theorem mapW_one (l : List (BitVec 64)) : (l.map iW).all VVal.one = true := by rw [List.all_map]; exact List.all_eq_true.2 fun _ _ => rfl
theorem mapW_all {l : List (BitVec 64)} : cellsAt (l.map iW) 0 (l.length * 1) = some (l.map iW) := by
  unfold cellsAt; rw [if_pos (by rw [List.length_map]; omega), List.drop_zero, List.take_of_length_le (by rw [List.length_map]; omega)]
theorem set_keep {L : VHeap} {p : Nat} {k : VBlk} (h : L[p]? = some k) : L = L.set p k := by
  apply List.ext_getElem?
  intro i
  rw [List.getElem?_set]
  by_cases e : p = i
  · subst e; rw [h]; rw [if_pos rfl, if_pos (List.getElem?_eq_some_iff.1 h).1]
  · rw [if_neg e]
section
variable {T : TypeId → Option VTy} {ρ : Operand → VVal} {H : VHeap} {op : Op}
theorem v_eqNilF {t : TypeId} {x y : Operand} {ty : TypeId} {cs : List VVal} {len es : Nat} {ex : Bool} {i : VTy} {e : TypeId} (ho : op = .binOp .eql t x y ty) (hx : ρ x = .fsl cs len es ex) (hy : ρ y = .slice none 0 0 true 0) (hT : T t = some i) (hd : i.desc = .slice e) (hl : len ≠ 0) : vop T ρ H op = some (.bool false, H) := by
  rw [ho]; simp [vop, vbin, hx, hy, veq, hT, hd, hl]
theorem v_wHi {t e : TypeId} {x hi : Operand} {y z : VTy} {l : List (BitVec 64)} {k : Nat} {kd : IntKind} (ho : op = .slice t x none (some hi) none) (hy : T t = some y) (hd : y.desc = .slice e) (hz : T e = some z) (hs : z.size = 1) (hx : ρ x = fzW l) (hh : ρ hi = .int kd (k : Nat)) (hk : k ≤ l.length) : vop T ρ H op = some (fzW (l.take k), H) := by
  rw [v_sliceHi ho hy hd hz hs hx hh hk (by rw [List.length_map]; omega)]
  simp [fzW, Nat.min_eq_left hk, List.map_take]
theorem v_wLo {t e : TypeId} {x lo : Operand} {y z : VTy} {l : List (BitVec 64)} {k : Nat} {kd : IntKind} (ho : op = .slice t x (some lo) none none) (hy : T t = some y) (hd : y.desc = .slice e) (hz : T e = some z) (hs : z.size = 1) (hx : ρ x = fzW l) (hh : ρ lo = .int kd (k : Nat)) (hk : k ≤ l.length) : vop T ρ H op = some (fzW (l.drop k), H) := by
  rw [v_sliceLo ho hy hd hz hs hx hh hk (by rw [List.length_map]; omega)]
  simp [fzW, List.map_drop]
end

abbrev mtB (rows : List (BitVec 64)) (O : List Int) : VBlk := .cells (fzW rows :: O.map iI) true
abbrev seB (w : BitVec 64) : VBlk := .cells [iW w] true
def mtH (H : VHeap) (p q : Nat) (rows : List (BitVec 64)) (s : GSt) : VHeap := (H.set p (mtB rows s.1)).set q (seB s.2)
section
variable {H L : VHeap} {p q : Nat} {rows : List (BitVec 64)} {s : GSt}
theorem mtH_len {n : Nat} (h : H.length = n) : (mtH H p q rows s).length = n := by unfold mtH; rw [List.length_set, List.length_set]; exact h
theorem mtH_id {O : List Int} {w : BitVec 64} (hp : H[p]? = some (mtB rows O)) (hq : H[q]? = some (seB w)) : mtH H p q rows (O, w) = H := by
  unfold mtH; rw [← set_keep hp, ← set_keep hq]
theorem mt_q (hq : q < H.length) : (mtH H p q rows s ++ L)[q]? = some (seB s.2) := by
  unfold mtH; exact get_append (List.getElem?_set_self (by rw [List.length_set]; exact hq))
theorem mt_p (hp : p < H.length) (hpq : p ≠ q) : (mtH H p q rows s ++ L)[p]? = some (mtB rows s.1) := by
  unfold mtH; exact get_append (by rw [List.getElem?_set_ne (Ne.symm hpq)]; exact List.getElem?_set_self hp)
theorem mt_setq {w : BitVec 64} (hq : q < H.length) : (mtH H p q rows s ++ L).set q (seB w) = mtH H p q rows (s.1, w) ++ L := by
  rw [set_out (by rw [mtH_len rfl]; exact hq)]; unfold mtH; rw [List.set_set]
theorem mt_setp0 {k : VBlk} (hp : p < H.length) (hpq : p ≠ q) : (mtH H p q rows s ++ L).set p k = (H.set p k).set q (seB s.2) ++ L := by
  rw [set_out (by rw [mtH_len rfl]; exact hp)]; unfold mtH
  rw [List.set_comm _ _ (Ne.symm hpq), List.set_set]
theorem mt_setp {u : Int} {r : Int} (hp : p < H.length) (hpq : p ≠ q) (hu : u.toNat < s.1.length) : (mtH H p q rows s ++ L).set p (.cells (splice (fzW rows :: s.1.map iI) (0 + 1 + u.toNat * 1) [iI r]) true) = mtH H p q rows (s.1.set u.toNat r, s.2) ++ L := by
  have : splice (fzW rows :: s.1.map iI) (0 + 1 + u.toNat * 1) [iI r] = fzW rows :: (s.1.set u.toNat r).map iI := by
    rw [show 0 + 1 + u.toNat * 1 = u.toNat + 1 by omega]
    unfold splice
    rw [List.map_set, List.set_eq_take_append_cons_drop, if_pos (by rw [List.length_map]; exact hu)]; simp
  rw [this, mt_setp0 hp hpq]; rfl
theorem mt_mt {t : GSt} (hp : p < H.length) (hq : q < H.length) (hpq : p ≠ q) : mtH (mtH H p q rows s ++ L) p q rows t = mtH H p q rows t ++ L := by
  have : mtH (mtH H p q rows s ++ L) p q rows t = ((mtH H p q rows s ++ L).set p (mtB rows t.1)).set q (seB t.2) := rfl
  rw [this, mt_setp0 hp hpq, set_out (by simp; exact hq), List.set_set]; rfl
theorem mt_len6 {u : Int} {v : VVal} (h : u.toNat < s.1.length) : 0 + 1 + u.toNat * 1 + [v].length ≤ (fzW rows :: s.1.map iI).length := by
  show 0 + 1 + u.toNat * 1 + 1 ≤ (s.1.map iI).length + 1
  rw [List.length_map]; omega
theorem not_of_f {b : Bool} (h : b = false) : ¬ b = true := by rw [h]; decide
theorem mt_base (hl : True) : BaseOk H (mtH H p q rows s) := BaseOk.set (BaseOk.set (BaseOk.refl _) _ (by show VVal.underL _ (fzW rows :: s.1.map iI) = true; simp [VVal.underL, fzW_under, mapI_under])) _ rfl
theorem own_cell {u : Int} (h : 0 ≤ u ∧ u < s.1.length) : (fzW rows :: s.1.map iI)[0 + 1 + u.toNat * 1]? = some (iI (s.1.getD u.toNat 0)) := by
  rw [show 0 + 1 + u.toNat * 1 = u.toNat + 1 by omega, List.getElem?_cons_succ]
  have : u.toNat < s.1.length := by omega
  simp [List.getElem?_eq_getElem this]
end

theorem mset_spec {x : SW} (H : VHeap) (w : BitVec 64) : F (psys x) 29 [iW w] H fun v G => v = .agg [iW w] ∧ G = H := by
  refine F_body Tryd.func29 rfl uS2n6 rfl ?_
  refine B_seq ?_
  refine B_region ?_
  refine L_op (env' := uS2n6) rfl rfl (v_alloc rfl rfl) rfl ?_
  refine L_nil ?_
  refine K_seq ?_
  refine B_seq ?_
  refine B_region ?_
  refine L_op (env' := uS2n6) rfl rfl (rfl) rfl ?_
  refine L_op (env' := uS2n6) rfl rfl (v_move (.inl rfl) rfl) rfl ?_
  refine L_call rfl rfl rfl (by exact Of_spec _ 0#64 _) ?_
  rintro _ _ ⟨rfl, rfl⟩
  refine L_env (env' := uS2n6) rfl ?_
  refine L_op (env' := uS2n6) rfl rfl (v_storeT rfl rfl rfl rfl rfl rfl rfl (by first | exact get_app rfl rfl | exact get_out (by assumption) | assumption | (simp [*]; done)) (by first | exact Nat.le_of_ble_eq_true rfl | (simp only [List.length_map, List.length_cons, List.length_nil]; omega) | omega | (simp; done) | (simp; omega)) (by first | exact set_app rfl | exact set_out (lt_of_get (by assumption)) | rfl)) rfl ?_
  refine L_nil ?_
  refine K_seq ?_
  refine B_ret ?_
  refine E_app (.inr rfl) (vres_cellA rfl rfl rfl rfl (by first | exact get_app rfl rfl | exact get_out (by assumption) | assumption | (simp [*]; done)) (by first | rfl | assumption | exact fget (α := BitVec 64) 0 (by omega) | exact fget (α := Int) 0 (by omega) | exact fget0 (α := BitVec 64) 0 (by omega) | exact fget0 (α := Int) 0 (by omega) | exact fget (α := Bool) false (by omega) | exact fget0 (α := Bool) false (by omega) | (simp [*]; done))) (by first | exact BaseOk.refl _ | exact BaseOk.set (BaseOk.refl _) _ rfl) (by first | rfl | simp [VVal.under, VVal.underL, *]) ?_
  exact ⟨rfl, rfl⟩

theorem fits_spec {x : SW} (H : VHeap) (l : List (BitVec 64)) : F (psys x) 27 [fzW l] H fun v G => v = .bool (decide ((l.length : Int) ≤ 12)) ∧ G = H := by
  refine F_body Tryd.func27 rfl uS2n6 rfl ?_
  refine B_seq ?_
  refine B_region ?_
  refine L_op (env' := uS2n6) rfl rfl (v_const (VVal.bool false) (.inr rfl) rfl) rfl ?_
  refine L_nil ?_
  refine K_seq ?_
  refine B_seq ?_
  refine B_region ?_
  refine L_op (env' := uS2n6) rfl rfl (v_move (.inl rfl) rfl) rfl ?_
  refine L_op (env' := uS2n6) rfl rfl (rfl) rfl ?_
  refine L_op (env' := uS2n6) rfl rfl (rfl) rfl ?_
  refine L_op (env' := uS2n6) rfl rfl (v_move (.inr rfl) rfl) rfl ?_
  refine L_nil ?_
  refine K_seq ?_
  refine B_ret ?_
  refine E_app (.inr rfl) (vres_tmp rfl rfl) (by first | exact BaseOk.refl _ | exact BaseOk.set (BaseOk.refl _) _ rfl) (by first | rfl | simp [VVal.under, VVal.underL, *]) ?_
  exact ⟨rfl, rfl⟩

theorem grow_in {x : SW} {p q n : Nat} {rows : List (BitVec 64)} (hpq : p ≠ q) (ih : ∀ (H : VHeap) (row : Int) (O : List Int) (S : BitVec 64), H[p]? = some (mtB rows O) → H[q]? = some (seB S) → 0 ≤ row → row < rows.length → Gok rows O → 64 - come 64 S < n → F (psys x) 53 [.ptr (some (p, 0)), iI row, .ptr (some (q, 0))] H fun v G => v = .bool (grw rows n row (O, S)).1 ∧ G = mtH H p q rows (grw rows n row (O, S)).2) (H L : VHeap) (s : GSt) (hp : p < H.length) (hq : q < H.length) (row : Int) (h0 : 0 ≤ row) (h1 : row < rows.length) (hk : Gok rows s.1) (hm : 64 - come 64 s.2 < n) :
    F (psys x) 53 [.ptr (some (p, 0)), iI row, .ptr (some (q, 0))] (mtH H p q rows s ++ L) fun v G => v = .bool (grw rows n row s).1 ∧ G = mtH H p q rows (grw rows n row s).2 ++ L := by
  have := ih (mtH H p q rows s ++ L) row s.1 s.2 (mt_p hp hpq) (mt_q hq) h0 h1 hk hm
  rw [mt_mt hp hq hpq] at this
  exact this

theorem grow_s {x : SW} (p q n : Nat) (rows : List (BitVec 64)) (hpq : p ≠ q) (ih : ∀ (H : VHeap) (row : Int) (O : List Int) (S : BitVec 64), H[p]? = some (mtB rows O) → H[q]? = some (seB S) → 0 ≤ row → row < rows.length → Gok rows O → 64 - come 64 S < n → F (psys x) 53 [.ptr (some (p, 0)), iI row, .ptr (some (q, 0))] H fun v G => v = .bool (grw rows n row (O, S)).1 ∧ G = mtH H p q rows (grw rows n row (O, S)).2) (H : VHeap) (row : Int) (O : List Int) (S : BitVec 64) (hp : H[p]? = some (mtB rows O)) (hq : H[q]? = some (seB S)) (h0 : 0 ≤ row) (h1 : row < rows.length) (hO : Gok rows O) (hm : 64 - come 64 S < n + 1) (h62 : rows.length < 4611686018427387904) : F (psys x) 53 [.ptr (some (p, 0)), iI row, .ptr (some (q, 0))] H fun v G => v = .bool (grw rows (n + 1) row (O, S)).1 ∧ G = mtH H p q rows (grw rows (n + 1) row (O, S)).2 := by
  have hpH := lt_of_get hp
  have hqH := lt_of_get hq
  refine F_body Tryd.func53 rfl uS2n62 rfl ?_
  refine B_seq ?_
  refine B_region ?_
  refine L_op (env' := uS2n62) rfl rfl (v_boxT rfl rfl rfl) rfl ?_
  refine L_op (env' := uS2n62) rfl rfl (v_boxT rfl rfl rfl) rfl ?_
  refine L_op (env' := uS2n62) rfl rfl (v_boxT rfl rfl rfl) rfl ?_
  refine L_op (env' := uS2n62) rfl rfl (v_alloc rfl rfl) rfl ?_
  refine L_nil ?_
  refine K_seq ?_
  refine B_seq ?_
  refine B_seq ?_
  refine B_draw [0, 1, 2, 3, 4, 5, 6, 7, 8, 9, 10, 11, 12] #[0, 1, 3, 7, 0, 31, 63, 0, 128, 384, 1023, 2047, 4095] (by kernel_rfl) (by kernel_rfl) (by kernel_rfl) ?_
  refine O_op (env' := uS2n62) (c := .look) rfl rfl rfl (by first | exact v_loadF rfl rfl rfl rfl (by first | rfl | assumption | exact own_cell (by omega) | exact fget (α := BitVec 64) 0 (by omega)) | exact v_load rfl rfl rfl rfl (by first | exact get_app rfl rfl | exact get_out hp | exact get_out hq | exact get_app (mtH_len rfl) rfl | exact mt_q hqH | exact mt_p hpH hpq) (by first | rfl | assumption | exact own_cell (by omega) | exact fget (α := BitVec 64) 0 (by omega))) rfl rfl rfl ?_
  refine O_op (env' := uS2n62) (c := .calm) rfl rfl rfl (rfl) rfl rfl rfl ?_
  refine O_op (env' := uS2n62) (c := .calm) rfl rfl rfl (rfl) rfl rfl rfl ?_
  refine O_op (env' := uS2n62) (c := .look) rfl rfl rfl (by first | exact v_loadF rfl rfl rfl rfl (by first | rfl | assumption | exact own_cell (by omega) | exact fget (α := BitVec 64) 0 (by omega)) | exact v_load rfl rfl rfl rfl (by first | exact get_app rfl rfl | exact get_out hp | exact get_out hq | exact get_app (mtH_len rfl) rfl | exact mt_q hqH | exact mt_p hpH hpq) (by first | rfl | assumption | exact own_cell (by omega) | exact fget (α := BitVec 64) 0 (by omega))) rfl rfl rfl ?_
  refine O_op (env' := uS2n62) (c := .look) rfl rfl rfl (by first | exact v_loadF rfl rfl rfl rfl (by first | rfl | assumption | exact own_cell (by omega) | exact fget (α := BitVec 64) 0 (by omega)) | exact v_load rfl rfl rfl rfl (by first | exact get_app rfl rfl | exact get_out hp | exact get_out hq | exact get_app (mtH_len rfl) rfl | exact mt_q hqH | exact mt_p hpH hpq) (by first | rfl | assumption | exact own_cell (by omega) | exact fget (α := BitVec 64) 0 (by omega))) rfl rfl rfl ?_
  refine O_op (env' := uS2n62) (c := .calm) rfl rfl rfl (by first | exact v_idxF rfl rfl rfl rfl rfl rfl rfl (by first | assumption | omega | (simp [*]; done) | (simp at *; omega)) | exact v_idx rfl rfl rfl rfl rfl rfl rfl (by first | assumption | omega | (simp [*]; done) | (simp at *; omega))) rfl rfl rfl ?_
  refine O_op (env' := uS2n62) (c := .look) rfl rfl rfl (by first | exact v_loadF rfl rfl rfl rfl (by first | rfl | assumption | exact own_cell (by omega) | exact fget (α := BitVec 64) 0 (by omega)) | exact v_load rfl rfl rfl rfl (by first | exact get_app rfl rfl | exact get_out hp | exact get_out hq | exact get_app (mtH_len rfl) rfl | exact mt_q hqH | exact mt_p hpH hpq) (by first | rfl | assumption | exact own_cell (by omega) | exact fget (α := BitVec 64) 0 (by omega))) rfl rfl rfl ?_
  refine O_op (env' := uS2n62) (c := .look) rfl rfl rfl (by first | exact v_loadF rfl rfl rfl rfl (by first | rfl | assumption | exact own_cell (by omega) | exact fget (α := BitVec 64) 0 (by omega)) | exact v_load rfl rfl rfl rfl (by first | exact get_app rfl rfl | exact get_out hp | exact get_out hq | exact get_app (mtH_len rfl) rfl | exact mt_q hqH | exact mt_p hpH hpq) (by first | rfl | assumption | exact own_cell (by omega) | exact fget (α := BitVec 64) 0 (by omega))) rfl rfl rfl ?_
  refine O_op (env' := uS2n62) (c := .calm) rfl rfl rfl (rfl) rfl rfl rfl ?_
  refine O_op (env' := uS2n62) (c := .look) rfl rfl rfl (by first | exact v_loadF rfl rfl rfl rfl (by first | rfl | assumption | exact own_cell (by omega) | exact fget (α := BitVec 64) 0 (by omega)) | exact v_load rfl rfl rfl rfl (by first | exact get_app rfl rfl | exact get_out hp | exact get_out hq | exact get_app (mtH_len rfl) rfl | exact mt_q hqH | exact mt_p hpH hpq) (by first | rfl | assumption | exact own_cell (by omega) | exact fget (α := BitVec 64) 0 (by omega))) rfl rfl rfl ?_
  refine O_op (env' := uS2n62) (c := .calm) rfl rfl rfl (v_andNotW rfl rfl rfl) rfl rfl rfl ?_
  refine O_call (env' := uS2n62) rfl rfl rfl rfl rfl (by exact mset_spec _ _) (by first | exact Nat.le_refl _ | (simp; done) | exact Nat.le_of_eq (by rw [List.length_append, List.length_append, mtH_len rfl, mtH_len rfl])) rfl rfl ?_
  refine O_call (env' := uS2n62) rfl rfl rfl rfl rfl (by exact All_spec _ _) (by first | exact Nat.le_refl _ | (simp; done) | exact Nat.le_of_eq (by rw [List.length_append, List.length_append, mtH_len rfl, mtH_len rfl])) rfl rfl ?_
  refine O_nil [] (by kernel_rfl) (trivial) ?_
  refine K_seq ?_
  refine B_block ?_
  refine B_clear (true :: true :: true :: false :: false :: false :: false :: true :: true :: true :: true :: true :: true :: true :: true :: true :: true :: true :: true :: true :: false :: true :: true :: true :: true :: true :: true :: true :: true :: true :: true :: true :: true :: true :: true :: true :: true :: true :: true :: true :: true :: true :: true :: true :: true :: true :: true :: true :: true :: true :: true :: true :: true :: true :: true :: true :: true :: true :: true :: true :: true :: true :: []) (env' := uS2n62) rfl ?_
  refine B_rangeM cI (pl (rows.getD row.toNat 0 &&& ~~~S) 0) (fun l0 h => by cases h) rfl (fun l G R h => All1_spec _ _ _ _ h) (σ := GSt × Bool) (fun k s => mtH H p q rows s.1 ++ [.cells [.ptr (some (p, 0))] true, .cells [iI row] true, .cells [.ptr (some (q, 0))] true, .cells [.bool s.2] true, k]) ((O, S), false) (fun k => by show _ = mtH H p q rows (O, S) ++ _; rw [mtH_id hp hq, List.append_assoc]; rfl) (fun k s => by rw [List.length_append]; exact get_app (mtH_len rfl) rfl) (fun k k1 s => by rw [List.length_append]; exact set_app (mtH_len rfl)) (fun pre s => ∃ z, (pl (rows.getD row.toNat 0 &&& ~~~S) 0) = pre ++ z ∧ grL (grw rows n) row (pl (rows.getD row.toNat 0 &&& ~~~S) 0) (O, S) = grL (grw rows n) row z s.1 ∧ s.1.1 = O ∧ 64 - come 64 s.1.2 ≤ n ∧ s.2 = false) ?_ (fun j pre c s => (j = Code.ret ∧ (grL (grw rows n) row (pl (rows.getD row.toNat 0 &&& ~~~S) 0) (O, S) = (true, s.1) ∧ s.2 = true))) rfl ?_ ?_ ?_
  · exact ⟨_, rfl, rfl, rfl, by show 64 - come 64 S ≤ n; omega, rfl⟩
  · intro pre c post s hx hI kr kb hkr hkb
    obtain ⟨s1, res⟩ := s
    try dsimp only at hI ⊢
    obtain ⟨z, hz, hg, hO1, hcm, hres⟩ := hI
    have hres : res = false := hres
    subst hres
    obtain rfl : z = c :: post := List.append_cancel_left (hz.symm.trans hx)
    have hO1 : s1.1 = O := hO1
    have hcm : 64 - come 64 s1.2 ≤ n := hcm
    have hg : grL (grw rows n) row (pl (rows.getD row.toNat 0 &&& ~~~S) 0) (O, S) = grL (grw rows n) row (c :: post) s1 := hg
    have hcx : c ∈ (pl (rows.getD row.toNat 0 &&& ~~~S) 0) := by rw [hx]; simp
    obtain ⟨_, hc64, _⟩ := mem_pl.1 hcx
    have hk1 : Gok rows s1.1 := by rw [hO1]; exact hO
    have hl1 : s1.1.length = 64 := hk1.len
    have hnn1 := hk1.nn c hc64
    refine B_env (env' := uS2n62) rfl ?_
    refine B_region ?_
    refine L_op (env' := uS2n62) rfl rfl (v_move (.inr rfl) rfl) rfl ?_
    refine L_nil ?_
    refine ⟨rfl, (s1, false), rfl, ?_⟩
    try dsimp only
    refine B_block ?_
    refine B_seq ?_
    refine B_seq ?_
    refine B_region ?_
    refine L_op (env' := uS2n62) rfl rfl (by first | exact v_loadF rfl rfl rfl rfl (by first | rfl | assumption | exact own_cell (by omega) | exact fget (α := BitVec 64) 0 (by omega)) | exact v_load rfl rfl rfl rfl (by first | exact get_app rfl rfl | exact get_out hp | exact get_out hq | exact get_app (mtH_len rfl) rfl | exact mt_q hqH | exact mt_p hpH hpq) (by first | rfl | assumption | exact own_cell (by omega) | exact fget (α := BitVec 64) 0 (by omega))) rfl ?_
    refine L_op (env' := uS2n62) rfl rfl (rfl) rfl ?_
    refine L_op (env' := uS2n62) rfl rfl (by first | exact v_loadF rfl rfl rfl rfl (by first | rfl | assumption | exact own_cell (by omega) | exact fget (α := BitVec 64) 0 (by omega)) | exact v_load rfl rfl rfl rfl (by first | exact get_app rfl rfl | exact get_out hp | exact get_out hq | exact get_app (mtH_len rfl) rfl | exact mt_q hqH | exact mt_p hpH hpq) (by first | rfl | assumption | exact own_cell (by omega) | exact fget (α := BitVec 64) 0 (by omega))) rfl ?_
    refine L_op (env' := uS2n62) rfl rfl (v_move (.inl rfl) rfl) rfl ?_
    refine L_op (env' := uS2n62) rfl rfl (v_shrW rfl rfl rfl (by first | assumption | omega | (simp [*]; done) | (simp at *; omega))) rfl ?_
    refine L_op (env' := uS2n62) rfl rfl (v_andW (b := 1#64) rfl rfl rfl) rfl ?_
    refine L_op (env' := uS2n62) rfl rfl (rfl) rfl ?_
    refine L_nil ?_
    refine K_seq ?_
    refine B_cond _ rfl (fun hc1 => ?_) (fun hc1 => ?_)
    · try simp only [decide_eq_true_eq, decide_eq_false_iff_not, Bool.not_eq_true', Bool.not_eq_false', bne_iff_ne, beq_iff_eq, Bool.and_eq_true, Bool.or_eq_true, Bool.not_eq_true, ge_iff_le, gt_iff_lt, Int.not_le, Int.not_lt, beq_eq_false_iff_ne, bne_eq_false_iff_eq, ne_eq, Decidable.not_not, wd_zero, wd_one, wd_inj] at hc1
      refine B_exit ?_
      refine K_seqX ?_
      refine K_blkX ?_
      have hseen : s1.2.getLsbD c = true := sh1.1 (by assumption)
      refine ⟨(s1, false), rfl, .inl ⟨rfl, ?_⟩⟩
      exact ⟨post, by rw [hx, List.append_assoc]; rfl, by rw [hg, grL, if_pos hseen], hO1, hcm, rfl⟩
    · try simp only [decide_eq_true_eq, decide_eq_false_iff_not, Bool.not_eq_true', Bool.not_eq_false', bne_iff_ne, beq_iff_eq, Bool.and_eq_true, Bool.or_eq_true, Bool.not_eq_true, ge_iff_le, gt_iff_lt, Int.not_le, Int.not_lt, beq_eq_false_iff_ne, bne_eq_false_iff_eq, ne_eq, Decidable.not_not, wd_zero, wd_one, wd_inj] at hc1
      refine B_skip ?_
      refine K_seq ?_
      refine B_seq ?_
      refine B_draw [0, 1, 2, 3, 4, 5, 6, 7] #[0, 1, 3, 0, 8, 31, 63, 127] (by kernel_rfl) (by kernel_rfl) (by kernel_rfl) ?_
      have hnseen : ¬ s1.2.getLsbD c = true := fun e => absurd (sh1.2 e) (by assumption)
      have hcg := come_grow (s := s1.2) (t := s1.2 ||| 1#64 <<< c) (fun a ha => (or1 hc64).2 (.inl ha)) ⟨c, (or1 hc64).2 (.inr rfl), bool_f hnseen⟩
      have hcl := come_le (s1.2 ||| 1#64 <<< c)
      refine O_op (env' := uS2n62) (c := .look) rfl rfl rfl (by first | exact v_loadF rfl rfl rfl rfl (by first | rfl | assumption | exact own_cell (by omega) | exact fget (α := BitVec 64) 0 (by omega)) | exact v_load rfl rfl rfl rfl (by first | exact get_app rfl rfl | exact get_out hp | exact get_out hq | exact get_app (mtH_len rfl) rfl | exact mt_q hqH | exact mt_p hpH hpq) (by first | rfl | assumption | exact own_cell (by omega) | exact fget (α := BitVec 64) 0 (by omega))) rfl rfl rfl ?_
      refine O_op (env' := uS2n62) (c := .calm) rfl rfl rfl (rfl) rfl rfl rfl ?_
      refine O_op (env' := uS2n62) (c := .look) rfl rfl rfl (by first | exact v_loadF rfl rfl rfl rfl (by first | rfl | assumption | exact own_cell (by omega) | exact fget (α := BitVec 64) 0 (by omega)) | exact v_load rfl rfl rfl rfl (by first | exact get_app rfl rfl | exact get_out hp | exact get_out hq | exact get_app (mtH_len rfl) rfl | exact mt_q hqH | exact mt_p hpH hpq) (by first | rfl | assumption | exact own_cell (by omega) | exact fget (α := BitVec 64) 0 (by omega))) rfl rfl rfl ?_
      refine O_op (env' := uS2n62) (c := .calm) rfl rfl rfl (v_move (.inl rfl) rfl) rfl rfl rfl ?_
      refine O_op (env' := uS2n62) (c := .calm) rfl rfl rfl (v_shl1 rfl rfl rfl (by first | assumption | omega | (simp [*]; done) | (simp at *; omega))) rfl rfl rfl ?_
      refine O_op (env' := uS2n62) (c := .calm) rfl rfl rfl (v_orW rfl rfl rfl) rfl rfl rfl ?_
      refine O_op (env' := uS2n62) (c := .calm) rfl rfl rfl (rfl) rfl rfl rfl ?_
      refine O_op (env' := uS2n62) (c := .turn) rfl rfl rfl (v_storeT rfl rfl rfl rfl rfl rfl rfl (by first | exact get_app rfl rfl | exact get_out hp | exact get_out hq | exact get_app (mtH_len rfl) rfl | exact mt_q hqH | exact mt_p hpH hpq) (by first | exact Nat.le_of_ble_eq_true rfl | (simp only [List.length_map, List.length_cons, List.length_nil]; omega) | omega | (simp; done) | (simp; omega)) (by exact mt_setq hqH)) rfl rfl rfl ?_
      refine O_nil [] (by kernel_rfl) (trivial) ?_
      refine K_seq ?_
      refine B_seq ?_
      refine B_draw [0, 1, 2, 3, 4, 5, 6, 7, 8, 9, 10, 11, 12, 13, 14, 15, 16, 17, 18] #[0, 0, 1, 5, 15, 31, 63, 127, 255, 255, 255, 767, 2815, 7935, 16127, 32511, 255, 131071, 262143] (by kernel_rfl) (by kernel_rfl) (by kernel_rfl) ?_
      refine O_op (env' := uS2n62) (c := .look) rfl rfl rfl (by first | exact v_loadF rfl rfl rfl rfl (by rfl) | exact v_load rfl rfl rfl rfl (by exact get_app (mtH_len rfl) rfl) (by rfl)) rfl rfl rfl ?_
      refine O_op (env' := uS2n62) (c := .calm) rfl rfl rfl (v_move (.inl rfl) rfl) rfl rfl rfl ?_
      refine O_op (env' := uS2n62) (c := .calm) rfl rfl rfl (rfl) rfl rfl rfl ?_
      refine O_op (env' := uS2n62) (c := .calm) rfl rfl rfl (rfl) rfl rfl rfl ?_
      refine O_op (env' := uS2n62) (c := .calm) rfl rfl rfl (by first | exact v_idxFA rfl rfl rfl rfl rfl rfl (by first | assumption | omega | (simp [*]; done) | (simp at *; omega)) | exact v_idxA rfl rfl rfl rfl rfl rfl (by first | assumption | omega | (simp [*]; done) | (simp at *; omega))) rfl rfl rfl ?_
      refine O_op (env' := uS2n62) (c := .look) rfl rfl rfl (by first | exact v_loadF rfl rfl rfl rfl (by exact own_cell (s := (s1.1, s1.2 ||| 1#64 <<< c)) (by show 0 ≤ (c : Int) ∧ (c : Int) < s1.1.length; omega)) | exact v_load rfl rfl rfl rfl (by first | exact get_app rfl rfl | exact get_out hp | exact get_out hq | exact get_app (mtH_len rfl) rfl | exact mt_q hqH | exact mt_p hpH hpq) (by exact own_cell (s := (s1.1, s1.2 ||| 1#64 <<< c)) (by show 0 ≤ (c : Int) ∧ (c : Int) < s1.1.length; omega))) rfl rfl rfl ?_
      refine O_op (env' := uS2n62) (c := .calm) rfl rfl rfl (rfl) rfl rfl rfl ?_
      refine O_op (env' := uS2n62) (c := .calm) rfl rfl rfl (v_move (.inl rfl) rfl) rfl rfl rfl ?_
      refine O_split 43 (env1 := uS2n62) (env2 := uS2n62) rfl rfl rfl (fun hg2 => ?_) (fun hg2 => ?_)
      · try simp only [decide_eq_true_eq, decide_eq_false_iff_not, Bool.not_eq_true', Bool.not_eq_false', bne_iff_ne, beq_iff_eq, Bool.and_eq_true, Bool.or_eq_true, Bool.not_eq_true, ge_iff_le, gt_iff_lt, Int.not_le, Int.not_lt, beq_eq_false_iff_ne, bne_eq_false_iff_eq, ne_eq, Decidable.not_not, wd_zero, wd_one, wd_inj] at hg2
        refine O_off (env' := uS2n62) rfl rfl rfl rfl ?_
        refine O_off (env' := uS2n62) rfl rfl rfl rfl ?_
        refine O_off (env' := uS2n62) rfl rfl rfl rfl ?_
        refine O_off (env' := uS2n62) rfl rfl rfl rfl ?_
        refine O_off (env' := uS2n62) rfl rfl rfl rfl ?_
        refine O_off (env' := uS2n62) rfl rfl rfl rfl ?_
        refine O_off (env' := uS2n62) rfl rfl rfl rfl ?_
        refine O_off (env' := uS2n62) rfl rfl rfl rfl ?_
        refine O_off (env' := uS2n62) rfl rfl rfl rfl ?_
        refine O_off (env' := uS2n62) rfl rfl rfl rfl ?_
        refine O_op (env' := uS2n62) (c := .calm) rfl rfl rfl (v_pickTC (VVal.bool true) rfl rfl rfl) rfl rfl rfl ?_
        refine O_nil [] (by kernel_rfl) (trivial) ?_
        refine K_seq ?_
        refine B_true rfl rfl ?_
        refine B_seq ?_
        refine B_draw [0, 1, 2, 3, 4, 5, 6, 7] #[0, 0, 0, 4, 1, 17, 63, 127] (by kernel_rfl) (by kernel_rfl) (by kernel_rfl) ?_
        refine O_op (env' := uS2n62) (c := .look) rfl rfl rfl (by first | exact v_loadF rfl rfl rfl rfl (by rfl) | exact v_load rfl rfl rfl rfl (by exact get_app (mtH_len rfl) rfl) (by rfl)) rfl rfl rfl ?_
        refine O_op (env' := uS2n62) (c := .calm) rfl rfl rfl (v_move (.inl rfl) rfl) rfl rfl rfl ?_
        refine O_op (env' := uS2n62) (c := .look) rfl rfl rfl (by first | exact v_loadF rfl rfl rfl rfl (by rfl) | exact v_load rfl rfl rfl rfl (by exact get_app (mtH_len rfl) rfl) (by rfl)) rfl rfl rfl ?_
        refine O_op (env' := uS2n62) (c := .calm) rfl rfl rfl (v_addI rfl rfl rfl (by first | assumption | omega | (simp [*]; done) | (simp at *; omega))) rfl rfl rfl ?_
        refine O_op (env' := uS2n62) (c := .calm) rfl rfl rfl (rfl) rfl rfl rfl ?_
        refine O_op (env' := uS2n62) (c := .calm) rfl rfl rfl (rfl) rfl rfl rfl ?_
        refine O_op (env' := uS2n62) (c := .calm) rfl rfl rfl (by first | exact v_idxFA rfl rfl rfl rfl rfl rfl (by first | assumption | omega | (simp [*]; done) | (simp at *; omega)) | exact v_idxA rfl rfl rfl rfl rfl rfl (by first | assumption | omega | (simp [*]; done) | (simp at *; omega))) rfl rfl rfl ?_
        refine O_op (env' := uS2n62) (c := .turn) rfl rfl rfl (v_storeT rfl rfl rfl rfl rfl rfl rfl (by first | exact get_app rfl rfl | exact get_out hp | exact get_out hq | exact get_app (mtH_len rfl) rfl | exact mt_q hqH | exact mt_p hpH hpq) (by first | exact mt_len6 (s := (s1.1, 0#64)) (show c < s1.1.length by omega) | exact mt_len6 (Nat.lt_of_lt_of_eq hc64 (hgr.yes (by assumption)).1.len.symm)) (by first | exact mt_setp hpH hpq (show c < s1.1.length by omega) | exact mt_setp hpH hpq (Nat.lt_of_lt_of_eq hc64 (hgr.yes (by assumption)).1.len.symm))) rfl rfl rfl ?_
        refine O_nil [] (by kernel_rfl) (trivial) ?_
        refine K_seq ?_
        refine B_seq ?_
        refine B_region ?_
        refine L_op (env' := uS2n62) rfl rfl (v_storeC (VVal.bool true) rfl rfl rfl rfl rfl rfl rfl (by first | exact get_app rfl rfl | exact get_out hp | exact get_out hq | exact get_app (mtH_len rfl) rfl | exact mt_q hqH | exact mt_p hpH hpq) (by first | exact Nat.le_of_ble_eq_true rfl | (simp only [List.length_map, List.length_cons, List.length_nil]; omega) | omega | (simp; done) | (simp; omega)) (by exact set_app (mtH_len rfl))) rfl ?_
        refine L_nil ?_
        refine K_seq ?_
        refine B_ret ?_
        refine K_blkR ?_
        refine ⟨(_, true), rfl, .inr ⟨Code.ret, rfl, ⟨rfl, ?_⟩⟩⟩
        first
          | exact ⟨by rw [hg, grL, if_neg hnseen, if_pos (by assumption)]; rfl, rfl⟩
          | exact ⟨by rw [hg, grL, if_neg hnseen, if_neg hno, if_pos (by assumption)]; rfl, rfl⟩
      · try simp only [decide_eq_true_eq, decide_eq_false_iff_not, Bool.not_eq_true', Bool.not_eq_false', bne_iff_ne, beq_iff_eq, Bool.and_eq_true, Bool.or_eq_true, Bool.not_eq_true, ge_iff_le, gt_iff_lt, Int.not_le, Int.not_lt, beq_eq_false_iff_ne, bne_eq_false_iff_eq, ne_eq, Decidable.not_not, wd_zero, wd_one, wd_inj] at hg2
        have hno : ¬ s1.1.getD c 0 = 0 := by assumption
        have hgr := grw_ok (rows := rows) (n := n) (row := s1.1.getD c 0 - 1) (s := (s1.1, s1.2 ||| 1#64 <<< c)) (by omega) (by omega) hk1 (by show 64 - come 64 (s1.2 ||| 1#64 <<< c) < n; omega)
        refine O_op (env' := uS2n62) (c := .look) rfl rfl rfl (by first | exact v_loadF rfl rfl rfl rfl (by rfl) | exact v_load rfl rfl rfl rfl (by exact get_app (mtH_len rfl) rfl) (by rfl)) rfl rfl rfl ?_
        refine O_op (env' := uS2n62) (c := .look) rfl rfl rfl (by first | exact v_loadF rfl rfl rfl rfl (by rfl) | exact v_load rfl rfl rfl rfl (by exact get_app (mtH_len rfl) rfl) (by rfl)) rfl rfl rfl ?_
        refine O_op (env' := uS2n62) (c := .calm) rfl rfl rfl (v_move (.inl rfl) rfl) rfl rfl rfl ?_
        refine O_op (env' := uS2n62) (c := .calm) rfl rfl rfl (rfl) rfl rfl rfl ?_
        refine O_op (env' := uS2n62) (c := .calm) rfl rfl rfl (rfl) rfl rfl rfl ?_
        refine O_op (env' := uS2n62) (c := .calm) rfl rfl rfl (by first | exact v_idxFA rfl rfl rfl rfl rfl rfl (by first | assumption | omega | (simp [*]; done) | (simp at *; omega)) | exact v_idxA rfl rfl rfl rfl rfl rfl (by first | assumption | omega | (simp [*]; done) | (simp at *; omega))) rfl rfl rfl ?_
        refine O_op (env' := uS2n62) (c := .look) rfl rfl rfl (by first | exact v_loadF rfl rfl rfl rfl (by exact own_cell (s := (s1.1, s1.2 ||| 1#64 <<< c)) (by show 0 ≤ (c : Int) ∧ (c : Int) < s1.1.length; omega)) | exact v_load rfl rfl rfl rfl (by first | exact get_app rfl rfl | exact get_out hp | exact get_out hq | exact get_app (mtH_len rfl) rfl | exact mt_q hqH | exact mt_p hpH hpq) (by exact own_cell (s := (s1.1, s1.2 ||| 1#64 <<< c)) (by show 0 ≤ (c : Int) ∧ (c : Int) < s1.1.length; omega))) rfl rfl rfl ?_
        refine O_op (env' := uS2n62) (c := .calm) rfl rfl rfl (v_subI rfl rfl rfl (by first | assumption | omega | (simp [*]; done) | (simp at *; omega))) rfl rfl rfl ?_
        refine O_op (env' := uS2n62) (c := .look) rfl rfl rfl (by first | exact v_loadF rfl rfl rfl rfl (by rfl) | exact v_load rfl rfl rfl rfl (by exact get_app (mtH_len rfl) rfl) (by rfl)) rfl rfl rfl ?_
        refine O_call (env' := uS2n62) rfl rfl rfl rfl rfl (by exact grow_in hpq ih H _ (s1.1, s1.2 ||| 1#64 <<< c) hpH hqH _ (show (0 : Int) ≤ s1.1.getD c 0 - 1 by omega) (show s1.1.getD c 0 - 1 < (rows.length : Int) by omega) hk1 (by show 64 - come 64 (s1.2 ||| 1#64 <<< c) < n; omega)) (by first | exact Nat.le_refl _ | (simp; done) | exact Nat.le_of_eq (by rw [List.length_append, List.length_append, mtH_len rfl, mtH_len rfl])) rfl rfl ?_
        refine O_op (env' := uS2n62) (c := .calm) rfl rfl rfl (v_pickF rfl rfl rfl) rfl rfl rfl ?_
        refine O_nil [] (by kernel_rfl) (trivial) ?_
        refine K_seq ?_
        refine B_cond _ rfl (fun hc3 => ?_) (fun hc3 => ?_)
        · try simp only [decide_eq_true_eq, decide_eq_false_iff_not, Bool.not_eq_true', Bool.not_eq_false', bne_iff_ne, beq_iff_eq, Bool.and_eq_true, Bool.or_eq_true, Bool.not_eq_true, ge_iff_le, gt_iff_lt, Int.not_le, Int.not_lt, beq_eq_false_iff_ne, bne_eq_false_iff_eq, ne_eq, Decidable.not_not, wd_zero, wd_one, wd_inj] at hc3
          refine B_seq ?_
          refine B_draw [0, 1, 2, 3, 4, 5, 6, 7] #[0, 0, 0, 4, 1, 17, 63, 127] (by kernel_rfl) (by kernel_rfl) (by kernel_rfl) ?_
          refine O_op (env' := uS2n62) (c := .look) rfl rfl rfl (by first | exact v_loadF rfl rfl rfl rfl (by rfl) | exact v_load rfl rfl rfl rfl (by exact get_app (mtH_len rfl) rfl) (by rfl)) rfl rfl rfl ?_
          refine O_op (env' := uS2n62) (c := .calm) rfl rfl rfl (v_move (.inl rfl) rfl) rfl rfl rfl ?_
          refine O_op (env' := uS2n62) (c := .look) rfl rfl rfl (by first | exact v_loadF rfl rfl rfl rfl (by rfl) | exact v_load rfl rfl rfl rfl (by exact get_app (mtH_len rfl) rfl) (by rfl)) rfl rfl rfl ?_
          refine O_op (env' := uS2n62) (c := .calm) rfl rfl rfl (v_addI rfl rfl rfl (by first | assumption | omega | (simp [*]; done) | (simp at *; omega))) rfl rfl rfl ?_
          refine O_op (env' := uS2n62) (c := .calm) rfl rfl rfl (rfl) rfl rfl rfl ?_
          refine O_op (env' := uS2n62) (c := .calm) rfl rfl rfl (rfl) rfl rfl rfl ?_
          refine O_op (env' := uS2n62) (c := .calm) rfl rfl rfl (by first | exact v_idxFA rfl rfl rfl rfl rfl rfl (by first | assumption | omega | (simp [*]; done) | (simp at *; omega)) | exact v_idxA rfl rfl rfl rfl rfl rfl (by first | assumption | omega | (simp [*]; done) | (simp at *; omega))) rfl rfl rfl ?_
          refine O_op (env' := uS2n62) (c := .turn) rfl rfl rfl (v_storeT rfl rfl rfl rfl rfl rfl rfl (by first | exact get_app rfl rfl | exact get_out hp | exact get_out hq | exact get_app (mtH_len rfl) rfl | exact mt_q hqH | exact mt_p hpH hpq) (by first | exact mt_len6 (s := (s1.1, 0#64)) (show c < s1.1.length by omega) | exact mt_len6 (Nat.lt_of_lt_of_eq hc64 (hgr.yes (by assumption)).1.len.symm)) (by first | exact mt_setp hpH hpq (show c < s1.1.length by omega) | exact mt_setp hpH hpq (Nat.lt_of_lt_of_eq hc64 (hgr.yes (by assumption)).1.len.symm))) rfl rfl rfl ?_
          refine O_nil [] (by kernel_rfl) (trivial) ?_
          refine K_seq ?_
          refine B_seq ?_
          refine B_region ?_
          refine L_op (env' := uS2n62) rfl rfl (v_storeC (VVal.bool true) rfl rfl rfl rfl rfl rfl rfl (by first | exact get_app rfl rfl | exact get_out hp | exact get_out hq | exact get_app (mtH_len rfl) rfl | exact mt_q hqH | exact mt_p hpH hpq) (by first | exact Nat.le_of_ble_eq_true rfl | (simp only [List.length_map, List.length_cons, List.length_nil]; omega) | omega | (simp; done) | (simp; omega)) (by exact set_app (mtH_len rfl))) rfl ?_
          refine L_nil ?_
          refine K_seq ?_
          refine B_ret ?_
          refine K_blkR ?_
          refine ⟨(_, true), rfl, .inr ⟨Code.ret, rfl, ⟨rfl, ?_⟩⟩⟩
          first
            | exact ⟨by rw [hg, grL, if_neg hnseen, if_pos (by assumption)]; rfl, rfl⟩
            | exact ⟨by rw [hg, grL, if_neg hnseen, if_neg hno, if_pos (by assumption)]; rfl, rfl⟩
        · try simp only [decide_eq_true_eq, decide_eq_false_iff_not, Bool.not_eq_true', Bool.not_eq_false', bne_iff_ne, beq_iff_eq, Bool.and_eq_true, Bool.or_eq_true, Bool.not_eq_true, ge_iff_le, gt_iff_lt, Int.not_le, Int.not_lt, beq_eq_false_iff_ne, bne_eq_false_iff_eq, ne_eq, Decidable.not_not, wd_zero, wd_one, wd_inj] at hc3
          refine B_skip ?_
          refine K_blk ?_
          have hcg2 : come 64 (s1.2 ||| 1#64 <<< c) ≤ come 64 (grw rows n (s1.1.getD c 0 - 1) (s1.1, s1.2 ||| 1#64 <<< c)).2.2 := come_le2 hgr.sub
          refine ⟨(_, false), rfl, .inl ⟨rfl, ?_⟩⟩
          exact ⟨post, by rw [hx, List.append_assoc]; rfl, by rw [hg, grL, if_neg hnseen, if_neg hno, if_neg (not_of_f (by assumption))]; rfl, ((hgr.no (by assumption)).1).trans hO1, (by show 64 - come 64 (grw rows n (s1.1.getD c 0 - 1) (s1.1, s1.2 ||| 1#64 <<< c)).2.2 ≤ n; omega), rfl⟩
  · intro s k hk hI
    obtain ⟨s1, res⟩ := s
    try dsimp only at hI ⊢
    obtain ⟨z, hz, hg, hO1, hcm, hres⟩ := hI
    have hres : res = false := hres
    subst hres
    obtain rfl : z = [] := by simpa using hz
    refine K_blk ?_
    refine K_seq ?_
    refine B_seq ?_
    refine B_region ?_
    refine L_op (env' := uS2n62) rfl rfl (v_storeC (VVal.bool false) rfl rfl rfl rfl rfl rfl rfl (by first | exact get_app rfl rfl | exact get_out hp | exact get_out hq | exact get_app (mtH_len rfl) rfl | exact mt_q hqH | exact mt_p hpH hpq) (by first | exact Nat.le_of_ble_eq_true rfl | (simp only [List.length_map, List.length_cons, List.length_nil]; omega) | omega | (simp; done) | (simp; omega)) (by exact set_app (mtH_len rfl))) rfl ?_
    refine L_nil ?_
    refine K_seq ?_
    refine B_ret ?_
    refine E_app (.inr rfl) (vres_cell rfl rfl rfl rfl (by exact get_app (mtH_len rfl) rfl) (by first | rfl | assumption | exact own_cell (by omega) | exact fget (α := BitVec 64) 0 (by omega))) (by exact mt_base trivial) (by first | rfl | simp [VVal.under, VVal.underL, *]) ?_
    exact ⟨by rw [show grw rows (n + 1) row (O, S) = (false, s1) from hg], by rw [show grw rows (n + 1) row (O, S) = (false, s1) from hg]⟩
  · rintro j pre c post s k hk hx (⟨rfl, hX⟩)
    obtain ⟨s1, res⟩ := s
    try dsimp only
    obtain ⟨hX1, hX2⟩ := hX
    have hX2 : res = true := hX2
    subst hX2
    refine J_ret ?_
    refine K_blkR ?_
    refine K_seqR ?_
    refine E_app (.inr rfl) (vres_cell rfl rfl rfl rfl (by exact get_app (mtH_len rfl) rfl) (by first | rfl | assumption | exact own_cell (by omega) | exact fget (α := BitVec 64) 0 (by omega))) (by exact mt_base trivial) (by first | rfl | simp [VVal.under, VVal.underL, *]) ?_
    exact ⟨by rw [show grw rows (n + 1) row (O, S) = (true, s1) from hX1], by rw [show grw rows (n + 1) row (O, S) = (true, s1) from hX1]⟩
end Go.Proofs.YtpekleeidllllaaDoor.VT
