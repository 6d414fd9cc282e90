/- Proved: Rows.TallyPlansCardSaid, the statement TallyPlans with its card, of the given program at the commit; no conditions beyond those in the statement. -/
import Derived.Test.YtenkjadobkjaeaaDoorC2x13
set_option autoImplicit false
set_option linter.unusedVariables false
set_option linter.unusedSimpArgs false
set_option maxHeartbeats 4000000
set_option maxRecDepth 100000
namespace Go.Proofs.YtenkjadobkjaeaaDoor.VT
open Go Go.V Go.RowKit
abbrev u27 {a0 a1 a2 a3 a4 a5 a6 a7 a8 a9 a10 a11 a12 a13 a14 a15 a16 a17 a18 a19 a20 a21 a22 a23 a24 a25 a26 : VVal} : VEnv := a0 :: a1 :: a2 :: a3 :: a4 :: a5 :: a6 :: a7 :: a8 :: a9 :: a10 :: a11 :: a12 :: a13 :: a14 :: a15 :: a16 :: a17 :: a18 :: a19 :: a20 :: a21 :: a22 :: a23 :: a24 :: a25 :: a26 :: []
namespace MM
theorem grow_spec {x : SW} (p q : Nat) (rows : List (BitVec 64)) (hpq : p ≠ q) (h62 : rows.length < 4611686018427387904) : ∀ (n : Nat) (H : Zf) (row : Int) (O : List Int) (S : BitVec 64), H[p]? = some (mtB rows O) → H[q]? = some (seB S) → 0 ≤ row → row < rows.length → Gok rows O → 64 - Ys 64 S < n → F (psys x) 150 [.ptr (some (p, 0)), iI row, .ptr (some (q, 0))] H fun v G => v = .bool (grw rows n row (O, S)).1 ∧ G = mtH H p q rows (grw rows n row (O, S)).2
  | 0, _, _, _, _, _, _, _, _, _, h => absurd h (by omega)
  | n + 1, H, row, O, S, hp, hq, h0, h1, hO, hm => grow_s p q n rows hpq (fun H row O S a b c d e f => grow_spec p q rows hpq h62 n H row O S a b c d e f) H row O S hp hq h0 h1 hO hm h62
theorem grow_at {x : SW} (H : Zf) (rows : List (BitVec 64)) (O : List Int) (row : Int) (h0 : 0 ≤ row) (h1 : row < rows.length) (hO : Gok rows O) (h62 : rows.length < 4611686018427387904) : F (psys x) 150 [.ptr (some (H.length + 0, 0)), iI row, .ptr (some (H.length + 1, 0))] (H ++ [mtB rows O, seB 0#64]) fun v G => v = .bool (grw rows 65 row (O, 0#64)).1 ∧ G = H ++ [mtB rows (grw rows 65 row (O, 0#64)).2.1, seB (grw rows 65 row (O, 0#64)).2.2] := by
  have := grow_spec (x := x) (H.length + 0) (H.length + 1) rows (by omega) h62 65 (H ++ [mtB rows O, seB 0#64]) row O 0#64 (ZN rfl rfl) (ZN rfl rfl) h0 h1 hO (by rw [come_0]; omega)
  unfold mtH at this
  rw [ZR rfl, ZR rfl] at this
  exact this
theorem mtB_under {n : Nat} {rows : List (BitVec 64)} {O : List Int} : (mtB rows O).under n = true := by
  show VVal.underL n (fzW rows :: O.map iI) = true
  simp [VVal.underL, YG, YW]
def mskT (l : List (BitVec 64)) (t : BitVec 64) (k : Nat) : List (BitVec 64) := msk (l.take k) t ++ l.drop k
theorem beq_nat {a b : Nat} : ((a : Int) == (b : Int)) = (a == b) := Bool.eq_iff_iff.2 (by rw [beq_iff_eq, beq_iff_eq]; omega)
theorem mskT_len {l : List (BitVec 64)} {t : BitVec 64} {k : Nat} : (mskT l t k).length = l.length := by
  unfold mskT; rw [List.length_append, Yk, List.length_take, List.length_drop]; omega
theorem mskT_0 {l : List (BitVec 64)} {t : BitVec 64} : mskT l t 0 = l := by unfold mskT msk; simp
theorem mskT_all {l : List (BitVec 64)} {t : BitVec 64} : mskT l t l.length = msk l t := by unfold mskT; simp
theorem mskT_get {l : List (BitVec 64)} {t : BitVec 64} {k : Nat} (h : k < l.length) : (mskT l t k).getD k 0 = l.getD k 0 := by
  unfold mskT
  rw [List.getD_eq_getElem?_getD, List.getElem?_append_right (by rw [Yk, List.length_take]; omega), Yk, List.length_take, Nat.min_eq_left (by omega), Nat.sub_self, List.getElem?_drop, Nat.add_zero, List.getD_eq_getElem?_getD]
theorem mskT_set {l : List (BitVec 64)} {t : BitVec 64} {k : Nat} (h : k < l.length) : (mskT l t k).set k (l.getD k 0 &&& ~~~t) = mskT l t (k + 1) := by
  unfold mskT
  rw [List.set_append_right _ _ (by rw [Yk, List.length_take]; omega), Yk, List.length_take, Nat.min_eq_left (by omega), Nat.sub_self, List.take_succ_eq_append_getElem h, List.drop_eq_getElem_cons h, List.getD_eq_getElem?_getD, List.getElem?_eq_getElem h]
  show msk (l.take k) t ++ ((l[k] &&& ~~~t) :: l.drop (k + 1)) = _
  unfold msk
  rw [List.map_append, List.append_assoc]; rfl
theorem splice_w {l : List (BitVec 64)} {k : Nat} {w : BitVec 64} (h : k < l.length) : ZJ (l.map iW) (0 + k * 1) [iW w] = (l.set k w).map iW := by
  rw [show 0 + k * 1 = k by omega]
  unfold ZJ
  rw [List.map_set, List.set_eq_take_append_cons_drop, if_pos (by rw [List.length_map]; exact h)]; simp
theorem size_spec {x : SW} (H : Zf) (rows : List (BitVec 64)) (h62 : rows.length < 4611686018427387904) : F (psys x) 130 [fzW rows] H fun v G => v = iI (szN rows : Nat) ∧ G = H := by
  refine Zq Tryd.func130 rfl u22 rfl ?_
  refine Zd (Za ?_)
  refine Zo (env' := u22) rfl rfl (Zg (VVal.int .i64 0) (.inr rfl) rfl) rfl ?_
  refine Ze (Zc (Zd (Za ?_)))
  refine Zo (env' := u22) rfl rfl (Zb (.inl rfl) rfl) rfl ?_
  refine Zo (env' := u22) rfl rfl (rfl) rfl ?_
  refine Zo (env' := u22) rfl rfl (ZQ rfl rfl rfl) rfl ?_
  refine Zo (env' := u22) rfl rfl (Zb (.inr rfl) rfl) rfl ?_
  refine Zo (env' := u22) rfl rfl (Zg (VVal.int .i64 0) (.inr rfl) rfl) rfl ?_
  refine Ze (Zc (Zd (Zd (Za ?_))))
  refine Zo (env' := u22) rfl rfl (Zb (.inl rfl) rfl) rfl ?_
  refine Zo (env' := u22) rfl rfl (rfl) rfl ?_
  refine Zo (env' := u22) rfl rfl (Zg (VVal.int .i64 0) (.inl rfl) rfl) rfl ?_
  refine Ze (Zc (Zl ?_))
  refine Zz [true,true,true,false,false,true,true,true,true,true,true,false,false,true,true,true,true,true,true,true,true,true] (env' := u22) rfl ?_
  refine ZE (fun (k : Nat) => rows.length - k) (fun (k : Nat) => [(4, iI ((szO rows k).2 : Nat)), (12, iI (k : Nat))]) (fun (k : Nat) G => (k ≤ rows.length) ∧ G = H ++ [mtB rows (szO rows k).1]) 0 rfl ?_ ?_
  · refine ⟨?_, rfl⟩
    exact Nat.zero_le _
  rintro k _ ⟨hk, rfl⟩
  refine ZV (env' := u22) rfl ?_
  refine Zd (Za ?_)
  refine Zo (env' := u22) rfl rfl (rfl) rfl ?_
  refine Ze (Zc (Zd ?_))
  refine Zk _ rfl (fun hc1 => ?_) (fun hc1 => ?_)
  · try simp only [decide_eq_true_eq, decide_eq_false_iff_not, Bool.not_eq_true', Bool.not_eq_false', bne_iff_ne, beq_iff_eq, Bool.and_eq_true, Bool.or_eq_true, Bool.not_eq_true, ge_iff_le, gt_iff_lt, Int.not_le, Int.not_lt, beq_eq_false_iff_ne, bne_eq_false_iff_eq, ne_eq, Decidable.not_not, ZK, ZT, ZS] at hc1
    refine Zj (Zc (Zd (Zl (Zd (Za ?_)))))
    refine Zo (env' := u22) rfl rfl (Zb (.inl rfl) rfl) rfl ?_
    refine Zo (env' := u22) rfl rfl (Zb (.inr rfl) rfl) rfl ?_
    refine Ze (Zc (Zd (Za ?_)))
    refine Zo (env' := u22) rfl rfl (Z4 rfl rfl) rfl ?_
    refine Zo (env' := u22) rfl rfl (YB (VVal.int .u64 0) rfl rfl rfl rfl rfl rfl rfl XH7 XH6 XH19) rfl ?_
    refine Ze (Zc (Zd (Za ?_)))
    refine Zo (env' := u22) rfl rfl (Zb (.inl rfl) rfl) rfl ?_
    refine Zo (env' := u22) rfl rfl (Zb (.inl rfl) rfl) rfl ?_
    refine Zy rfl rfl rfl (by exact grow_at H rows (szO rows k).1 k (by omega) (by omega) (szO_ok (by omega)) h62) ?_
    rintro _ _ ⟨rfl, rfl⟩
    refine L_env (env' := u22) rfl ?_
    refine Ze (Zc ?_)
    refine Zk _ rfl (fun hc2 => ?_) (fun hc2 => ?_)
    · try simp only [decide_eq_true_eq, decide_eq_false_iff_not, Bool.not_eq_true', Bool.not_eq_false', bne_iff_ne, beq_iff_eq, Bool.and_eq_true, Bool.or_eq_true, Bool.not_eq_true, ge_iff_le, gt_iff_lt, Int.not_le, Int.not_lt, beq_eq_false_iff_ne, bne_eq_false_iff_eq, ne_eq, Decidable.not_not, ZK, ZT, ZS] at hc2
      refine Za ?_
      refine Zo (env' := u22) rfl rfl (Zb (.inl rfl) rfl) rfl ?_
      refine Zo (env' := u22) rfl rfl (YE rfl rfl rfl (by have := @szO_le rows k; omega)) rfl ?_
      refine Zo (env' := u22) rfl rfl (Zb (.inr rfl) rfl) rfl ?_
      refine Ze (Zr (Zc (Za ?_)))
      refine Zo (env' := u22) rfl rfl (YE rfl rfl rfl XH1) rfl ?_
      refine Zo (env' := u22) rfl rfl (Zb (.inl rfl) rfl) rfl ?_
      refine Ze ?_
      first
        | (have hE : (((szO rows k).2 : Nat) : Int) + 1 = ((szO rows (k + 1)).2 : Nat) := by rw [szO, if_pos (by assumption)]; rfl); rw [hE]
        | (have hE : (szO rows k).2 = (szO rows (k + 1)).2 := by rw [szO]; simp only; rw [if_neg (Yr (by assumption))]); rw [hE]
      refine K_loopG [true,true,true,false,false,true,true,true,true,true,true,false,false,true,true,true,true,true,true,true,true,true] (env' := u22) rfl (Gh.dropTo (L := [mtB rows (szO rows (k + 1)).1]) (X := [seB _]) 1 rfl (BaseOk.refl _) XH18 (by simp [mtB_under])) ⟨k + 1, ?_, rfl, ?_⟩
      · first | omega | (simp only []; omega)
      · exact ⟨by omega, rfl⟩
    · try simp only [decide_eq_true_eq, decide_eq_false_iff_not, Bool.not_eq_true', Bool.not_eq_false', bne_iff_ne, beq_iff_eq, Bool.and_eq_true, Bool.or_eq_true, Bool.not_eq_true, ge_iff_le, gt_iff_lt, Int.not_le, Int.not_lt, beq_eq_false_iff_ne, bne_eq_false_iff_eq, ne_eq, Decidable.not_not, ZK, ZT, ZS] at hc2
      refine Zj (Zr (Zc (Za ?_)))
      refine Zo (env' := u22) rfl rfl (YE rfl rfl rfl XH1) rfl ?_
      refine Zo (env' := u22) rfl rfl (Zb (.inl rfl) rfl) rfl ?_
      refine Ze ?_
      first
        | (have hE : (((szO rows k).2 : Nat) : Int) + 1 = ((szO rows (k + 1)).2 : Nat) := by rw [szO, if_pos (by assumption)]; rfl); rw [hE]
        | (have hE : (szO rows k).2 = (szO rows (k + 1)).2 := by rw [szO]; simp only; rw [if_neg (Yr (by assumption))]); rw [hE]
      refine K_loopG [true,true,true,false,false,true,true,true,true,true,true,false,false,true,true,true,true,true,true,true,true,true] (env' := u22) rfl (Gh.dropTo (L := [mtB rows (szO rows (k + 1)).1]) (X := [seB _]) 1 rfl (BaseOk.refl _) XH18 (by simp [mtB_under])) ⟨k + 1, ?_, rfl, ?_⟩
      · first | omega | (simp only []; omega)
      · exact ⟨by omega, rfl⟩
  · try simp only [decide_eq_true_eq, decide_eq_false_iff_not, Bool.not_eq_true', Bool.not_eq_false', bne_iff_ne, beq_iff_eq, Bool.and_eq_true, Bool.or_eq_true, Bool.not_eq_true, ge_iff_le, gt_iff_lt, Int.not_le, Int.not_lt, beq_eq_false_iff_ne, bne_eq_false_iff_eq, ne_eq, Decidable.not_not, ZK, ZT, ZS] at hc1
    refine ZG (ZH (Zx (ZF (Zc (Zd (Za ?_))))))
    refine Zo (env' := u22) rfl rfl (Zb (.inl rfl) rfl) rfl ?_
    refine Zo (env' := u22) rfl rfl (Zb (.inr rfl) rfl) rfl ?_
    refine Ze (Zc (Zi ?_))
    refine Yp (.inr rfl) (Zh rfl rfl) XH9 (by first | rfl | simp [VVal.under, VVal.underL, YG, *]) ?_
    obtain rfl : k = rows.length := by omega
    exact ⟨rfl, rfl⟩
theorem size_m {x : SW} {n : Nat} (H : Zf) (l : List (BitVec 64)) (t : BitVec 64) (hn : n = (msk l t).length) (h62 : (msk l t).length < 4611686018427387904) : F (psys x) 130 [.fsl ((msk l t).map iW) n 1 false] H fun v G => v = iI (szN (msk l t) : Nat) ∧ G = H := by
  subst hn; exact size_spec H (msk l t) h62
theorem Clone_nil {x : SW} (H : Zf) : F (psys x) 99 [.slice none 0 0 true 0] H fun v G => v = .fsl [] 0 1 false ∧ G = H := by
  refine Zq Tryd.func99 rfl u8 rfl ?_
  refine Zd (Za ?_)
  refine Zo (env' := u8) rfl rfl (Zg (VVal.slice none 0 0 true 0) (.inr rfl) rfl) rfl ?_
  refine Ze (Zc (Zd (Zd (Za ?_))))
  refine Zo (env' := u8) rfl rfl (Zb (.inl rfl) rfl) rfl ?_
  refine Zo (env' := u8) rfl rfl (rfl) rfl ?_
  refine Ze (Zc ?_)
  refine ZL rfl rfl ?_
  refine Zd (Za ?_)
  refine Zo (env' := u8) rfl rfl (Zg (VVal.slice none 0 0 true 0) (.inr rfl) rfl) rfl ?_
  refine Ze (Zc (Zi (Zn ?_)))
  refine E_gh (.inr rfl) (Zh rfl rfl) (Gh.ansLV (BaseOk.refl _) (LV.nil H.length 1 []) rfl) ?_
  exact ⟨rfl, rfl⟩
theorem Clone_emp {x : SW} (H : Zf) : F (psys x) 99 [.slice none 0 0 false 0] H fun v G => v = .fsl [] 0 1 false ∧ G = H := by
  refine Zq Tryd.func99 rfl u8 rfl ?_
  refine Zd (Za ?_)
  refine Zo (env' := u8) rfl rfl (Zg (VVal.slice none 0 0 true 0) (.inr rfl) rfl) rfl ?_
  refine Ze (Zc (Zd (Zd (Za ?_))))
  refine Zo (env' := u8) rfl rfl (Zb (.inl rfl) rfl) rfl ?_
  refine Zo (env' := u8) rfl rfl (rfl) rfl ?_
  refine Ze (Zc ?_)
  refine Ye rfl rfl ?_
  refine Zj (Zc (Zd (Za ?_)))
  refine Zo (env' := u8) rfl rfl (ZI rfl rfl (by decide) rfl) rfl ?_
  refine Zo (env' := u8) rfl rfl (Zb (.inl rfl) rfl) rfl ?_
  refine Zo (env' := u8) rfl rfl (v_appIn rfl rfl rfl rfl rfl rfl rfl (ZN rfl rfl) rfl rfl rfl rfl (by decide) (by decide) (by decide)) rfl ?_
  refine L_heap (H' := H ++ [.cells [] true]) (by rw [ZR rfl]; rfl) ?_
  refine Zo (env' := u8) rfl rfl (Zb (.inr rfl) rfl) rfl ?_
  refine Ze (Zc (Zi ?_))
  refine E_gh (.inr rfl) (Zh rfl rfl) (Gh.fsl (j := 0) (off := 0) (len := 0) (l := []) (BaseOk.refl _) rfl rfl (Nat.le_refl _) rfl) ?_
  exact ⟨rfl, rfl⟩
theorem Clone_c {x : SW} (H : Zf) (l : List (BitVec 64)) (hne : l ≠ []) (hl : l.length ≤ 1000000) : F (psys x) 99 [fzW l] H fun v G => v = .slice (some (H.length, 0)) l.length l.length (decide (l.length = 0)) 1 ∧ G = H ++ [.cells (l.map iW) true] := by
  refine Zq Tryd.func99 rfl u8 rfl ?_
  refine Zd (Za ?_)
  refine Zo (env' := u8) rfl rfl (Zg (VVal.slice none 0 0 true 0) (.inr rfl) rfl) rfl ?_
  refine Ze (Zc (Zd (Zd (Za ?_))))
  refine Zo (env' := u8) rfl rfl (Zb (.inl rfl) rfl) rfl ?_
  refine Zo (env' := u8) rfl rfl (v_eqNilF rfl rfl rfl rfl rfl (fun e => hne (List.eq_nil_of_length_eq_zero e))) rfl ?_
  refine Ze (Zc ?_)
  refine Ye rfl rfl ?_
  refine Zj (Zc (Zd (Za ?_)))
  refine Zo (env' := u8) rfl rfl (ZI rfl rfl (by decide) rfl) rfl ?_
  refine Zo (env' := u8) rfl rfl (Zb (.inl rfl) rfl) rfl ?_
  refine L_opX rfl rfl (v_appE rfl rfl rfl rfl rfl rfl rfl rfl (by rw [List.length_map]; exact (Nat.mul_one _).symm) (mapW_one _) (by decide) (by show l.length * 8 ≤ _ ∧ l.length ≤ _; omega)) ?_
  rintro _ _ ⟨Z, i, rfl, rfl, hi⟩
  refine L_env (env' := u8) rfl ?_
  refine Zo (env' := u8) rfl rfl (Zb (.inr rfl) rfl) rfl ?_
  refine Ze (Zc (Zi ?_))
  refine E_gh (.inr rfl) (Zh rfl rfl) (Gh.pack (BaseOk.refl _) hi (Yt _ _)) ?_
  exact ⟨rfl, rfl⟩
theorem Clone_0 {x : SW} (H : Zf) : F (psys x) 99 [fzW []] H fun v G => v = .fsl [] 0 1 false ∧ G = H := F_split0 (Clone_nil H) (Clone_emp H)
theorem Clone_L {x : SW} (H L : Zf) (l : List (BitVec 64)) (hne : l ≠ []) (hl : l.length ≤ 1000000) : F (psys x) 99 [fzW l] (H ++ L) fun v G => v = .slice (some (H.length + L.length, 0)) l.length l.length (decide (l.length = 0)) 1 ∧ G = H ++ (L ++ [.cells (l.map iW) true]) := by
  have := Clone_c (x := x) (H ++ L) l hne hl
  rw [List.length_append, List.append_assoc] at this
  exact this
theorem full_0 {x : SW} (H : Zf) (t : BitVec 64) : F (psys x) 102 [fzW [], iW t] H fun v G => v = .bool (YR [] t) ∧ G = H := by
  refine Zq Tryd.func102 rfl u27 rfl ?_
  refine Zd (Za ?_)
  refine Zo (env' := u27) rfl rfl (Zg (VVal.bool false) (.inr rfl) rfl) rfl ?_
  refine Ze (Zc (Zd (Za ?_)))
  refine Zo (env' := u27) rfl rfl (Zb (.inl rfl) rfl) rfl ?_
  refine Zy rfl rfl rfl (by exact Clone_0 _) ?_
  rintro _ _ ⟨rfl, rfl⟩
  refine L_env (env' := u27) rfl ?_
  refine Zo (env' := u27) rfl rfl (Zb (.inr rfl) rfl) rfl ?_
  refine Ze (Zc (Zd (Zd (Za ?_))))
  refine Zo (env' := u27) rfl rfl (Zb (.inl rfl) rfl) rfl ?_
  refine Zo (env' := u27) rfl rfl (rfl) rfl ?_
  refine Zo (env' := u27) rfl rfl (Zg (VVal.int .i64 0) (.inl rfl) rfl) rfl ?_
  refine Ze (Zc (Zl ?_))
  refine Zz [false,false,true,true,true,false,true,true,true,true,false,false,true,true,true,true,true,true,true,true,true,true,true,true,true,true,true] (env' := u27) rfl ?_
  refine ZE (fun (k : Nat) => 0) (fun (k : Nat) => [(11, iI (k : Nat))]) (fun (k : Nat) G => (True) ∧ G = H ++ []) 0 rfl ?_ ?_
  · refine ⟨?_, rfl⟩
    trivial
  rintro k _ ⟨_, rfl⟩
  refine ZV (env' := u27) rfl ?_
  refine Zd (Za ?_)
  refine Zo (env' := u27) rfl rfl (rfl) rfl ?_
  refine Ze (Zc (Zd ?_))
  refine Zk _ rfl (fun hc1 => ?_) (fun hc1 => ?_)
  · try simp only [decide_eq_true_eq, decide_eq_false_iff_not, Bool.not_eq_true', Bool.not_eq_false', bne_iff_ne, beq_iff_eq, Bool.and_eq_true, Bool.or_eq_true, Bool.not_eq_true, ge_iff_le, gt_iff_lt, Int.not_le, Int.not_lt, beq_eq_false_iff_ne, bne_eq_false_iff_eq, ne_eq, Decidable.not_not, ZK, ZT, ZS] at hc1
    exfalso; omega
  · try simp only [decide_eq_true_eq, decide_eq_false_iff_not, Bool.not_eq_true', Bool.not_eq_false', bne_iff_ne, beq_iff_eq, Bool.and_eq_true, Bool.or_eq_true, Bool.not_eq_true, ge_iff_le, gt_iff_lt, Int.not_le, Int.not_lt, beq_eq_false_iff_ne, bne_eq_false_iff_eq, ne_eq, Decidable.not_not, ZK, ZT, ZS] at hc1
    refine ZG (ZH (Zx (ZF (Zc (Zd (Za ?_))))))
    refine Zo (env' := u27) rfl rfl (Zb (.inl rfl) rfl) rfl ?_
    refine Zy rfl rfl rfl (by exact size_spec _ [] (by decide)) ?_
    rintro _ _ ⟨rfl, rfl⟩
    refine L_env (env' := u27) rfl ?_
    refine Zo (env' := u27) rfl rfl (Zb (.inl rfl) rfl) rfl ?_
    refine Zo (env' := u27) rfl rfl (rfl) rfl ?_
    refine Zo (env' := u27) rfl rfl (rfl) rfl ?_
    refine Zo (env' := u27) rfl rfl (Zb (.inr rfl) rfl) rfl ?_
    refine Ze (Zc (Zi ?_))
    refine Yp (.inr rfl) (Zh rfl rfl) XH9 XH11 ?_
    exact ⟨rfl, rfl⟩
theorem full_c {x : SW} (H : Zf) (l : List (BitVec 64)) (t : BitVec 64) (hne : l ≠ []) (hl : l.length ≤ 1000000) : F (psys x) 102 [fzW l, iW t] H fun v G => v = .bool (YR l t) ∧ G = H := by
  refine Zq Tryd.func102 rfl u27 rfl ?_
  refine Zd (Za ?_)
  refine Zo (env' := u27) rfl rfl (Zg (VVal.bool false) (.inr rfl) rfl) rfl ?_
  refine Ze (Zc (Zd (Za ?_)))
  refine Zo (env' := u27) rfl rfl (Zb (.inl rfl) rfl) rfl ?_
  refine Zy rfl rfl rfl (by exact Clone_L _ _ _ hne hl) ?_
  rintro _ _ ⟨rfl, rfl⟩
  refine L_env (env' := u27) rfl ?_
  refine Zo (env' := u27) rfl rfl (Zb (.inr rfl) rfl) rfl ?_
  refine Ze (Zc (Zd (Zd (Za ?_))))
  refine Zo (env' := u27) rfl rfl (Zb (.inl rfl) rfl) rfl ?_
  refine Zo (env' := u27) rfl rfl (rfl) rfl ?_
  refine Zo (env' := u27) rfl rfl (Zg (VVal.int .i64 0) (.inl rfl) rfl) rfl ?_
  refine Ze (Zc (Zl ?_))
  refine Zz [false,false,true,true,true,false,true,true,true,true,false,false,true,true,true,true,true,true,true,true,true,true,true,true,true,true,true] (env' := u27) rfl ?_
  refine ZE (fun (k : Nat) => l.length - k) (fun (k : Nat) => [(11, iI (k : Nat))]) (fun (k : Nat) G => (k ≤ l.length) ∧ G = H ++ [.cells ((mskT l t k).map iW) true]) 0 rfl ?_ ?_
  · refine ⟨?_, (by rw [mskT_0]; rfl)⟩
    exact Nat.zero_le _
  rintro k _ ⟨hk, rfl⟩
  refine ZV (env' := u27) rfl ?_
  refine Zd (Za ?_)
  refine Zo (env' := u27) rfl rfl (rfl) rfl ?_
  refine Ze (Zc (Zd ?_))
  refine Zk _ rfl (fun hc1 => ?_) (fun hc1 => ?_)
  · try simp only [decide_eq_true_eq, decide_eq_false_iff_not, Bool.not_eq_true', Bool.not_eq_false', bne_iff_ne, beq_iff_eq, Bool.and_eq_true, Bool.or_eq_true, Bool.not_eq_true, ge_iff_le, gt_iff_lt, Int.not_le, Int.not_lt, beq_eq_false_iff_ne, bne_eq_false_iff_eq, ne_eq, Decidable.not_not, ZK, ZT, ZS] at hc1
    refine Zj (Zc (Zd (Zl (Zd (Za ?_)))))
    refine Zo (env' := u27) rfl rfl (Zb (.inl rfl) rfl) rfl ?_
    refine Zo (env' := u27) rfl rfl (Zb (.inr rfl) rfl) rfl ?_
    refine Ze (Zc (Za ?_))
    refine Zo (env' := u27) rfl rfl (Zb (.inl rfl) rfl) rfl ?_
    refine Zo (env' := u27) rfl rfl (Zb (.inl rfl) rfl) rfl ?_
    refine Zo (env' := u27) rfl rfl XH37 rfl ?_
    refine Zo (env' := u27) rfl rfl (by first | exact v_loadF rfl rfl rfl rfl (by first | exact fget0 (α := BitVec 64) 0 (by rw [mskT_len]; omega) | rfl) | exact v_load rfl rfl rfl rfl XH7 (by first | exact fget0 (α := BitVec 64) 0 (by rw [mskT_len]; omega) | rfl)) rfl ?_
    refine Zo (env' := u27) rfl rfl (Zb (.inl rfl) rfl) rfl ?_
    refine Zo (env' := u27) rfl rfl (v_andNotW rfl rfl rfl) rfl ?_
    refine Zo (env' := u27) rfl rfl XH37 rfl ?_
    refine Zo (env' := u27) rfl rfl (Yc rfl rfl rfl rfl rfl rfl rfl XH7 (by first | (simp [mskT_len]; done) | (simp [mskT_len]; omega)) (by exact (ZR rfl).trans (by rw [splice_w (by rw [mskT_len]; omega)]))) rfl ?_
    refine Ze (Zr (Zc (Za ?_)))
    refine Zo (env' := u27) rfl rfl (YE rfl rfl rfl XH1) rfl ?_
    refine Zo (env' := u27) rfl rfl (Zb (.inl rfl) rfl) rfl ?_
    refine Ze ?_
    have hE : (mskT l t k).set (k : Int).toNat ((mskT l t k).getD (k : Int).toNat 0 &&& ~~~t) = mskT l t (k + 1) := by rw [Int.toNat_natCast, mskT_get (by omega), mskT_set (by omega)]
    refine Zt [false,false,true,true,true,false,true,true,true,true,false,false,true,true,true,true,true,true,true,true,true,true,true,true,true,true,true] (env' := u27) rfl ⟨k + 1, ?_, rfl, ?_⟩
    · first | omega | (simp only []; omega)
    · exact ⟨by omega, by rw [← hE]; rfl⟩
  · try simp only [decide_eq_true_eq, decide_eq_false_iff_not, Bool.not_eq_true', Bool.not_eq_false', bne_iff_ne, beq_iff_eq, Bool.and_eq_true, Bool.or_eq_true, Bool.not_eq_true, ge_iff_le, gt_iff_lt, Int.not_le, Int.not_lt, beq_eq_false_iff_ne, bne_eq_false_iff_eq, ne_eq, Decidable.not_not, ZK, ZT, ZS] at hc1
    refine ZG (ZH (Zx (ZF (Zc (Zd ?_)))))
    obtain rfl : k = l.length := by omega
    rw [mskT_all]
    refine Za ?_
    refine Zo (env' := u27) rfl rfl (Zb (.inl rfl) rfl) rfl ?_
    refine L_gh (Gh.freezeL (l := (msk l t).map iW) 22 0 rfl rfl (by rw [show l.length * 1 = (msk l t).length * 1 by rw [Yk]]; exact mapW_all) (Nat.le_refl _) rfl) ?_
    refine Zy rfl rfl rfl (by exact size_m _ _ _ (by rw [Yk]) (by rw [Yk]; omega)) ?_
    rintro _ _ ⟨rfl, rfl⟩
    refine L_env (env' := u27) rfl ?_
    refine Zo (env' := u27) rfl rfl (Zb (.inl rfl) rfl) rfl ?_
    refine Zo (env' := u27) rfl rfl (rfl) rfl ?_
    refine Zo (env' := u27) rfl rfl (rfl) rfl ?_
    refine Zo (env' := u27) rfl rfl (Zb (.inr rfl) rfl) rfl ?_
    refine Ze (Zc (Zi ?_))
    refine Yp (.inr rfl) (Zh rfl rfl) XH9 XH11 ?_
    exact ⟨by unfold YR; rw [beq_nat], rfl⟩
end MM
open Go Go.V Go.RowKit
abbrev u33 {a0 a1 a2 a3 a4 a5 a6 a7 a8 a9 a10 a11 a12 a13 a14 a15 a16 a17 a18 a19 a20 a21 a22 a23 a24 a25 a26 a27 a28 a29 a30 a31 a32 : VVal} : VEnv := a0 :: a1 :: a2 :: a3 :: a4 :: a5 :: a6 :: a7 :: a8 :: a9 :: a10 :: a11 :: a12 :: a13 :: a14 :: a15 :: a16 :: a17 :: a18 :: a19 :: a20 :: a21 :: a22 :: a23 :: a24 :: a25 :: a26 :: a27 :: a28 :: a29 :: a30 :: a31 :: a32 :: []
abbrev u43 {a0 a1 a2 a3 a4 a5 a6 a7 a8 a9 a10 a11 a12 a13 a14 a15 a16 a17 a18 a19 a20 a21 a22 a23 a24 a25 a26 a27 a28 a29 a30 a31 a32 a33 a34 a35 a36 a37 a38 a39 a40 a41 a42 : VVal} : VEnv := a0 :: a1 :: a2 :: a3 :: a4 :: a5 :: a6 :: a7 :: a8 :: a9 :: a10 :: a11 :: a12 :: a13 :: a14 :: a15 :: a16 :: a17 :: a18 :: a19 :: a20 :: a21 :: a22 :: a23 :: a24 :: a25 :: a26 :: a27 :: a28 :: a29 :: a30 :: a31 :: a32 :: a33 :: a34 :: a35 :: a36 :: a37 :: a38 :: a39 :: a40 :: a41 :: a42 :: []
namespace MM
theorem full_spec {x : SW} (H : Zf) (l : List (BitVec 64)) (t : BitVec 64) (hl : l.length ≤ 1000000) : F (psys x) 102 [fzW l, iW t] H fun v G => v = .bool (YR l t) ∧ G = H := by
  by_cases h : l = []
  · subst h; exact full_0 H t
  · exact full_c H l t h hl
theorem del_cells {l : List (BitVec 64)} {i : Nat} (hi : i < l.length) : ZJ (ZJ (l.map iW) i ((l.map iW).drop (i + 1))) (0 + (l.length - 1)) (ZC [VVal.int .u64 0] (l.length - (l.length - 1))) = (l.eraseIdx i ++ [0#64]).map iW := by
  rw [show l.length - (l.length - 1) = 1 by omega, show 0 + (l.length - 1) = l.length - 1 by omega]
  have hlen : ((l.eraseIdx i).map iW).length = l.length - 1 := by rw [List.length_map, List.length_eraseIdx_of_lt hi]
  have h1 : ZJ (l.map iW) i ((l.map iW).drop (i + 1)) = (l.eraseIdx i).map iW ++ (l.map iW).drop (l.length - 1) := by
    unfold ZJ
    rw [List.length_drop, List.length_map, show i + (l.length - (i + 1)) = l.length - 1 by omega, List.eraseIdx_eq_take_drop_succ, List.map_append, List.map_take, List.map_drop]
  rw [h1]
  unfold ZJ
  rw [List.take_append_of_le_length (by omega), List.take_of_length_le (by omega), List.drop_of_length_le (by
    rw [List.length_append, hlen, List.length_drop, List.length_map]
    show _ ≤ l.length - 1 + 1
    omega), List.append_nil, List.map_append]
  rfl
theorem erase_all {l : List (BitVec 64)} {i : Nat} : Zs ((l.eraseIdx i ++ [0#64]).map iW) 0 ((l.eraseIdx i).length * 1) = some ((l.eraseIdx i).map iW) := by
  unfold Zs
  rw [if_pos (by rw [List.length_map, List.length_append]; omega), List.drop_zero, List.map_append, List.take_append_of_le_length XH17, List.take_of_length_le XH17]
theorem Delete_spec {x : SW} (H : Zf) (p : Nat) (l : List (BitVec 64)) (i : Nat) (ex : Bool) (hp : H[p]? = some (.cells (l.map iW) true)) (hi : i < l.length) (hl : l.length ≤ 1000000) : F (psys x) 98 [.slice (some (p, 0)) l.length l.length ex 1, iI (i : Nat), iI ((i : Int) + 1)] H fun v G => v = .slice (some (p, 0)) (l.length - 1) l.length ex 1 ∧ G = H.set p (.cells ((l.eraseIdx i ++ [0#64]).map iW) true) := by
  have hpl := ZY hp
  refine Zq Tryd.func98 rfl u33 rfl ?_
  refine Zd (Za ?_)
  refine Zo (env' := u33) rfl rfl (Zg (VVal.slice none 0 0 true 0) (.inr rfl) rfl) rfl ?_
  refine Ze (Zc (Zd (Za ?_)))
  refine Zo (env' := u33) rfl rfl (Zb (.inl rfl) rfl) rfl ?_
  refine Zo (env' := u33) rfl rfl (Zb (.inl rfl) rfl) rfl ?_
  refine Zo (env' := u33) rfl rfl (Zb (.inl rfl) rfl) rfl ?_
  refine Zo (env' := u33) rfl rfl (Zb (.inl rfl) rfl) rfl ?_
  refine Zo (env' := u33) rfl rfl (rfl) rfl ?_
  refine Zo (env' := u33) rfl rfl (v_slLH (l := i) (h := i + 1) (m := l.length) rfl rfl rfl rfl rfl rfl (vb_lhm (l := i) (h := i + 1) (m := l.length) (len := l.length) (cap := l.length) (by omega) (by omega) (by omega)) rfl (Nat.le_refl _) (by omega)) rfl ?_
  refine Ze (Zc (Zd (Zd (Za ?_))))
  refine Zo (env' := u33) rfl rfl (Zb (.inl rfl) rfl) rfl ?_
  refine Zo (env' := u33) rfl rfl (Zb (.inl rfl) rfl) rfl ?_
  refine Zo (env' := u33) rfl rfl (v_is false rfl (by rw [beq_eq_false_iff_ne]; omega)) rfl ?_
  refine Ze (Zc ?_)
  refine Ye rfl rfl ?_
  refine Zj (Zc (Zd (Za ?_)))
  refine Zo (env' := u33) rfl rfl (Zb (.inl rfl) rfl) rfl ?_
  refine Zo (env' := u33) rfl rfl (rfl) rfl ?_
  refine Zo (env' := u33) rfl rfl (Zb (.inr rfl) rfl) rfl ?_
  refine Ze (Zc (Zd ?_))
  refine ZU [0, 1, 2, 3, 4, 5, 6, 7] #[0, 0, 3, 0, 0, 24, 63, 127] XH5 XH5 XH5 ?_
  refine Z6 (env' := u33) (c := .calm) rfl rfl rfl (Zb (.inl rfl) rfl) rfl rfl rfl ?_
  refine Z6 (env' := u33) (c := .calm) rfl rfl rfl (Zb (.inl rfl) rfl) rfl rfl rfl ?_
  refine Z6 (env' := u33) (c := .calm) rfl rfl rfl (v_val (v_slLH (l := 0) (h := i) (m := l.length) rfl rfl rfl rfl rfl rfl (vb_hi (by omega)) rfl (Nat.le_refl _) (by omega)) (show _ = VVal.slice (some (p, 0)) i l.length ex 1 by simp)) rfl rfl rfl ?_
  refine Z6 (env' := u33) (c := .calm) rfl rfl rfl (Zb (.inl rfl) rfl) rfl rfl rfl ?_
  refine Z6 (env' := u33) (c := .calm) rfl rfl rfl (Zb (.inl rfl) rfl) rfl rfl rfl ?_
  refine O_opX .calm rfl rfl rfl (v_slTail (l := i + 1) rfl rfl rfl rfl rfl rfl rfl (by omega) (get_out hp) (by rw [List.length_map])) rfl rfl ?_
  rintro v2 _ ⟨rfl, hsl, hsc⟩
  refine O_env (env' := u33) rfl ?_
  refine Z6 (env' := u33) (c := .turn) rfl rfl rfl (v_appIn rfl rfl rfl rfl rfl rfl rfl (get_out hp) hsl hsc (by rw [List.length_drop, List.length_map]) (by rw [← List.map_drop]; exact mapW_one _) (by show (i + (l.length - (i + 1))) * 8 ≤ _ ∧ _; omega) (by omega) XH17) rfl rfl rfl ?_
  refine Z6 (env' := u33) (c := .calm) rfl rfl rfl (Zb (.inr rfl) rfl) rfl rfl rfl ?_
  refine Z3 [] XH5 (trivial) ?_
  refine Zc (Zd ?_)
  rw [Yq hpl, show i + (l.length - (i + 1)) = l.length - 1 by omega]
  refine Za ?_
  refine Zo (env' := u33) rfl rfl (Zb (.inl rfl) rfl) rfl ?_
  refine Zo (env' := u33) rfl rfl (Zb (.inl rfl) rfl) rfl ?_
  refine Zo (env' := u33) rfl rfl (rfl) rfl ?_
  refine Zo (env' := u33) rfl rfl (Zb (.inl rfl) rfl) rfl ?_
  refine Zo (env' := u33) rfl rfl (v_slLH (l := l.length - 1) (h := l.length) (m := l.length) rfl rfl rfl rfl rfl rfl (vb_lh (by omega) (Nat.le_refl _)) rfl (by omega) (by omega)) rfl ?_
  refine Zo (env' := u33) rfl rfl (v_clear1 rfl rfl rfl rfl rfl rfl rfl (get_out (List.getElem?_set_self hpl)) (by unfold ZJ; simp; omega)) rfl ?_
  refine L_heap (H' := H.set p (.cells ((l.eraseIdx i ++ [0#64]).map iW) true) ++ []) (by rw [Yq (by rw [List.length_set]; exact hpl), List.set_set]; exact congrArg (fun c => H.set p (.cells c true) ++ []) (del_cells hi)) ?_
  refine Ze (Zc (Zd (Za ?_)))
  refine Zo (env' := u33) rfl rfl (Zb (.inl rfl) rfl) rfl ?_
  refine Zo (env' := u33) rfl rfl (Zb (.inr rfl) rfl) rfl ?_
  refine Ze (Zc (Zi ?_))
  refine Yp (.inr rfl) (Zh rfl rfl) (by exact BaseOk.set (BaseOk.refl _) _ (Yt _ _)) XH11 ?_
  exact ⟨rfl, rfl⟩
theorem Del_at {x : SW} (H : Zf) (l : List (BitVec 64)) (i : Nat) (ex : Bool) (hi : i < l.length) (hl : l.length ≤ 1000000) : F (psys x) 98 [.slice (some (H.length + 0, 0)) l.length l.length ex 1, iI (i : Nat), iI ((i : Int) + 1)] (H ++ [.cells (l.map iW) true]) fun v G => v = fzW (l.eraseIdx i) ∧ G = H ++ [.dead] := by
  refine F.gh (Delete_spec (H ++ [.cells (l.map iW) true]) (H.length + 0) l i ex (ZN rfl rfl) hi hl) fun v G h => ?_
  obtain ⟨rfl, rfl⟩ := h
  refine ⟨fzW (l.eraseIdx i), H ++ [.dead], ?_, rfl, rfl⟩
  rw [ZR rfl, show l.length - 1 = (l.eraseIdx i).length by rw [List.length_eraseIdx_of_lt hi]]
  exact Gh.freezeL 0 0 rfl rfl erase_all (by rw [List.length_eraseIdx_of_lt hi]; omega) rfl
theorem Del_atI {x : SW} (H : Zf) (l : List (BitVec 64)) (i : Int) (ex : Bool) (h0 : 0 ≤ i) (hi : i < l.length) (hl : l.length ≤ 1000000) : F (psys x) 98 [.slice (some (H.length + 0, 0)) l.length l.length ex 1, iI i, iI (i + 1)] (H ++ [.cells (l.map iW) true]) fun v G => v = fzW (l.eraseIdx i.toNat) ∧ G = H ++ [.dead] := by
  have := Del_at (x := x) H l i.toNat ex (by omega) hl
  rw [show ((i.toNat : Nat) : Int) = i by omega] at this
  exact this
def freeV (l : List (BitVec 64)) (i : Int) : BitVec 64 := if l.length ≤ 12 ∧ 0 ≤ i ∧ i < l.length then frW l i.toNat else 0#64
theorem Free_spec {x : SW} (H : Zf) (l : List (BitVec 64)) (i : Int) (hl : l.length ≤ 1000000) : F (psys x) 61 [fzW l, iI i] H fun v G => v = iW (freeV l i) ∧ G = H := by
  refine Zq Tryd.func61 rfl u43 rfl ?_
  refine Zd (Za ?_)
  refine Zo (env' := u43) rfl rfl (Zg (VVal.int .u64 0) (.inr rfl) rfl) rfl ?_
  refine Ze (Zc (Zd (Zd (Za ?_))))
  refine Zo (env' := u43) rfl rfl (Zb (.inl rfl) rfl) rfl ?_
  refine Zy rfl rfl rfl (by exact fits_spec _ _) ?_
  rintro _ _ ⟨rfl, rfl⟩
  refine L_env (env' := u43) rfl ?_
  refine Zo (env' := u43) rfl rfl (rfl) rfl ?_
  refine Zo (env' := u43) rfl rfl (Zb (.inl rfl) rfl) rfl ?_
  refine Zu 11 (env1 := u43) (env2 := u43) rfl rfl rfl (fun hg1 => ?_) (fun hg1 => ?_)
  · try simp only [decide_eq_true_eq, decide_eq_false_iff_not, Bool.not_eq_true', Bool.not_eq_false', bne_iff_ne, beq_iff_eq, Bool.and_eq_true, Bool.or_eq_true, Bool.not_eq_true, ge_iff_le, gt_iff_lt, Int.not_le, Int.not_lt, beq_eq_false_iff_ne, bne_eq_false_iff_eq, ne_eq, Decidable.not_not, ZK, ZT, ZS] at hg1
    refine Yw (env' := u43) rfl rfl ?_
    refine Yw (env' := u43) rfl rfl ?_
    refine Zo (env' := u43) rfl rfl (ZB (VVal.bool true) rfl rfl rfl) rfl ?_
    refine Zo (env' := u43) rfl rfl (Zb (.inl rfl) rfl) rfl ?_
    refine Yw (env' := u43) rfl rfl ?_
    refine Yw (env' := u43) rfl rfl ?_
    refine Yw (env' := u43) rfl rfl ?_
    refine Yw (env' := u43) rfl rfl ?_
    refine Zo (env' := u43) rfl rfl (ZB (VVal.bool true) rfl rfl rfl) rfl ?_
    refine Ze (Zc ?_)
    refine ZL rfl rfl ?_
    refine Zd (Za ?_)
    refine Zo (env' := u43) rfl rfl (Zg (VVal.int .u64 0) (.inr rfl) rfl) rfl ?_
    refine Ze (Zc (Zi (Zn ?_)))
    refine Yp (.inr rfl) (Zh rfl rfl) XH9 XH11 ?_
    first
      | exact ⟨by rw [freeV, if_neg (by omega)]; rfl, rfl⟩
      | exact ⟨by rw [freeV, if_pos (by omega)]; rfl, rfl⟩
  · try simp only [decide_eq_true_eq, decide_eq_false_iff_not, Bool.not_eq_true', Bool.not_eq_false', bne_iff_ne, beq_iff_eq, Bool.and_eq_true, Bool.or_eq_true, Bool.not_eq_true, ge_iff_le, gt_iff_lt, Int.not_le, Int.not_lt, beq_eq_false_iff_ne, bne_eq_false_iff_eq, ne_eq, Decidable.not_not, ZK, ZT, ZS] at hg1
    refine Zo (env' := u43) rfl rfl (Zb (.inl rfl) rfl) rfl ?_
    refine Zo (env' := u43) rfl rfl (rfl) rfl ?_
    refine Zo (env' := u43) rfl rfl (ZW rfl rfl rfl) rfl ?_
    refine Zo (env' := u43) rfl rfl (Zb (.inl rfl) rfl) rfl ?_
    refine Zu 15 (env1 := u43) (env2 := u43) rfl rfl rfl (fun hg2 => ?_) (fun hg2 => ?_)
    · try simp only [decide_eq_true_eq, decide_eq_false_iff_not, Bool.not_eq_true', Bool.not_eq_false', bne_iff_ne, beq_iff_eq, Bool.and_eq_true, Bool.or_eq_true, Bool.not_eq_true, ge_iff_le, gt_iff_lt, Int.not_le, Int.not_lt, beq_eq_false_iff_ne, bne_eq_false_iff_eq, ne_eq, Decidable.not_not, ZK, ZT, ZS] at hg2
      refine Yw (env' := u43) rfl rfl ?_
      refine Yw (env' := u43) rfl rfl ?_
      refine Yw (env' := u43) rfl rfl ?_
      refine Yw (env' := u43) rfl rfl ?_
      refine Zo (env' := u43) rfl rfl (ZB (VVal.bool true) rfl rfl rfl) rfl ?_
      refine Ze (Zc ?_)
      refine ZL rfl rfl ?_
      refine Zd (Za ?_)
      refine Zo (env' := u43) rfl rfl (Zg (VVal.int .u64 0) (.inr rfl) rfl) rfl ?_
      refine Ze (Zc (Zi (Zn ?_)))
      refine Yp (.inr rfl) (Zh rfl rfl) XH9 XH11 ?_
      first
        | exact ⟨by rw [freeV, if_neg (by omega)]; rfl, rfl⟩
        | exact ⟨by rw [freeV, if_pos (by omega)]; rfl, rfl⟩
    · try simp only [decide_eq_true_eq, decide_eq_false_iff_not, Bool.not_eq_true', Bool.not_eq_false', bne_iff_ne, beq_iff_eq, Bool.and_eq_true, Bool.or_eq_true, Bool.not_eq_true, ge_iff_le, gt_iff_lt, Int.not_le, Int.not_lt, beq_eq_false_iff_ne, bne_eq_false_iff_eq, ne_eq, Decidable.not_not, ZK, ZT, ZS] at hg2
      refine Zo (env' := u43) rfl rfl (Zb (.inl rfl) rfl) rfl ?_
      refine Zo (env' := u43) rfl rfl (Zb (.inl rfl) rfl) rfl ?_
      refine Zo (env' := u43) rfl rfl (rfl) rfl ?_
      refine Zo (env' := u43) rfl rfl (rfl) rfl ?_
      refine Zo (env' := u43) rfl rfl (ZW rfl rfl rfl) rfl ?_
      refine Ze (Zc ?_)
      refine Zk _ rfl (fun hc3 => ?_) (fun hc3 => ?_)
      · try simp only [decide_eq_true_eq, decide_eq_false_iff_not, Bool.not_eq_true', Bool.not_eq_false', bne_iff_ne, beq_iff_eq, Bool.and_eq_true, Bool.or_eq_true, Bool.not_eq_true, ge_iff_le, gt_iff_lt, Int.not_le, Int.not_lt, beq_eq_false_iff_ne, bne_eq_false_iff_eq, ne_eq, Decidable.not_not, ZK, ZT, ZS] at hc3
        refine Zd (Za ?_)
        refine Zo (env' := u43) rfl rfl (Zg (VVal.int .u64 0) (.inr rfl) rfl) rfl ?_
        refine Ze (Zc (Zi (Zn ?_)))
        refine Yp (.inr rfl) (Zh rfl rfl) XH9 XH11 ?_
        first
          | exact ⟨by rw [freeV, if_neg (by omega)]; rfl, rfl⟩
          | exact ⟨by rw [freeV, if_pos (by omega)]; rfl, rfl⟩
      · try simp only [decide_eq_true_eq, decide_eq_false_iff_not, Bool.not_eq_true', Bool.not_eq_false', bne_iff_ne, beq_iff_eq, Bool.and_eq_true, Bool.or_eq_true, Bool.not_eq_true, ge_iff_le, gt_iff_lt, Int.not_le, Int.not_lt, beq_eq_false_iff_ne, bne_eq_false_iff_eq, ne_eq, Decidable.not_not, ZK, ZT, ZS] at hc3
        refine Zj (Zc (Zd (Za ?_)))
        have hne : l ≠ [] := fun e => by have h9 := congrArg List.length e; simp only [List.length_nil] at h9; omega
        refine Zo (env' := u43) rfl rfl (Zb (.inl rfl) rfl) rfl ?_
        refine Zy rfl rfl rfl (by exact Clone_L _ _ _ hne hl) ?_
        rintro _ _ ⟨rfl, rfl⟩
        refine L_env (env' := u43) rfl ?_
        refine Zo (env' := u43) rfl rfl (Zb (.inl rfl) rfl) rfl ?_
        refine Zo (env' := u43) rfl rfl (Zb (.inl rfl) rfl) rfl ?_
        refine Zo (env' := u43) rfl rfl (YE rfl rfl rfl XH1) rfl ?_
        refine Zy rfl rfl rfl (by exact Del_atI _ _ i _ (by omega) (by omega) hl) ?_
        rintro _ _ ⟨rfl, rfl⟩
        refine L_env (env' := u43) rfl ?_
        refine Zo (env' := u43) rfl rfl (Z4 rfl rfl) rfl ?_
        refine Zo (env' := u43) rfl rfl (Z4 rfl rfl) rfl ?_
        refine Zo (env' := u43) rfl rfl (Yc rfl rfl rfl rfl rfl rfl rfl XH7 XH6 XH19) rfl ?_
        refine Zo (env' := u43) rfl rfl (YB (VVal.int .u64 0) rfl rfl rfl rfl rfl rfl rfl XH7 XH6 XH19) rfl ?_
        refine Ze (Zc (Zd (Zd (Za ?_))))
        refine Zo (env' := u43) rfl rfl (Zb (.inl rfl) rfl) rfl ?_
        refine Zo (env' := u43) rfl rfl (Zb (.inl rfl) rfl) rfl ?_
        refine Zo (env' := u43) rfl rfl XH37 rfl ?_
        refine Zo (env' := u43) rfl rfl XH39 rfl ?_
        refine Zy rfl rfl rfl (by exact mset_spec _ _) ?_
        rintro _ _ ⟨rfl, rfl⟩
        refine L_env (env' := u43) rfl ?_
        refine Zy rfl rfl rfl (by exact All_spec _ _) ?_
        rintro _ _ ⟨rfl, rfl⟩
        refine L_env (env' := u43) rfl ?_
        refine Ze (Zc (Zl ?_))
        refine Zz [true,true,true,true,true,false,false,true,true,true,true,true,true,true,true,true,true,true,true,true,true,true,true,true,true,true,true,true,true,true,true,true,false,true,true,true,true,true,true,true,true,true,true] (env' := u43) rfl ?_
        refine B_rangeM cI (pl (l.getD i.toNat 0) 0) (fun l0 h => by cases h) rfl (fun l G R h => All1_spec _ _ _ _ h) (σ := BitVec 64) (fun k s => H ++ [.dead, .cells [fzW (l.eraseIdx i.toNat)] true, .cells [iW s] true, k]) 0#64 (fun k => by rw [List.append_assoc]; rfl) (fun k s => by rw [List.length_append]; exact ZN rfl rfl) (fun k k1 s => by rw [List.length_append]; exact ZR rfl) (fun pre s => s = frF l i.toNat pre) ?_ (fun j pre c s => False) rfl ?_ ?_ ?_
        · rfl
        · intro pre c post s hx hI kr kb hkr hkb
          try dsimp only at hI ⊢
          subst hI
          have hc : c ∈ pl (l.getD i.toNat 0) 0 := by rw [hx]; simp
          obtain ⟨_, hc64, hcb⟩ := mem_pl.1 hc
          refine ZV (env' := u43) rfl ?_
          refine Za ?_
          refine Zo (env' := u43) rfl rfl (Zb (.inr rfl) rfl) rfl ?_
          refine Ze ?_
          refine ⟨rfl, (frF l i.toNat pre), rfl, ?_⟩
          try dsimp only
          refine Zl (Zd ?_)
          refine ZU [0, 1, 2, 3] #[0, 0, 2, 7] XH5 XH5 XH5 ?_
          refine Z6 (env' := u43) (c := .look) rfl rfl rfl XH39 rfl rfl rfl ?_
          refine Z6 (env' := u43) (c := .calm) rfl rfl rfl (Zb (.inl rfl) rfl) rfl rfl rfl ?_
          refine Z6 (env' := u43) (c := .calm) rfl rfl rfl (v_shl1 rfl rfl rfl XH1) rfl rfl rfl ?_
          refine Z8 (env' := u43) rfl rfl rfl rfl rfl (by exact full_spec _ _ _ (by first | assumption | (rw [List.length_eraseIdx_of_lt (by omega)]; omega))) XH10 rfl rfl ?_
          refine Z3 [] XH5 (trivial) ?_
          refine Zc ?_
          refine Zk _ rfl (fun hc4 => ?_) (fun hc4 => ?_)
          · try simp only [decide_eq_true_eq, decide_eq_false_iff_not, Bool.not_eq_true', Bool.not_eq_false', bne_iff_ne, beq_iff_eq, Bool.and_eq_true, Bool.or_eq_true, Bool.not_eq_true, ge_iff_le, gt_iff_lt, Int.not_le, Int.not_lt, beq_eq_false_iff_ne, bne_eq_false_iff_eq, ne_eq, Decidable.not_not, ZK, ZT, ZS] at hc4
            refine ZU [0, 1, 2, 3, 4] #[0, 0, 2, 7, 15] XH5 XH5 XH5 ?_
            refine Z6 (env' := u43) (c := .look) rfl rfl rfl XH39 rfl rfl rfl ?_
            refine Z6 (env' := u43) (c := .calm) rfl rfl rfl (Zb (.inl rfl) rfl) rfl rfl rfl ?_
            refine Z6 (env' := u43) (c := .calm) rfl rfl rfl (v_shl1 rfl rfl rfl XH1) rfl rfl rfl ?_
            refine Z6 (env' := u43) (c := .calm) rfl rfl rfl (v_orW rfl rfl rfl) rfl rfl rfl ?_
            refine Z6 (env' := u43) (c := .turn) rfl rfl rfl (Yc rfl rfl rfl rfl rfl rfl rfl XH7 XH6 XH19) rfl rfl rfl ?_
            refine Z3 [] XH5 (trivial) ?_
            refine Zr ?_
            refine ⟨_, rfl, .inl ⟨rfl, ?_⟩⟩
            rw [frF_snoc]
            first
              | rw [if_pos (by assumption)]; rfl
              | rw [if_neg (Yr (by assumption))]
          · try simp only [decide_eq_true_eq, decide_eq_false_iff_not, Bool.not_eq_true', Bool.not_eq_false', bne_iff_ne, beq_iff_eq, Bool.and_eq_true, Bool.or_eq_true, Bool.not_eq_true, ge_iff_le, gt_iff_lt, Int.not_le, Int.not_lt, beq_eq_false_iff_ne, bne_eq_false_iff_eq, ne_eq, Decidable.not_not, ZK, ZT, ZS] at hc4
            refine Zj (Zr ?_)
            refine ⟨_, rfl, .inl ⟨rfl, ?_⟩⟩
            rw [frF_snoc]
            first
              | rw [if_pos (by assumption)]; rfl
              | rw [if_neg (Yr (by assumption))]
        · intro s k hk hI
          try dsimp only at hI ⊢
          subst hI
          refine Zr (Zc (Zd (Za ?_)))
          refine Zo (env' := u43) rfl rfl XH39 rfl ?_
          refine Zo (env' := u43) rfl rfl (Zb (.inr rfl) rfl) rfl ?_
          refine Ze (Zc (Zi ?_))
          refine Yp (.inr rfl) (Zh rfl rfl) XH9 XH11 ?_
          first
            | exact ⟨by rw [freeV, if_neg (by omega)]; rfl, rfl⟩
            | exact ⟨by rw [freeV, if_pos (by omega)]; rfl, rfl⟩
        · rintro j pre c post s k hk hx ⟨⟩
end MM
open Go Go.V Go.RowKit
abbrev u77 {a0 a1 a2 a3 a4 a5 a6 a7 a8 a9 a10 a11 a12 a13 a14 a15 a16 a17 a18 a19 a20 a21 a22 a23 a24 a25 a26 a27 a28 a29 a30 a31 a32 a33 a34 a35 a36 a37 a38 a39 a40 a41 a42 a43 a44 a45 a46 a47 a48 a49 a50 a51 a52 a53 a54 a55 a56 a57 a58 a59 a60 a61 a62 a63 a64 a65 a66 a67 a68 a69 a70 a71 a72 a73 a74 a75 a76 : VVal} : VEnv := a0 :: a1 :: a2 :: a3 :: a4 :: a5 :: a6 :: a7 :: a8 :: a9 :: a10 :: a11 :: a12 :: a13 :: a14 :: a15 :: a16 :: a17 :: a18 :: a19 :: a20 :: a21 :: a22 :: a23 :: a24 :: a25 :: a26 :: a27 :: a28 :: a29 :: a30 :: a31 :: a32 :: a33 :: a34 :: a35 :: a36 :: a37 :: a38 :: a39 :: a40 :: a41 :: a42 :: a43 :: a44 :: a45 :: a46 :: a47 :: a48 :: a49 :: a50 :: a51 :: a52 :: a53 :: a54 :: a55 :: a56 :: a57 :: a58 :: a59 :: a60 :: a61 :: a62 :: a63 :: a64 :: a65 :: a66 :: a67 :: a68 :: a69 :: a70 :: a71 :: a72 :: a73 :: a74 :: a75 :: a76 :: []
namespace MM
theorem minW {a b : BitVec 64} : (if (b.toNat : Int) < (a.toNat : Int) then (b.toNat : Int) else (a.toNat : Int)) = ((ZP a b.toNat).toNat : Int) := by
  rw [Ya]; split <;> omega
theorem rep_w : ∀ {n : Nat}, ZC [VVal.int .u64 0] n = (List.replicate n 0#64).map iW
  | 0 => rfl
  | n + 1 => by rw [ZC, rep_w, List.replicate_succ]; rfl
section
variable {T : TypeId → Option VTy} {ρ : Operand → VVal} {H : Zf} {op : Op}
theorem pow12 {i : Nat} (h : i ≤ 12) : 2 ^ i ≤ 4096 := Nat.pow_le_pow_right (by decide) h
theorem v_shlI1 {t ty : TypeId} {y : Operand} {k : IntKind} {i : Nat} (ho : op = .binOp .shl t (.const (.int .i64 1)) y ty) (hy : ρ y = .int k (i : Nat)) (hr : ρ (.const (.int .i64 1)) = .int .i64 1) (h : i ≤ 12) : vop T ρ H op = some (.int .i64 ((2 ^ i : Nat) : Int), H) := by
  rw [ho]; simp only [vop, hr, hy, vbin, vshift]
  rw [if_neg (by omega), show min (i : Int).toNat IntKind.i64.bits = i from by show min (i : Int).toNat 64 = i; omega, Int.one_mul]
  have e : (2 : Int) ^ i = ((2 ^ i : Nat) : Int) := by rw [Int.natCast_pow]; rfl
  have := pow12 h
  rw [e]
  generalize 2 ^ i = p at this ⊢
  rw [wrap_i _ (by omega)]; rfl
theorem v_shrI {t ty : TypeId} {x y : Operand} {k : IntKind} {s i : Nat} (ho : op = .binOp .shr t x y ty) (hx : ρ x = .int .i64 (s : Nat)) (hy : ρ y = .int k (i : Nat)) (h : i ≤ 12) : vop T ρ H op = some (.int .i64 ((s / 2 ^ i : Nat) : Int), H) := by
  rw [ho]; simp only [vop, hx, hy, vbin, vshift]
  rw [if_neg (by omega), show min (i : Int).toNat IntKind.i64.bits = i from by show min (i : Int).toNat 64 = i; omega]
  have e : (2 : Int) ^ i = ((2 ^ i : Nat) : Int) := by rw [Int.natCast_pow]; rfl
  rw [e, ← Int.ofNat_fdiv]; rfl
end
theorem and1 {n : Nat} (h : n < 2 ^ 63) : vbits .and .i64 (n : Int) 1 = ((n % 2 : Nat) : Int) := by
  show IntKind.i64.wrap ((BitVec.ofInt 64 (n : Int) &&& BitVec.ofInt 64 ((1 : Nat) : Int)).toNat : Int) = _
  rw [BitVec.ofInt_natCast, BitVec.ofInt_natCast, BitVec.toNat_and, BitVec.toNat_ofNat, BitVec.toNat_ofNat, Nat.mod_eq_of_lt (Nat.lt_trans h (by decide)), Nat.mod_eq_of_lt (by decide : 1 < 2 ^ 64), show (1 : Nat) = 2 ^ 1 - 1 from rfl, Nat.and_two_pow_sub_one_eq_mod]
  exact wrap_i _ (by have : n % 2 ^ 1 < 2 := Nat.mod_lt _ (by decide); omega)
theorem tb_is {s i : Nat} (hs : s < 4096) : (vbits .and .i64 ((s / 2 ^ i : Nat) : Int) 1 == 1) = s.testBit i := by
  have h1 : s / 2 ^ i ≤ s := Nat.div_le_self _ _
  rw [and1 (by omega), Nat.testBit_eq_decide_div_mod_eq, Bool.eq_iff_iff, beq_iff_eq, decide_eq_true_eq]; omega
theorem andNot_less {s i : Nat} (hs : s < 4096) (hi : i ≤ 12) (h : s.testBit i = true) : vbits .andNot .i64 (s : Int) ((2 ^ i : Nat) : Int) = ((less s i : Nat) : Int) := by
  have hl := less_lt h
  have hp := pow12 hi
  show IntKind.i64.wrap ((BitVec.ofInt 64 (s : Int) &&& ~~~(BitVec.ofInt 64 ((2 ^ i : Nat) : Int))).toNat : Int) = _
  have e : (BitVec.ofInt 64 (s : Int) &&& ~~~(BitVec.ofInt 64 ((2 ^ i : Nat) : Int))).toNat = less s i := by
    rw [BitVec.ofInt_natCast, BitVec.ofInt_natCast]
    apply Nat.eq_of_testBit_eq
    intro j
    rw [less_bit h]
    by_cases hj : j < 64
    · have : (BitVec.ofNat 64 s &&& ~~~BitVec.ofNat 64 (2 ^ i)).getLsbD j = (s.testBit j && decide (j ≠ i)) := by
        rw [BitVec.getLsbD_and, BitVec.getLsbD_not, BitVec.getLsbD_ofNat, BitVec.getLsbD_ofNat, Nat.testBit_two_pow, decide_eq_true hj]
        by_cases e : j = i
        · subst e; simp
        · have : ¬ i = j := fun x => e x.symm
          simp [e, this]
      exact this
    · have h1 : s.testBit j = false := Nat.testBit_lt_two_pow (Nat.lt_of_lt_of_le (show s < 2 ^ 12 from hs) (Nat.pow_le_pow_right (by decide) (by omega)))
      rw [h1, Bool.false_and]
      exact Nat.testBit_lt_two_pow (Nat.lt_of_lt_of_le (BitVec.isLt _) (Nat.pow_le_pow_right (by decide) (by omega)))
  rw [e]
  exact wrap_i _ (by omega)
theorem way_start {rows : List (BitVec 64)} {most : BitVec 64} : (List.replicate (2 ^ rows.length) 0#64).set 0 (ZP most 1) = wayL rows.length (wU rows most 0) := by
  have h0 : List.replicate (2 ^ rows.length) 0#64 = wayL rows.length fun _ => 0#64 := by
    unfold wayL
    rw [List.map_const', List.length_range]
  rw [h0]
  refine wayL_set ?_ fun s hs hne => ?_
  · unfold wU; rw [wS_0]
  · unfold wU; rw [wS_start hs, if_neg hne, satW_0]
theorem way_top {rows : List (BitVec 64)} {most : BitVec 64} {u : Nat} : wayL rows.length (wU rows most u) = wayL rows.length (wF rows most u (2 ^ rows.length - 1) 0) := wayL_congr fun s hs => by
  unfold wU wF; rw [if_neg (by omega)]; split
  · rename_i h; subst h; rfl
  · rfl
theorem way_down {rows : List (BitVec 64)} {most : BitVec 64} {u s : Nat} (hu : u < 64) (hs : 0 < s) : wayL rows.length (wF rows most u s rows.length) = wayL rows.length (wF rows most u (s - 1) 0) := wayL_congr fun s' hs' => by
  unfold wF
  by_cases h1 : s < s'
  · rw [if_pos h1, if_pos (by omega)]
  · by_cases h2 : s' = s
    · subst h2; rw [if_neg h1, if_pos rfl, if_pos (by omega), wP_all hu]
    · rw [if_neg h1, if_neg h2, if_neg (by omega)]
      by_cases h3 : s' = s - 1
      · rw [if_pos h3, h3]; rfl
      · rw [if_neg h3]
theorem way_end {rows : List (BitVec 64)} {most : BitVec 64} {u : Nat} : wayL rows.length (wF rows most u 0 0) = wayL rows.length (wU rows most (u + 1)) := wayL_congr fun s' _ => by
  unfold wF wU
  by_cases h : s' = 0
  · subst h; rw [if_neg (by omega), if_pos rfl, wS_0]; show ZP most (wS rows u 0) = _; rw [wS_0]
  · rw [if_pos (by omega)]
theorem way_set {rows : List (BitVec 64)} {most : BitVec 64} {u s k : Nat} (hm : most.toNat ≤ 65536) (hs : s < 2 ^ rows.length) (h1 : s.testBit k = true) (h2 : (rows.getD k 0).getLsbD u = true) :
    (wayL rows.length (wF rows most u s k)).set s (ZP most (wP rows u s k + wS rows u (less s k))) = wayL rows.length (wF rows most u s (k + 1)) := by
  refine wayL_set ?_ fun s' hs' hne => ?_
  · unfold wF; rw [if_neg (by omega), if_pos rfl, wP, if_pos ⟨h1, h2⟩]
  · unfold wF; rw [if_neg hne, if_neg hne]
theorem way_same {rows : List (BitVec 64)} {most : BitVec 64} {u s k : Nat} (h : ¬ (s.testBit k = true ∧ (rows.getD k 0).getLsbD u = true)) : wF rows most u s k = wF rows most u s (k + 1) := by
  funext s'
  unfold wF; rw [wP, if_neg h]
theorem way_at {rows : List (BitVec 64)} {most : BitVec 64} {u s k : Nat} (hs : s < 2 ^ rows.length) : (wayL rows.length (wF rows most u s k)).getD s 0 = ZP most (wP rows u s k) := by
  rw [wayL_get hs]; unfold wF; rw [if_neg (by omega), if_pos rfl]
theorem way_less {rows : List (BitVec 64)} {most : BitVec 64} {u s k i : Nat} (hs : s < 2 ^ rows.length) (h : s.testBit i = true) : (wayL rows.length (wF rows most u s k)).getD (less s i) 0 = ZP most (wS rows u (less s i)) := by
  have hl := less_lt h
  rw [wayL_get (by omega)]; unfold wF; rw [if_neg (by omega), if_neg (by omega)]
def coV (rows : List (BitVec 64)) (m : BitVec 64) : BitVec 64 := if rows.length ≤ 12 then ZP m (cnT rows 0#64) else 0#64
theorem mCount_spec {x : SW} (H : Zf) (rows : List (BitVec 64)) (most : BitVec 64) (hl : rows.length ≤ 1000000) : F (psys x) 58 [fzW rows, iW most] H fun v G => v = iW (coV rows (ZP most 65536)) ∧ G = H := by
  refine Zq Tryd.func58 rfl u77 rfl ?_
  refine Zd (Za ?_)
  refine Zo (env' := u77) rfl rfl (Zg (VVal.int .u64 0) (.inr rfl) rfl) rfl ?_
  refine Ze (Zc (Zd (Zd (Za ?_))))
  refine Zo (env' := u77) rfl rfl (Zb (.inl rfl) rfl) rfl ?_
  refine Zy rfl rfl rfl (by exact fits_spec _ _) ?_
  rintro _ _ ⟨rfl, rfl⟩
  refine L_env (env' := u77) rfl ?_
  refine Zo (env' := u77) rfl rfl (rfl) rfl ?_
  refine Ze (Zc ?_)
  refine Zk _ rfl (fun hc1 => ?_) (fun hc1 => ?_)
  · try simp only [decide_eq_true_eq, decide_eq_false_iff_not, Bool.not_eq_true', Bool.not_eq_false', bne_iff_ne, beq_iff_eq, Bool.and_eq_true, Bool.or_eq_true, Bool.not_eq_true, ge_iff_le, gt_iff_lt, Int.not_le, Int.not_lt, beq_eq_false_iff_ne, bne_eq_false_iff_eq, ne_eq, Decidable.not_not, ZK, ZT, ZS] at hc1
    refine Zd (Za ?_)
    refine Zo (env' := u77) rfl rfl (Zg (VVal.int .u64 0) (.inr rfl) rfl) rfl ?_
    refine Ze (Zc (Zi (Zn ?_)))
    refine Yp (.inr rfl) (Zh rfl rfl) XH9 XH11 ?_
    first
      | exact ⟨by rw [coV, if_neg (by omega)]; rfl, rfl⟩
      | (obtain rfl : u = 64 := by omega); exact ⟨by rw [coV, if_pos (by omega), show (wayL rows.length (wU rows (ZP most 65536) 64)).getD ((2 ^ rows.length - 1 : Nat) : Int).toNat 0 = _ from wayL_get (by omega)]; unfold wU; rw [Int.toNat_natCast, wS_end], rfl⟩
  · try simp only [decide_eq_true_eq, decide_eq_false_iff_not, Bool.not_eq_true', Bool.not_eq_false', bne_iff_ne, beq_iff_eq, Bool.and_eq_true, Bool.or_eq_true, Bool.not_eq_true, ge_iff_le, gt_iff_lt, Int.not_le, Int.not_lt, beq_eq_false_iff_ne, bne_eq_false_iff_eq, ne_eq, Decidable.not_not, ZK, ZT, ZS] at hc1
    refine Zj (Zc (Zd (Za ?_)))
    have hm : (ZP most 65536).toNat ≤ 65536 := by rw [Ya]; omega
    have hp := pow12 (i := rows.length) (by omega)
    have hp0 : 0 < 2 ^ rows.length := Nat.two_pow_pos _
    refine Zo (env' := u77) rfl rfl (Zb (.inl rfl) rfl) rfl ?_
    refine Zo (env' := u77) rfl rfl (v_val rfl ((congrArg (VVal.int .u64) (minW (a := most) (b := 65536#64))).trans rfl)) rfl ?_
    refine Zo (env' := u77) rfl rfl (Zb (.inr rfl) rfl) rfl ?_
    refine Ze (Zc (Zd (Za ?_)))
    refine Zo (env' := u77) rfl rfl (Zb (.inl rfl) rfl) rfl ?_
    refine Zo (env' := u77) rfl rfl (rfl) rfl ?_
    refine Zo (env' := u77) rfl rfl (v_shlI1 rfl rfl rfl (by omega)) rfl ?_
    refine Zo (env' := u77) rfl rfl (v_makeSlice rfl rfl rfl rfl rfl (by decide) ⟨by omega, Int.le_refl _, by show ((2 ^ rows.length : Nat) : Int) * (8 : Nat) ≤ _; omega, by omega⟩) rfl ?_
    refine L_heap (H' := H ++ [.cells ((List.replicate (2 ^ rows.length) 0#64).map iW) true]) (by show _ ++ [VBlk.cells (ZC [VVal.int .u64 0] _) true] = _; rw [rep_w]; rfl) ?_
    refine Zo (env' := u77) rfl rfl (Zb (.inr rfl) rfl) rfl ?_
    refine Ze (Zc (Zd (Za ?_)))
    refine Zo (env' := u77) rfl rfl (Zb (.inl rfl) rfl) rfl ?_
    refine Zo (env' := u77) rfl rfl (Zb (.inl rfl) rfl) rfl ?_
    refine Zo (env' := u77) rfl rfl (v_val rfl ((congrArg (VVal.int .u64) (minW (a := 1#64) (b := (ZP most 65536)))).trans (by rw [show ZP 1#64 (ZP most 65536).toNat = ZP (ZP most 65536) 1 from by apply BitVec.eq_of_toNat_eq; rw [Ya, Ya (most := (ZP most 65536)) (n := 1)]; exact Nat.min_comm _ _]))) rfl ?_
    refine Zo (env' := u77) rfl rfl (by first | exact v_idxF rfl rfl rfl rfl rfl rfl rfl (by show (0 : Int) ≤ 0 ∧ (0 : Int) < ((2 ^ rows.length : Nat) : Int); omega) | exact v_idx rfl rfl rfl rfl rfl rfl rfl (by show (0 : Int) ≤ 0 ∧ (0 : Int) < ((2 ^ rows.length : Nat) : Int); omega)) rfl ?_
    refine Zo (env' := u77) rfl rfl (Yc rfl rfl rfl rfl rfl rfl rfl XH7 (by rw [List.length_map, List.length_replicate]; show 0 + 0 * 1 + 1 ≤ _; omega) (by exact (ZR rfl).trans (congrArg (fun c => H ++ [VBlk.cells c true]) ((splice_w (l := List.replicate (2 ^ rows.length) 0#64) (k := 0) (w := ZP (ZP most 65536) 1) (by rw [List.length_replicate]; omega)).trans (by rw [way_start]))))) rfl ?_
    refine Ze (Zc (Zd (Zd (Za ?_))))
    refine Zo (env' := u77) rfl rfl (Zg (VVal.int .i64 0) (.inl rfl) rfl) rfl ?_
    refine Ze (Zc (Zl ?_))
    refine Zz (false :: false :: true :: true :: true :: false :: true :: true :: true :: true :: true :: true :: true :: true :: true :: true :: true :: true :: true :: true :: true :: true :: true :: false :: true :: true :: true :: true :: true :: true :: true :: true :: true :: true :: true :: true :: true :: true :: true :: true :: true :: true :: true :: true :: true :: true :: true :: true :: true :: true :: true :: true :: true :: true :: true :: true :: true :: true :: true :: true :: true :: true :: true :: true :: true :: true :: true :: true :: true :: true :: true :: true :: true :: true :: true :: true :: true :: []) (env' := u77) rfl ?_
    refine ZE (fun (u : Nat) => 64 - u) (fun (u : Nat) => [(23, iI (u : Nat))]) (fun (u : Nat) G => (u ≤ 64) ∧ G = H ++ [.cells ((wayL rows.length (wU rows (ZP most 65536) u)).map iW) true]) 0 rfl ?_ ?_
    · refine ⟨?_, rfl⟩
      exact Nat.zero_le _
    rintro u _ ⟨hu, rfl⟩
    refine ZV (env' := u77) rfl ?_
    refine Zd (Za ?_)
    refine Zo (env' := u77) rfl rfl (rfl) rfl ?_
    refine Ze (Zc (Zd ?_))
    refine Zk _ rfl (fun hc2 => ?_) (fun hc2 => ?_)
    · try simp only [decide_eq_true_eq, decide_eq_false_iff_not, Bool.not_eq_true', Bool.not_eq_false', bne_iff_ne, beq_iff_eq, Bool.and_eq_true, Bool.or_eq_true, Bool.not_eq_true, ge_iff_le, gt_iff_lt, Int.not_le, Int.not_lt, beq_eq_false_iff_ne, bne_eq_false_iff_eq, ne_eq, Decidable.not_not, ZK, ZT, ZS] at hc2
      refine Zj (Zc (Zd (Zl (Zd (Za ?_)))))
      refine Zo (env' := u77) rfl rfl (Zb (.inl rfl) rfl) rfl ?_
      refine Zo (env' := u77) rfl rfl (Zb (.inr rfl) rfl) rfl ?_
      refine Ze (Zc (Zd (Za ?_)))
      refine Zo (env' := u77) rfl rfl (Zb (.inl rfl) rfl) rfl ?_
      refine Zo (env' := u77) rfl rfl (rfl) rfl ?_
      refine Zo (env' := u77) rfl rfl (v_val (v_subI rfl rfl rfl (by show -9223372036854775808 ≤ ((2 ^ rows.length : Nat) : Int) - 1 ∧ ((2 ^ rows.length : Nat) : Int) - 1 < 9223372036854775808; omega)) (congrArg iI (show ((2 ^ rows.length : Nat) : Int) - 1 = ((2 ^ rows.length - 1 : Nat) : Int) by omega))) rfl ?_
      refine Zo (env' := u77) rfl rfl (Zb (.inr rfl) rfl) rfl ?_
      refine Ze (Zc (Zl ?_))
      refine Zz (false :: false :: true :: true :: true :: false :: false :: false :: true :: true :: true :: true :: true :: true :: true :: true :: true :: true :: true :: true :: true :: true :: true :: false :: true :: true :: true :: true :: true :: true :: true :: true :: true :: true :: true :: true :: true :: true :: true :: true :: true :: true :: true :: true :: true :: true :: true :: true :: true :: true :: true :: true :: true :: true :: true :: true :: true :: true :: true :: true :: true :: true :: true :: true :: true :: true :: true :: true :: true :: true :: true :: true :: true :: true :: true :: true :: true :: []) (env' := u77) rfl ?_
      refine ZE (fun (s : Nat) => s) (fun (s : Nat) => [(7, iI (s : Nat))]) (fun (s : Nat) G => (s < 2 ^ rows.length) ∧ G = H ++ [.cells ((wayL rows.length (wF rows (ZP most 65536) u s 0)).map iW) true]) (2 ^ rows.length - 1) rfl ?_ ?_
      · refine ⟨?_, (by rw [way_top])⟩
        omega
      rintro s _ ⟨hs, rfl⟩
      refine ZV (env' := u77) rfl ?_
      refine Zd (Zd (Za ?_))
      refine Zo (env' := u77) rfl rfl (Zb (.inl rfl) rfl) rfl ?_
      refine Zo (env' := u77) rfl rfl (rfl) rfl ?_
      refine Ze (Zc ?_)
      refine Zk _ rfl (fun hc3 => ?_) (fun hc3 => ?_)
      · try simp only [decide_eq_true_eq, decide_eq_false_iff_not, Bool.not_eq_true', Bool.not_eq_false', bne_iff_ne, beq_iff_eq, Bool.and_eq_true, Bool.or_eq_true, Bool.not_eq_true, ge_iff_le, gt_iff_lt, Int.not_le, Int.not_lt, beq_eq_false_iff_ne, bne_eq_false_iff_eq, ne_eq, Decidable.not_not, ZK, ZT, ZS] at hc3
        refine Zj (Zc (Zd (Zl (Zd (Za ?_)))))
        refine Zo (env' := u77) rfl rfl (Zb (.inl rfl) rfl) rfl ?_
        refine Zo (env' := u77) rfl rfl (rfl) rfl ?_
        refine Zo (env' := u77) rfl rfl (Zg (VVal.int .i64 0) (.inl rfl) rfl) rfl ?_
        refine Ze (Zc (Zl ?_))
        refine Zz (false :: false :: true :: true :: true :: false :: false :: false :: true :: true :: true :: true :: true :: true :: true :: true :: true :: true :: true :: true :: true :: true :: true :: false :: true :: true :: true :: true :: true :: true :: true :: true :: true :: false :: false :: false :: true :: true :: true :: true :: true :: true :: true :: true :: true :: true :: true :: true :: true :: true :: true :: true :: true :: true :: true :: true :: true :: true :: true :: true :: true :: true :: true :: true :: true :: true :: true :: true :: true :: true :: true :: true :: true :: true :: true :: true :: true :: []) (env' := u77) rfl ?_
        refine ZE (fun (k : Nat) => rows.length - k) (fun (k : Nat) => [(35, iI (k : Nat))]) (fun (k : Nat) G => (k ≤ rows.length) ∧ G = H ++ [.cells ((wayL rows.length (wF rows (ZP most 65536) u s k)).map iW) true]) 0 rfl ?_ ?_
        · refine ⟨?_, rfl⟩
          exact Nat.zero_le _
        rintro k _ ⟨hk, rfl⟩
        refine ZV (env' := u77) rfl ?_
        refine Zd (Za ?_)
        refine Zo (env' := u77) rfl rfl (rfl) rfl ?_
        refine Ze (Zc (Zd ?_))
        refine Zk _ rfl (fun hc4 => ?_) (fun hc4 => ?_)
        · try simp only [decide_eq_true_eq, decide_eq_false_iff_not, Bool.not_eq_true', Bool.not_eq_false', bne_iff_ne, beq_iff_eq, Bool.and_eq_true, Bool.or_eq_true, Bool.not_eq_true, ge_iff_le, gt_iff_lt, Int.not_le, Int.not_lt, beq_eq_false_iff_ne, bne_eq_false_iff_eq, ne_eq, Decidable.not_not, ZK, ZT, ZS] at hc4
          refine Zj (Zc (Zd (Zl (Zd (Za ?_)))))
          refine Zo (env' := u77) rfl rfl (Zb (.inl rfl) rfl) rfl ?_
          refine Zo (env' := u77) rfl rfl XH37 rfl ?_
          refine Zo (env' := u77) rfl rfl (by first | exact v_loadF rfl rfl rfl rfl (by first | exact fget (α := BitVec 64) 0 (by omega) | exact fget0 (α := BitVec 64) 0 (by omega) | rfl) | exact v_load rfl rfl rfl rfl XH7 (by first | exact fget (α := BitVec 64) 0 (by omega) | exact fget0 (α := BitVec 64) 0 (by omega) | rfl)) rfl ?_
          refine Zo (env' := u77) rfl rfl (Zb (.inr rfl) rfl) rfl ?_
          refine Zo (env' := u77) rfl rfl (Zb (.inr rfl) rfl) rfl ?_
          refine Ze (Zc (Zd (Za ?_)))
          refine Zo (env' := u77) rfl rfl (Zb (.inl rfl) rfl) rfl ?_
          refine Zo (env' := u77) rfl rfl (Zb (.inl rfl) rfl) rfl ?_
          refine Zo (env' := u77) rfl rfl (v_shrI rfl rfl rfl (by omega)) rfl ?_
          refine Zo (env' := u77) rfl rfl (rfl) rfl ?_
          refine Zo (env' := u77) rfl rfl (v_is (s.testBit k) rfl (tb_is (by omega))) rfl ?_
          refine Zo (env' := u77) rfl rfl (Zb (.inl rfl) rfl) rfl ?_
          refine Zu 45 (env1 := u77) (env2 := u77) rfl rfl rfl (fun hg5 => ?_) (fun hg5 => ?_)
          · try simp only [decide_eq_true_eq, decide_eq_false_iff_not, Bool.not_eq_true', Bool.not_eq_false', bne_iff_ne, beq_iff_eq, Bool.and_eq_true, Bool.or_eq_true, Bool.not_eq_true, ge_iff_le, gt_iff_lt, Int.not_le, Int.not_lt, beq_eq_false_iff_ne, bne_eq_false_iff_eq, ne_eq, Decidable.not_not, ZK, ZT, ZS] at hg5
            refine Zo (env' := u77) rfl rfl (Zb (.inl rfl) rfl) rfl ?_
            refine Zo (env' := u77) rfl rfl (Zb (.inl rfl) rfl) rfl ?_
            refine Zo (env' := u77) rfl rfl (v_shrW rfl rfl rfl XH1) rfl ?_
            refine Zo (env' := u77) rfl rfl (v_andW (b := 1#64) rfl rfl rfl) rfl ?_
            refine Zo (env' := u77) rfl rfl (rfl) rfl ?_
            refine Zo (env' := u77) rfl rfl (ZM rfl rfl rfl) rfl ?_
            refine Ze (Zc ?_)
            refine Zk _ rfl (fun hc6 => ?_) (fun hc6 => ?_)
            · try simp only [decide_eq_true_eq, decide_eq_false_iff_not, Bool.not_eq_true', Bool.not_eq_false', bne_iff_ne, beq_iff_eq, Bool.and_eq_true, Bool.or_eq_true, Bool.not_eq_true, ge_iff_le, gt_iff_lt, Int.not_le, Int.not_lt, beq_eq_false_iff_ne, bne_eq_false_iff_eq, ne_eq, Decidable.not_not, ZK, ZT, ZS] at hc6
              refine ZU [0, 1, 2, 3, 4, 5, 6, 7, 8, 9, 10, 11, 12, 13, 14, 15, 16, 17] #[0, 0, 0, 0, 12, 28, 0, 0, 0, 256, 896, 1984, 4032, 8188, 0, 32764, 65535, 131071] XH5 XH5 XH5 ?_
              refine Z6 (env' := u77) (c := .calm) rfl rfl rfl (Zb (.inl rfl) rfl) rfl rfl rfl ?_
              refine Z6 (env' := u77) (c := .calm) rfl rfl rfl (Zb (.inl rfl) rfl) rfl rfl rfl ?_
              refine Z6 (env' := u77) (c := .calm) rfl rfl rfl (Zb (.inl rfl) rfl) rfl rfl rfl ?_
              refine Z6 (env' := u77) (c := .calm) rfl rfl rfl (Zb (.inl rfl) rfl) rfl rfl rfl ?_
              refine Z6 (env' := u77) (c := .calm) rfl rfl rfl XH37 rfl rfl rfl ?_
              refine Z6 (env' := u77) (c := .look) rfl rfl rfl (by first | exact v_loadF rfl rfl rfl rfl (by exact fget0 (α := BitVec 64) (l := wayL rows.length (wF rows (ZP most 65536) u s k)) (n := (s : Nat)) 0 (by rw [wayL_len]; omega)) | exact v_load rfl rfl rfl rfl XH7 (by exact fget0 (α := BitVec 64) (l := wayL rows.length (wF rows (ZP most 65536) u s k)) (n := (s : Nat)) 0 (by rw [wayL_len]; omega))) rfl rfl rfl ?_
              refine Z6 (env' := u77) (c := .calm) rfl rfl rfl (Zb (.inl rfl) rfl) rfl rfl rfl ?_
              refine Z6 (env' := u77) (c := .calm) rfl rfl rfl (Zb (.inl rfl) rfl) rfl rfl rfl ?_
              refine Z6 (env' := u77) (c := .calm) rfl rfl rfl (Zb (.inl rfl) rfl) rfl rfl rfl ?_
              refine Z6 (env' := u77) (c := .calm) rfl rfl rfl (v_shlI1 rfl rfl rfl (by omega)) rfl rfl rfl ?_
              refine Z6 (env' := u77) (c := .calm) rfl rfl rfl (v_val rfl (congrArg (VVal.int .i64) (andNot_less (by omega) (by omega) (by assumption)))) rfl rfl rfl ?_
              refine Z6 (env' := u77) (c := .calm) rfl rfl rfl (by first | exact v_idxF rfl rfl rfl rfl rfl rfl rfl XH28 | exact v_idx rfl rfl rfl rfl rfl rfl rfl XH28) rfl rfl rfl ?_
              refine Z6 (env' := u77) (c := .look) rfl rfl rfl (by first | exact v_loadF rfl rfl rfl rfl XH27 | exact v_load rfl rfl rfl rfl XH7 XH27) rfl rfl rfl ?_
              refine Z6 (env' := u77) (c := .calm) rfl rfl rfl (v_addW rfl rfl rfl) rfl rfl rfl ?_
              refine Z6 (env' := u77) (c := .calm) rfl rfl rfl (Zb (.inl rfl) rfl) rfl rfl rfl ?_
              refine Z6 (env' := u77) (c := .calm) rfl rfl rfl (v_val rfl ((congrArg (VVal.int .u64) (by rw [show (wayL rows.length (wF rows (ZP most 65536) u s k)).getD (s : Int).toNat 0 = ZP (ZP most 65536) (wP rows u s k) from way_at hs, show (wayL rows.length (wF rows (ZP most 65536) u s k)).getD ((less s k : Nat) : Int).toNat 0 = ZP (ZP most 65536) (wS rows u (less s k)) from way_less hs (by assumption)]; exact sat_add hm) : _ = VVal.int .u64 ((ZP (ZP most 65536) (wP rows u s k + wS rows u (less s k))).toNat : Int)))) rfl rfl rfl ?_
              refine Z6 (env' := u77) (c := .calm) rfl rfl rfl XH37 rfl rfl rfl ?_
              refine Z6 (env' := u77) (c := .turn) rfl rfl rfl (Yc rfl rfl rfl rfl rfl rfl rfl XH7 (by rw [List.length_map, wayL_len]; show 0 + s * 1 + 1 ≤ _; omega) (by exact (ZR rfl).trans (congrArg (fun c => H ++ [VBlk.cells c true]) ((splice_w (l := wayL rows.length (wF rows (ZP most 65536) u s k)) (k := s) (w := ZP (ZP most 65536) (wP rows u s k + wS rows u (less s k))) (by rw [wayL_len]; exact hs)).trans (by rw [way_set hm hs (by assumption) (sh1.1 (by assumption))]))))) rfl rfl rfl ?_
              refine Z3 [] XH5 (trivial) ?_
              refine Zr (Zc (Za ?_))
              refine Zo (env' := u77) rfl rfl (YE rfl rfl rfl XH1) rfl ?_
              refine Zo (env' := u77) rfl rfl (Zb (.inl rfl) rfl) rfl ?_
              refine Ze ?_
              refine Zt (false :: false :: true :: true :: true :: false :: false :: false :: true :: true :: true :: true :: true :: true :: true :: true :: true :: true :: true :: true :: true :: true :: true :: false :: true :: true :: true :: true :: true :: true :: true :: true :: true :: false :: false :: false :: true :: true :: true :: true :: true :: true :: true :: true :: true :: true :: true :: true :: true :: true :: true :: true :: true :: true :: true :: true :: true :: true :: true :: true :: true :: true :: true :: true :: true :: true :: true :: true :: true :: true :: true :: true :: true :: true :: true :: true :: true :: []) (env' := u77) rfl ⟨k + 1, ?_, rfl, ?_⟩
              · first | omega | (simp only []; omega)
              · first | exact ⟨by omega, rfl⟩ | exact ⟨by omega, by rw [way_same (fun e => absurd e.1 (Yr (by assumption)))]⟩ | exact ⟨by omega, by rw [way_same (fun e => absurd (sh1.2 e.2) (by assumption))]⟩
            · try simp only [decide_eq_true_eq, decide_eq_false_iff_not, Bool.not_eq_true', Bool.not_eq_false', bne_iff_ne, beq_iff_eq, Bool.and_eq_true, Bool.or_eq_true, Bool.not_eq_true, ge_iff_le, gt_iff_lt, Int.not_le, Int.not_lt, beq_eq_false_iff_ne, bne_eq_false_iff_eq, ne_eq, Decidable.not_not, ZK, ZT, ZS] at hc6
              refine Zj (Zr (Zc (Za ?_)))
              refine Zo (env' := u77) rfl rfl (YE rfl rfl rfl XH1) rfl ?_
              refine Zo (env' := u77) rfl rfl (Zb (.inl rfl) rfl) rfl ?_
              refine Ze ?_
              refine Zt (false :: false :: true :: true :: true :: false :: false :: false :: true :: true :: true :: true :: true :: true :: true :: true :: true :: true :: true :: true :: true :: true :: true :: false :: true :: true :: true :: true :: true :: true :: true :: true :: true :: false :: false :: false :: true :: true :: true :: true :: true :: true :: true :: true :: true :: true :: true :: true :: true :: true :: true :: true :: true :: true :: true :: true :: true :: true :: true :: true :: true :: true :: true :: true :: true :: true :: true :: true :: true :: true :: true :: true :: true :: true :: true :: true :: true :: []) (env' := u77) rfl ⟨k + 1, ?_, rfl, ?_⟩
              · first | omega | (simp only []; omega)
              · first | exact ⟨by omega, rfl⟩ | exact ⟨by omega, by rw [way_same (fun e => absurd e.1 (Yr (by assumption)))]⟩ | exact ⟨by omega, by rw [way_same (fun e => absurd (sh1.2 e.2) (by assumption))]⟩
          · try simp only [decide_eq_true_eq, decide_eq_false_iff_not, Bool.not_eq_true', Bool.not_eq_false', bne_iff_ne, beq_iff_eq, Bool.and_eq_true, Bool.or_eq_true, Bool.not_eq_true, ge_iff_le, gt_iff_lt, Int.not_le, Int.not_lt, beq_eq_false_iff_ne, bne_eq_false_iff_eq, ne_eq, Decidable.not_not, ZK, ZT, ZS] at hg5
            refine Yw (env' := u77) rfl rfl ?_
            refine Yw (env' := u77) rfl rfl ?_
            refine Yw (env' := u77) rfl rfl ?_
            refine Yw (env' := u77) rfl rfl ?_
            refine Yw (env' := u77) rfl rfl ?_
            refine Zo (env' := u77) rfl rfl (ZA (VVal.bool false) rfl rfl rfl) rfl ?_
            refine Ze (Zc ?_)
            refine Ye rfl rfl ?_
            refine Zj (Zr (Zc (Za ?_)))
            refine Zo (env' := u77) rfl rfl (YE rfl rfl rfl XH1) rfl ?_
            refine Zo (env' := u77) rfl rfl (Zb (.inl rfl) rfl) rfl ?_
            refine Ze ?_
            refine Zt (false :: false :: true :: true :: true :: false :: false :: false :: true :: true :: true :: true :: true :: true :: true :: true :: true :: true :: true :: true :: true :: true :: true :: false :: true :: true :: true :: true :: true :: true :: true :: true :: true :: false :: false :: false :: true :: true :: true :: true :: true :: true :: true :: true :: true :: true :: true :: true :: true :: true :: true :: true :: true :: true :: true :: true :: true :: true :: true :: true :: true :: true :: true :: true :: true :: true :: true :: true :: true :: true :: true :: true :: true :: true :: true :: true :: true :: []) (env' := u77) rfl ⟨k + 1, ?_, rfl, ?_⟩
            · first | omega | (simp only []; omega)
            · first | exact ⟨by omega, rfl⟩ | exact ⟨by omega, by rw [way_same (fun e => absurd e.1 (Yr (by assumption)))]⟩ | exact ⟨by omega, by rw [way_same (fun e => absurd (sh1.2 e.2) (by assumption))]⟩
        · try simp only [decide_eq_true_eq, decide_eq_false_iff_not, Bool.not_eq_true', Bool.not_eq_false', bne_iff_ne, beq_iff_eq, Bool.and_eq_true, Bool.or_eq_true, Bool.not_eq_true, ge_iff_le, gt_iff_lt, Int.not_le, Int.not_lt, beq_eq_false_iff_ne, bne_eq_false_iff_eq, ne_eq, Decidable.not_not, ZK, ZT, ZS] at hc4
          refine ZG (ZH (Zx (ZF (Zr (Zc (Za ?_))))))
          refine Zo (env' := u77) rfl rfl (Zb (.inl rfl) rfl) rfl ?_
          refine Zo (env' := u77) rfl rfl (v_subI rfl rfl rfl XH1) rfl ?_
          refine Zo (env' := u77) rfl rfl (Zb (.inr rfl) rfl) rfl ?_
          refine Ze ?_
          obtain rfl : k = rows.length := by omega
          rw [show (s : Int) - 1 = ((s - 1 : Nat) : Int) by omega]
          refine Zt (false :: false :: true :: true :: true :: false :: false :: false :: true :: true :: true :: true :: true :: true :: true :: true :: true :: true :: true :: true :: true :: true :: true :: false :: true :: true :: true :: true :: true :: true :: true :: true :: true :: true :: true :: true :: true :: true :: true :: true :: true :: true :: true :: true :: true :: true :: true :: true :: true :: true :: true :: true :: true :: true :: true :: true :: true :: true :: true :: true :: true :: true :: true :: true :: true :: true :: true :: true :: true :: true :: true :: true :: true :: true :: true :: true :: true :: []) (env' := u77) rfl ⟨(s - 1), ?_, rfl, ?_⟩
          · first | omega | (simp only []; omega)
          · exact ⟨by omega, by rw [way_down (by omega) (by omega)]⟩
      · try simp only [decide_eq_true_eq, decide_eq_false_iff_not, Bool.not_eq_true', Bool.not_eq_false', bne_iff_ne, beq_iff_eq, Bool.and_eq_true, Bool.or_eq_true, Bool.not_eq_true, ge_iff_le, gt_iff_lt, Int.not_le, Int.not_lt, beq_eq_false_iff_ne, bne_eq_false_iff_eq, ne_eq, Decidable.not_not, ZK, ZT, ZS] at hc3
        refine ZG (ZH (Zx (ZF (Zr (Zc (Za ?_))))))
        refine Zo (env' := u77) rfl rfl (YE rfl rfl rfl XH1) rfl ?_
        refine Zo (env' := u77) rfl rfl (Zb (.inl rfl) rfl) rfl ?_
        refine Ze ?_
        refine Zt (false :: false :: true :: true :: true :: false :: true :: true :: true :: true :: true :: true :: true :: true :: true :: true :: true :: true :: true :: true :: true :: true :: true :: false :: true :: true :: true :: true :: true :: true :: true :: true :: true :: true :: true :: true :: true :: true :: true :: true :: true :: true :: true :: true :: true :: true :: true :: true :: true :: true :: true :: true :: true :: true :: true :: true :: true :: true :: true :: true :: true :: true :: true :: true :: true :: true :: true :: true :: true :: true :: true :: true :: true :: true :: true :: true :: true :: []) (env' := u77) rfl ⟨u + 1, ?_, rfl, ?_⟩
        · first | omega | (simp only []; omega)
        · exact ⟨by omega, by rw [← way_end, show s = 0 by omega]⟩
    · try simp only [decide_eq_true_eq, decide_eq_false_iff_not, Bool.not_eq_true', Bool.not_eq_false', bne_iff_ne, beq_iff_eq, Bool.and_eq_true, Bool.or_eq_true, Bool.not_eq_true, ge_iff_le, gt_iff_lt, Int.not_le, Int.not_lt, beq_eq_false_iff_ne, bne_eq_false_iff_eq, ne_eq, Decidable.not_not, ZK, ZT, ZS] at hc2
      refine ZG (ZH (Zx (ZF (Zc (Zd (Za ?_))))))
      refine Zo (env' := u77) rfl rfl (Zb (.inl rfl) rfl) rfl ?_
      refine Zo (env' := u77) rfl rfl (Zb (.inl rfl) rfl) rfl ?_
      refine Zo (env' := u77) rfl rfl (rfl) rfl ?_
      refine Zo (env' := u77) rfl rfl (v_val (v_subI rfl rfl rfl (by show -9223372036854775808 ≤ ((2 ^ rows.length : Nat) : Int) - 1 ∧ ((2 ^ rows.length : Nat) : Int) - 1 < 9223372036854775808; omega)) (congrArg iI (show ((2 ^ rows.length : Nat) : Int) - 1 = ((2 ^ rows.length - 1 : Nat) : Int) by omega))) rfl ?_
      refine Zo (env' := u77) rfl rfl XH37 rfl ?_
      refine Zo (env' := u77) rfl rfl (by first | exact v_loadF rfl rfl rfl rfl XH29 | exact v_load rfl rfl rfl rfl XH7 XH29) rfl ?_
      refine Zo (env' := u77) rfl rfl (Zb (.inr rfl) rfl) rfl ?_
      refine Ze (Zc (Zi ?_))
      refine Yp (.inr rfl) (Zh rfl rfl) XH9 XH11 ?_
      first
        | exact ⟨by rw [coV, if_neg (by omega)]; rfl, rfl⟩
        | (obtain rfl : u = 64 := by omega); exact ⟨by rw [coV, if_pos (by omega), show (wayL rows.length (wU rows (ZP most 65536) 64)).getD ((2 ^ rows.length - 1 : Nat) : Int).toNat 0 = _ from wayL_get (by omega)]; unfold wU; rw [Int.toNat_natCast, wS_end], rfl⟩
end MM
open Go Go.V Go.RowKit
abbrev seB (w : BitVec 64) : VBlk := .cells [iW w] true
theorem Yr {b : Bool} (h : b = false) : ¬ b = true := by rw [h]; decide
theorem beq_nat {a b : Nat} : ((a : Int) == (b : Int)) = (a == b) := Bool.eq_iff_iff.2 (by rw [beq_iff_eq, beq_iff_eq]; omega)
theorem full0 {l : List (BitVec 64)} : YR l 0#64 = true ↔ Mat l := by rw [fullB_iff, msk_0]
def szV (l : List (BitVec 64)) : Int := if l.length ≤ 12 then (szN l : Nat) else 0
abbrev u69 {a0 a1 a2 a3 a4 a5 a6 a7 a8 a9 a10 a11 a12 a13 a14 a15 a16 a17 a18 a19 a20 a21 a22 a23 a24 a25 a26 a27 a28 a29 a30 a31 a32 a33 a34 a35 a36 a37 a38 a39 a40 a41 a42 a43 a44 a45 a46 a47 a48 a49 a50 a51 a52 a53 a54 a55 a56 a57 a58 a59 a60 a61 a62 a63 a64 a65 a66 a67 a68 : VVal} : VEnv := a0 :: a1 :: a2 :: a3 :: a4 :: a5 :: a6 :: a7 :: a8 :: a9 :: a10 :: a11 :: a12 :: a13 :: a14 :: a15 :: a16 :: a17 :: a18 :: a19 :: a20 :: a21 :: a22 :: a23 :: a24 :: a25 :: a26 :: a27 :: a28 :: a29 :: a30 :: a31 :: a32 :: a33 :: a34 :: a35 :: a36 :: a37 :: a38 :: a39 :: a40 :: a41 :: a42 :: a43 :: a44 :: a45 :: a46 :: a47 :: a48 :: a49 :: a50 :: a51 :: a52 :: a53 :: a54 :: a55 :: a56 :: a57 :: a58 :: a59 :: a60 :: a61 :: a62 :: a63 :: a64 :: a65 :: a66 :: a67 :: a68 :: []
theorem W4l {T : TypeId → Option VTy} {H : Zf} {op : Op} {ρ : Operand → VVal} {t : TypeId} {a : Operand} {y : VTy} {p v : VVal} (ho : op = .load t a) (ha : ρ a = p) (hy : T t = some y) (hd : Zp y.desc = false) (h : LdOk H p v := by first | exact .inl ⟨_, _, rfl, by first | exact fget (α := BitVec 64) 0 (by omega) | exact fget0 (α := Int) 0 (by omega) | rfl⟩ | exact .inr ⟨_, _, _, _, rfl, by first | exact tr_q hqH | exact tr_p hpH hpq, by first | exact fget (α := BitVec 64) 0 (by omega) | exact fget0 (α := Int) 0 (by omega) | rfl⟩) : vop T ρ H op = some (v, H) := v_ld ho ha hy hd h
theorem W4n {T : TypeId → Option VTy} {H : Zf} {op : Op} {ρ : VEnv} {H' : Zf} {t : TypeId} {a : Operand} {i : Nat} {v : VVal} {y : VTy} {b off : Nat} {cs new : List VVal} (ho : op = .store t a (.tmp i)) (hv : ρ[i]? = some v) (ha : ρ.eval a = .ptr (some (b, off))) (hy : T t = some y) (hx : v.cells = some new) (hn : new.length = y.size) (h1 : new.all VVal.one = true) (hb : H[b]? = some (.cells cs true) := by first | exact tr_q hqH | exact tr_p hpH hpq) (hl : off + new.length ≤ cs.length := by exact XH43) (hH : H.set b (.cells (ZJ cs off new) true) = H' := by exact tr_setq hqH) : vop T ρ.eval H op = some (.skip, H') := Yc ho hv ha hy hx hn h1 hb hl hH
theorem W4o {T : TypeId → Option VTy} {H : Zf} {op : Op} {ρ : Operand → VVal} {t : TypeId} {a : Operand} {y : VTy} {p v : VVal} (ho : op = .load t a) (ha : ρ a = p) (hy : T t = some y) (hd : Zp y.desc = false) (h : LdOk H p v := by first | exact .inl ⟨_, _, rfl, by exact fget0 (α := Int) (l := s1.1) 0 (by omega)⟩ | exact .inr ⟨_, _, _, _, rfl, by first | exact tr_q hqH | exact tr_p hpH hpq, by exact fget0 (α := Int) (l := s1.1) 0 (by omega)⟩) : vop T ρ H op = some (v, H) := v_ld ho ha hy hd h
theorem W4p {T : TypeId → Option VTy} {H : Zf} {op : Op} {ρ : VEnv} {H' : Zf} {t : TypeId} {a : Operand} {i : Nat} {v : VVal} {y : VTy} {b off : Nat} {cs new : List VVal} (ho : op = .store t a (.tmp i)) (hv : ρ[i]? = some v) (ha : ρ.eval a = .ptr (some (b, off))) (hy : T t = some y) (hx : v.cells = some new) (hn : new.length = y.size) (h1 : new.all VVal.one = true) (hb : H[b]? = some (.cells cs true) := by first | exact tr_q hqH | exact tr_p hpH hpq) (hl : off + new.length ≤ cs.length := by first | exact has_len (s := (s1.1, 0#64)) (show i < s1.1.length by omega) | exact has_len (s := (trn rows n k (s1.1, s1.2 ||| 1#64 <<< u)).2) (by rw [trn_len]; show i < s1.1.length; omega)) (hH : H.set b (.cells (ZJ cs off new) true) = H' := by first | exact tr_setp hpH hpq (show i < s1.1.length by omega) | exact tr_setp hpH hpq (by rw [trn_len]; show i < s1.1.length; omega)) : vop T ρ.eval H op = some (.skip, H') := Yc ho hv ha hy hx hn h1 hb hl hH
theorem W4q {S : V.Sys} {H : Zf} {fn : Func} {ex : Exit} {env : VEnv} {B L : Zf} {v : VVal} {R : VVal → Zf → Prop} (hx : ex = .normal ∨ ex = .ret) (hv : Yb S.C.T env (B ++ L) fn.results = some v) (h : R v B) (hB : BaseOk H B := by exact tr_base) (hu : v.under H.length = true := by first | rfl | simp [VVal.under, VVal.underL, *]) : fnK S fn H R ex env (B ++ L) := Yp hx hv hB hu h
theorem W4r {P : Prop} (h : P := by first | (obtain rfl : u = 64 := by omega); exact ⟨by rw [hg]; rfl, by rw [hg]; rfl⟩ | exact ⟨by rw [hg, hf, if_pos (by omega)], by rw [hg, hf, if_pos (by omega)]; rfl⟩ | exact ⟨by rw [hg, hf, if_neg (by omega), if_pos (by assumption)], by rw [hg, hf, if_neg (by omega), if_pos (by assumption)]; rfl⟩) : P := h
abbrev haB (has : List Int) : VBlk := .cells (has.map iI) true
def trH (H : Zf) (p q : Nat) (s : HSt) : Zf := (H.set p (haB s.1)).set q (seB s.2)
section
variable {H L : Zf} {p q : Nat} {s : HSt}
theorem trH_len {n : Nat} (h : H.length = n) : (trH H p q s).length = n := by unfold trH; rw [List.length_set, List.length_set]; exact h
theorem trH_id {has : List Int} {w : BitVec 64} (hp : H[p]? = some (haB has)) (hq : H[q]? = some (seB w)) : trH H p q (has, w) = H := by
  unfold trH; rw [← YC hp, ← YC hq]
theorem tr_q (hq : q < H.length) : (trH H p q s ++ L)[q]? = some (seB s.2) := by
  unfold trH; exact Zw (List.getElem?_set_self (by rw [List.length_set]; exact hq))
theorem tr_p (hp : p < H.length) (hpq : p ≠ q) : (trH H p q s ++ L)[p]? = some (haB s.1) := by
  unfold trH; exact Zw (by rw [List.getElem?_set_ne (Ne.symm hpq)]; exact List.getElem?_set_self hp)
theorem tr_setq {w : BitVec 64} (hq : q < H.length) : (trH H p q s ++ L).set q (seB w) = trH H p q (s.1, w) ++ L := by
  rw [Yq (by rw [trH_len rfl]; exact hq)]; unfold trH; rw [List.set_set]
theorem tr_setp0 {k : VBlk} (hp : p < H.length) (hpq : p ≠ q) : (trH H p q s ++ L).set p k = (H.set p k).set q (seB s.2) ++ L := by
  rw [Yq (by rw [trH_len rfl]; exact hp)]; unfold trH
  rw [List.set_comm _ _ (Ne.symm hpq), List.set_set]
theorem splice_i {l : List Int} {k : Nat} {r : Int} (h : k < l.length) : ZJ (l.map iI) (0 + k * 1) [iI r] = (l.set k r).map iI := by
  rw [show 0 + k * 1 = k by omega]
  unfold ZJ
  rw [List.map_set, List.set_eq_take_append_cons_drop, if_pos (by rw [List.length_map]; exact h)]; simp
theorem tr_setp {i : Nat} {r : Int} (hp : p < H.length) (hpq : p ≠ q) (hi : i < s.1.length) : (trH H p q s ++ L).set p (.cells (ZJ (s.1.map iI) (0 + i * 1) [iI r]) true) = trH H p q (s.1.set i r, s.2) ++ L := by
  rw [splice_i hi, tr_setp0 hp hpq]; rfl
theorem tr_tr {t : HSt} (hp : p < H.length) (hq : q < H.length) (hpq : p ≠ q) : trH (trH H p q s ++ L) p q t = trH H p q t ++ L := by
  have : trH (trH H p q s ++ L) p q t = ((trH H p q s ++ L).set p (haB t.1)).set q (seB t.2) := rfl
  rw [this, tr_setp0 hp hpq, Yq (by simp; exact hq), List.set_set]; rfl
theorem tr_base : BaseOk H (trH H p q s) := BaseOk.set (BaseOk.set (BaseOk.refl _) _ (by show VVal.underL _ (s.1.map iI) = true; exact YW _ _)) _ rfl
theorem has_len {i : Nat} {v : VVal} (h : i < s.1.length) : 0 + i * 1 + [v].length ≤ (s.1.map iI).length := by
  show 0 + i * 1 + 1 ≤ (s.1.map iI).length
  rw [List.length_map]; omega
end
theorem trn_len {rows : List (BitVec 64)} : ∀ {n i : Nat} {s : HSt}, (trn rows n i s).2.1.length = s.1.length := by
  have hL : ∀ (g : Nat → HSt → Bool × HSt), (∀ k s, (g k s).2.1.length = s.1.length) → ∀ (i : Nat) (l : List Nat) (s : HSt), (trL g rows i l s).2.1.length = s.1.length := by
    intro g hg i l
    induction l with
    | nil => intro s; rfl
    | cons u l ih =>
      intro s
      rw [trL]
      split
      · exact ih s
      · split
        · simp
        · split
          · simp [hg]
          · rw [ih, hg]
  intro n
  induction n with
  | zero => intro i s; rfl
  | succ n ih => intro i s; rw [trn]; exact hL _ (fun k s => ih) i _ s
theorem trn_sub {rows : List (BitVec 64)} : ∀ {n i : Nat} {s : HSt}, subW s.2 (trn rows n i s).2.2 := by
  have hL : ∀ (g : Nat → HSt → Bool × HSt), (∀ k s, subW s.2 (g k s).2.2) → ∀ (i : Nat) (l : List Nat) (s : HSt), (∀ u, u ∈ l → u < 64) → subW s.2 (trL g rows i l s).2.2 := by
    intro g hg i l
    induction l with
    | nil => intro s _ _ h; exact h
    | cons u l ih =>
      intro s hl
      have hu := hl u (List.mem_cons_self ..)
      have hl' : ∀ v, v ∈ l → v < 64 := fun v hv => hl v (List.mem_cons_of_mem _ hv)
      have h1 : subW s.2 (s.2 ||| 1#64 <<< u) := fun a ha => (or1 hu).2 (.inl ha)
      have h2 := hg (fndK s.1 u) (s.1, s.2 ||| 1#64 <<< u)
      rw [trL]
      split
      · exact ih s hl'
      · split
        · exact h1
        · split
          · exact fun a ha => h2 a (h1 a ha)
          · exact fun a ha => ih _ hl' a (h2 a (h1 a ha))
  intro n
  induction n with
  | zero => intro i s _ h; exact h
  | succ n ih => intro i s; rw [trn]; exact hL _ (fun k s => ih) i _ s fun u hu => List.mem_range.1 hu
theorem sh_not0 {d : BitVec 64} {k : Nat} (h : ¬ d >>> k &&& 1#64 = 0#64) : d.getLsbD k = true := by rw [sh0] at h; simpa using h
theorem YQ {g : Nat → HSt → Bool × HSt} {rows : List (BitVec 64)} {i u : Nat} {s : HSt} (hu : u < 64) : trL g rows i ((List.range 64).drop u) s = if (rows.getD i 0).getLsbD u = false ∨ s.2.getLsbD u = true then trL g rows i ((List.range 64).drop (u + 1)) s
    else if fndK s.1 u = s.1.length then (true, (s.1.set i (u : Int), s.2 ||| 1#64 <<< u))
    else if (g (fndK s.1 u) (s.1, s.2 ||| 1#64 <<< u)).1 = true then (true, ((g (fndK s.1 u) (s.1, s.2 ||| 1#64 <<< u)).2.1.set i (u : Int), (g (fndK s.1 u) (s.1, s.2 ||| 1#64 <<< u)).2.2))
    else trL g rows i ((List.range 64).drop (u + 1)) (g (fndK s.1 u) (s.1, s.2 ||| 1#64 <<< u)).2 := by
  rw [List.drop_eq_getElem_cons (by simpa using hu), trL]; simp only [List.getElem_range]
theorem turn_in {x : SW} {p q n : Nat} {ex : Bool} {rows : List (BitVec 64)} (hpq : p ≠ q) (ih : ∀ (H : Zf) (i : Nat) (has : List Int) (S : BitVec 64), H[p]? = some (haB has) → H[q]? = some (seB S) → i < rows.length → has.length = rows.length → 64 - Ys 64 S < n → F (psys x) 156 [fzW rows, .slice (some (p, 0)) rows.length rows.length ex 1, .ptr (some (q, 0)), iI (i : Nat)] H fun v G => v = .bool (trn rows n i (has, S)).1 ∧ G = trH H p q (trn rows n i (has, S)).2) (H L : Zf) (s : HSt) (hp : p < H.length) (hq : q < H.length) (i : Nat) (hi : i < rows.length) (hk : s.1.length = rows.length) (hm : 64 - Ys 64 s.2 < n) :
    F (psys x) 156 [fzW rows, .slice (some (p, 0)) rows.length rows.length ex 1, .ptr (some (q, 0)), iI (i : Nat)] (trH H p q s ++ L) fun v G => v = .bool (trn rows n i s).1 ∧ G = trH H p q (trn rows n i s).2 ++ L := by
  have := ih (trH H p q s ++ L) i s.1 s.2 (tr_p hp hpq) (tr_q hq) hi hk hm
  rw [tr_tr hp hq hpq] at this
  exact this
theorem turn_s {x : SW} (p q n : Nat) (ex : Bool) (rows : List (BitVec 64)) (hpq : p ≠ q) (h62 : rows.length ≤ 1000000) (ih : ∀ (H : Zf) (i : Nat) (has : List Int) (S : BitVec 64), H[p]? = some (haB has) → H[q]? = some (seB S) → i < rows.length → has.length = rows.length → 64 - Ys 64 S < n → F (psys x) 156 [fzW rows, .slice (some (p, 0)) rows.length rows.length ex 1, .ptr (some (q, 0)), iI (i : Nat)] H fun v G => v = .bool (trn rows n i (has, S)).1 ∧ G = trH H p q (trn rows n i (has, S)).2) (H : Zf) (i : Nat) (has : List Int) (S : BitVec 64) (hp : H[p]? = some (haB has)) (hq : H[q]? = some (seB S)) (hi : i < rows.length) (hhl : has.length = rows.length) (hm : 64 - Ys 64 S < n + 1) : F (psys x) 156 [fzW rows, .slice (some (p, 0)) rows.length rows.length ex 1, .ptr (some (q, 0)), iI (i : Nat)] H fun v G => v = .bool (trn rows (n + 1) i (has, S)).1 ∧ G = trH H p q (trn rows (n + 1) i (has, S)).2 := by
 have hpH := ZY hp
 have hqH := ZY hq
 refine Zq Tryd.func156 rfl u69 rfl ?_
 refine Zd (Za ?_)
 refine Lo u69 (Zg (VVal.bool false) (.inr rfl) rfl) ?_
 refine Ze (Zc (Zd (Zd (Za ?_))))
 refine Lo u69 (Zg (VVal.int .i64 0) (.inr rfl) rfl) ?_
 refine Ze (Zc (Zl ?_))
 refine Zz (mk 69 590295810358705651184) (env' := u69) rfl ?_
 refine ZE (fun (⟨u, s1⟩ : Nat × HSt) => 64 - u) (fun (⟨u, s1⟩ : Nat × HSt) => [(9, iI (u : Nat))]) (fun (⟨u, s1⟩ : Nat × HSt) G => (u ≤ 64 ∧ s1.1.length = rows.length ∧ 64 - Ys 64 s1.2 ≤ n ∧ trn rows (n + 1) i (has, S) = trL (trn rows n) rows i ((List.range 64).drop u) s1) ∧ G = trH H p q s1 ++ []) ⟨0, (has, S)⟩ rfl ?_ ?_
 ·refine ⟨?_, (by rw [trH_id hp hq])⟩
  exact ⟨Nat.zero_le _, hhl, by show 64 - Ys 64 S ≤ n; omega, rfl⟩
 rintro ⟨u, s1⟩ _ ⟨⟨hu, hl1, hcm, hg⟩, rfl⟩
 refine ZV (env' := u69) rfl ?_
 have hil : i < s1.1.length := by omega
 refine Zd (Zd (Za ?_))
 refine Lo u69 (Zb (.inl rfl) rfl) ?_
 refine Lo u69 (rfl) ?_
 refine Ze (Zc ?_)
 refine Zk _ rfl (fun hc1 => ?_) (fun hc1 => ?_)
 ·try simp only [qB] at hc1
  refine Zj (Zc (Zd (Zl (Zd (Zd (Za ?_))))))
  refine Lo u69 (Zb (.inl rfl) rfl) ?_
  refine Lo u69 (Zb (.inl rfl) rfl) ?_
  refine Lo u69 (W18 rfl rfl rfl rfl rfl rfl rfl) ?_
  refine Lo u69 (W4l rfl rfl rfl rfl) ?_
  refine Lo u69 (Zb (.inl rfl) rfl) ?_
  refine Lo u69 (v_shrW rfl rfl rfl XH1) ?_
  refine Lo u69 (v_andW (b := 1#64) rfl rfl rfl) ?_
  refine Lo u69 (rfl) ?_
  refine Lo u69 (Zb (.inl rfl) rfl) ?_
  refine Zu 23 (env1 := u69) (env2 := u69) rfl rfl rfl (fun hg2 => ?_) (fun hg2 => ?_)
  ·try simp only [qB] at hg2
   refine Lf u69 ?_
   refine Lf u69 ?_
   refine Lf u69 ?_
   refine Lf u69 ?_
   refine Lf u69 ?_
   refine Lf u69 ?_
   refine Lf u69 ?_
   refine Lo u69 (ZB (VVal.bool true) rfl rfl rfl) ?_
   refine Ze (Zc ?_)
   refine ZL rfl rfl ?_
   refine ZG (ZH (ZF (Zc (Za ?_))))
   refine Lo u69 (Zb (.inl rfl) rfl) ?_
   refine Lo u69 (W14 rfl rfl rfl) ?_
   refine Lo u69 (Zb (.inr rfl) rfl) ?_
   refine Ze ?_
   refine Zt (mk 69 590295810358705651184) (env' := u69) rfl ⟨⟨u + 1, s1⟩, ?_, rfl, ?_⟩
   ·first | omega | (simp only []; omega)
   ·first | exact ⟨⟨by omega, hl1, hcm, by rw [hg, YQ (by omega), if_pos (.inl (sh0.1 (by assumption)))]⟩, rfl⟩ | exact ⟨⟨by omega, hl1, hcm, by rw [hg, YQ (by omega), if_pos (.inr (sh1.1 (by assumption)))]⟩, rfl⟩ | exact ⟨⟨by omega, trn_len.trans hl1, XH15, by rw [hg, hf, if_neg (by omega), if_neg (Yr (by assumption))]⟩, rfl⟩
  ·try simp only [qB] at hg2
   refine Lo u69 (Zb (.inl rfl) rfl) ?_
   refine Lo u69 (rfl) ?_
   refine Lo u69 (W4l rfl rfl rfl rfl) ?_
   refine Lo u69 (Zb (.inl rfl) rfl) ?_
   refine Lo u69 (v_shrW rfl rfl rfl XH1) ?_
   refine Lo u69 (v_andW (b := 1#64) rfl rfl rfl) ?_
   refine Lo u69 (rfl) ?_
   refine Lo u69 (ZW rfl rfl rfl) ?_
   refine Ze (Zc ?_)
   refine Zk _ rfl (fun hc3 => ?_) (fun hc3 => ?_)
   ·try simp only [qB] at hc3
    refine ZG (ZH (ZF (Zc (Za ?_))))
    refine Lo u69 (Zb (.inl rfl) rfl) ?_
    refine Lo u69 (W14 rfl rfl rfl) ?_
    refine Lo u69 (Zb (.inr rfl) rfl) ?_
    refine Ze ?_
    refine Zt (mk 69 590295810358705651184) (env' := u69) rfl ⟨⟨u + 1, s1⟩, ?_, rfl, ?_⟩
    ·first | omega | (simp only []; omega)
    ·first | exact ⟨⟨by omega, hl1, hcm, by rw [hg, YQ (by omega), if_pos (.inl (sh0.1 (by assumption)))]⟩, rfl⟩ | exact ⟨⟨by omega, hl1, hcm, by rw [hg, YQ (by omega), if_pos (.inr (sh1.1 (by assumption)))]⟩, rfl⟩ | exact ⟨⟨by omega, trn_len.trans hl1, XH15, by rw [hg, hf, if_neg (by omega), if_neg (Yr (by assumption))]⟩, rfl⟩
   ·try simp only [qB] at hc3
    refine Zj (Zc (Zd ?_))
    have hu64 : u < 64 := by omega
    have hbit : (rows.getD i 0).getLsbD u = true := sh_not0 (by assumption)
    have hseen : s1.2.getLsbD u = false := sh1n.1 (by assumption)
    have hcond : ¬ ((rows.getD i 0).getLsbD u = false ∨ s1.2.getLsbD u = true) := fun e => e.elim (fun h => by rw [hbit] at h; cases h) (fun h => by rw [hseen] at h; cases h)
    have hcg := come_grow (s := s1.2) (t := s1.2 ||| 1#64 <<< u) (fun a ha => (or1 hu64).2 (.inl ha)) ⟨u, (or1 hu64).2 (.inr rfl), hseen⟩
    have hcl := come_le (s1.2 ||| 1#64 <<< u)
    rw [YQ hu64, if_neg hcond] at hg
    refine ZU [0, 1, 2, 3, 4, 5, 6, 7, 8] #[0, 0, 2, 6, 0, 16, 62, 127, 255] XH5 XH5 XH5 ?_
    refine Oo u69 .calm rfl (Zb (.inl rfl) rfl) ?_
    refine Oo u69 .calm rfl (Zb (.inl rfl) rfl) ?_
    refine Oo u69 .calm rfl (rfl) ?_
    refine Oo u69 .look rfl (W4l rfl rfl rfl rfl) ?_
    refine Oo u69 .calm rfl (Zb (.inl rfl) rfl) ?_
    refine Oo u69 .calm rfl (v_shl1 rfl rfl rfl XH1) ?_
    refine Oo u69 .calm rfl (v_orW rfl rfl rfl) ?_
    refine Oo u69 .calm rfl (rfl) ?_
    refine Oo u69 .turn rfl (W4n rfl rfl rfl rfl rfl rfl rfl) ?_
    refine Z3 [] XH5 (trivial) ?_
    refine Zc (Zd (Za ?_))
    refine Lo u69 (Zg (VVal.int .i64 0) (.inr rfl) rfl) ?_
    refine Ze (Zc (Zd (Zl ?_)))
    refine Zz (mk 69 590295810358705650160) (env' := u69) rfl ?_
    refine ZE (fun (k : Nat) => rows.length - k) (fun (k : Nat) => [(10, iI (k : Nat))]) (fun (k : Nat) G => (k ≤ rows.length ∧ ∀ j, j < k → s1.1.getD j 0 ≠ (u : Int)) ∧ G = trH H p q (s1.1, s1.2 ||| 1#64 <<< u) ++ []) 0 rfl ?_ ?_
    ·refine ⟨?_, rfl⟩
     exact ⟨Nat.zero_le _, fun j h => by omega⟩
    rintro k _ ⟨⟨hk, hno⟩, rfl⟩
    refine ZV (env' := u69) rfl ?_
    refine Zd (Zd (Za ?_))
    refine Lo u69 (Zb (.inl rfl) rfl) ?_
    refine Lo u69 (Zb (.inl rfl) rfl) ?_
    refine Lo u69 (rfl) ?_
    refine Lo u69 (rfl) ?_
    refine Lo u69 (Zb (.inl rfl) rfl) ?_
    refine Zu 44 (env1 := u69) (env2 := u69) rfl rfl rfl (fun hg4 => ?_) (fun hg4 => ?_)
    ·try simp only [qB] at hg4
     refine Lo u69 (Zb (.inl rfl) rfl) ?_
     refine Lo u69 (Zb (.inl rfl) rfl) ?_
     refine Lo u69 (W18 rfl rfl rfl rfl rfl rfl rfl) ?_
     refine Lo u69 (W4o rfl rfl rfl rfl) ?_
     refine Lo u69 (Zb (.inl rfl) rfl) ?_
     refine Lo u69 (rfl) ?_
     refine Lo u69 (ZM rfl rfl rfl) ?_
     refine Ze (Zc ?_)
     refine Zk _ rfl (fun hc5 => ?_) (fun hc5 => ?_)
     ·try simp only [qB] at hc5
      refine Zj (Zc (Zl (Za ?_)))
      refine Lo u69 (Zb (.inl rfl) rfl) ?_
      refine Lo u69 (W14 rfl rfl rfl) ?_
      refine Lo u69 (Zb (.inr rfl) rfl) ?_
      refine Ze (Zr ?_)
      refine Zt (mk 69 590295810358705650160) (env' := u69) rfl ⟨k + 1, ?_, rfl, ?_⟩
      ·first | omega | (simp only []; omega)
      ·exact ⟨⟨by omega, fun j hj => by by_cases e : j = k; (subst e; assumption); exact hno j (by omega)⟩, rfl⟩
     ·try simp only [qB] at hc5
      refine ZG (ZH (Zx (ZF (Zc (Zd ?_)))))
      have hf : fndK s1.1 u = k := fndK_is (by omega) hno (by first | exact .inr (by assumption) | exact .inl (by omega))
      refine Za ?_
      refine Lo u69 (Zb (.inl rfl) rfl) ?_
      refine Lo u69 (Zb (.inl rfl) rfl) ?_
      refine Lo u69 (rfl) ?_
      refine Lo u69 (rfl) ?_
      refine Lo u69 (Zb (.inl rfl) rfl) ?_
      refine Zu 58 (env1 := u69) (env2 := u69) rfl rfl rfl (fun hg6 => ?_) (fun hg6 => ?_)
      ·try simp only [qB] at hg6
       refine Lf u69 ?_
       refine Lf u69 ?_
       refine Lf u69 ?_
       refine Lf u69 ?_
       refine Lf u69 ?_
       refine Lo u69 (ZB (VVal.bool true) rfl rfl rfl) ?_
       refine Ze (Zc ?_)
       refine ZL rfl rfl ?_
       refine Zd (Za ?_)
       refine Lo u69 (Zb (.inl rfl) rfl) ?_
       refine Lo u69 (Zb (.inl rfl) rfl) ?_
       refine Lo u69 (Zb (.inl rfl) rfl) ?_
       refine Lo u69 (W18 rfl rfl rfl rfl rfl rfl rfl) ?_
       refine Lo u69 (W4p rfl rfl rfl rfl rfl rfl rfl) ?_
       refine Ze (Zc (Zd (Za ?_)))
       refine Lo u69 (Zg (VVal.bool true) (.inr rfl) rfl) ?_
       refine Ze (Zc (Zi (ZD (Zn (Yd (ZD (Zn ?_)))))))
       refine W4q (.inr rfl) (Zh rfl rfl) ?_
       exact W4r
      ·try simp only [qB] at hg6
       refine Lo u69 (Zb (.inl rfl) rfl) ?_
       refine Lo u69 (Zb (.inl rfl) rfl) ?_
       refine Lo u69 (Zb (.inl rfl) rfl) ?_
       refine Lo u69 (Zb (.inl rfl) rfl) ?_
       refine Zy rfl rfl rfl XH35 ?_
       rintro _ _ ⟨rfl, rfl⟩
       refine Le u69 ?_
       refine Lo u69 (ZW rfl rfl rfl) ?_
       refine Ze (Zc ?_)
       refine Zk _ rfl (fun hc7 => ?_) (fun hc7 => ?_)
       ·try simp only [qB] at hc7
        refine Zd (Za ?_)
        refine Lo u69 (Zb (.inl rfl) rfl) ?_
        refine Lo u69 (Zb (.inl rfl) rfl) ?_
        refine Lo u69 (Zb (.inl rfl) rfl) ?_
        refine Lo u69 (W18 rfl rfl rfl rfl rfl rfl rfl) ?_
        refine Lo u69 (W4p rfl rfl rfl rfl rfl rfl rfl) ?_
        refine Ze (Zc (Zd (Za ?_)))
        refine Lo u69 (Zg (VVal.bool true) (.inr rfl) rfl) ?_
        refine Ze (Zc (Zi (ZD (Zn (Yd (ZD (Zn ?_)))))))
        refine W4q (.inr rfl) (Zh rfl rfl) ?_
        exact W4r
       ·try simp only [qB] at hc7
        refine Zj (Zr (Zc (Za ?_)))
        refine Lo u69 (Zb (.inl rfl) rfl) ?_
        refine Lo u69 (W14 rfl rfl rfl) ?_
        refine Lo u69 (Zb (.inr rfl) rfl) ?_
        refine Ze ?_
        refine Zt (mk 69 590295810358705651184) (env' := u69) rfl ⟨⟨u + 1, (trn rows n k (s1.1, s1.2 ||| 1#64 <<< u)).2⟩, ?_, rfl, ?_⟩
        ·first | omega | (simp only []; omega)
        ·first | exact ⟨⟨by omega, hl1, hcm, by rw [hg, YQ (by omega), if_pos (.inl (sh0.1 (by assumption)))]⟩, rfl⟩ | exact ⟨⟨by omega, hl1, hcm, by rw [hg, YQ (by omega), if_pos (.inr (sh1.1 (by assumption)))]⟩, rfl⟩ | exact ⟨⟨by omega, trn_len.trans hl1, XH15, by rw [hg, hf, if_neg (by omega), if_neg (Yr (by assumption))]⟩, rfl⟩
    ·try simp only [qB] at hg4
     refine Lf u69 ?_
     refine Lf u69 ?_
     refine Lf u69 ?_
     refine Lf u69 ?_
     refine Lf u69 ?_
     refine Lf u69 ?_
     refine Lo u69 (ZA (VVal.bool false) rfl rfl rfl) ?_
     refine Ze (Zc ?_)
     refine Ye rfl rfl ?_
     refine ZG (ZH (Zx (ZF (Zc (Zd ?_)))))
     have hf : fndK s1.1 u = k := fndK_is (by omega) hno (by first | exact .inr (by assumption) | exact .inl (by omega))
     refine Za ?_
     refine Lo u69 (Zb (.inl rfl) rfl) ?_
     refine Lo u69 (Zb (.inl rfl) rfl) ?_
     refine Lo u69 (rfl) ?_
     refine Lo u69 (rfl) ?_
     refine Lo u69 (Zb (.inl rfl) rfl) ?_
     refine Zu 58 (env1 := u69) (env2 := u69) rfl rfl rfl (fun hg8 => ?_) (fun hg8 => ?_)
     ·try simp only [qB] at hg8
      refine Lf u69 ?_
      refine Lf u69 ?_
      refine Lf u69 ?_
      refine Lf u69 ?_
      refine Lf u69 ?_
      refine Lo u69 (ZB (VVal.bool true) rfl rfl rfl) ?_
      refine Ze (Zc ?_)
      refine ZL rfl rfl ?_
      refine Zd (Za ?_)
      refine Lo u69 (Zb (.inl rfl) rfl) ?_
      refine Lo u69 (Zb (.inl rfl) rfl) ?_
      refine Lo u69 (Zb (.inl rfl) rfl) ?_
      refine Lo u69 (W18 rfl rfl rfl rfl rfl rfl rfl) ?_
      refine Lo u69 (W4p rfl rfl rfl rfl rfl rfl rfl) ?_
      refine Ze (Zc (Zd (Za ?_)))
      refine Lo u69 (Zg (VVal.bool true) (.inr rfl) rfl) ?_
      refine Ze (Zc (Zi (ZD (Zn (Yd (ZD (Zn ?_)))))))
      refine W4q (.inr rfl) (Zh rfl rfl) ?_
      exact W4r
     ·try simp only [qB] at hg8
      refine Lo u69 (Zb (.inl rfl) rfl) ?_
      refine Lo u69 (Zb (.inl rfl) rfl) ?_
      refine Lo u69 (Zb (.inl rfl) rfl) ?_
      refine Lo u69 (Zb (.inl rfl) rfl) ?_
      refine Zy rfl rfl rfl XH35 ?_
      rintro _ _ ⟨rfl, rfl⟩
      refine Le u69 ?_
      refine Lo u69 (ZW rfl rfl rfl) ?_
      refine Ze (Zc ?_)
      refine Zk _ rfl (fun hc9 => ?_) (fun hc9 => ?_)
      ·try simp only [qB] at hc9
       refine Zd (Za ?_)
       refine Lo u69 (Zb (.inl rfl) rfl) ?_
       refine Lo u69 (Zb (.inl rfl) rfl) ?_
       refine Lo u69 (Zb (.inl rfl) rfl) ?_
       refine Lo u69 (W18 rfl rfl rfl rfl rfl rfl rfl) ?_
       refine Lo u69 (W4p rfl rfl rfl rfl rfl rfl rfl) ?_
       refine Ze (Zc (Zd (Za ?_)))
       refine Lo u69 (Zg (VVal.bool true) (.inr rfl) rfl) ?_
       refine Ze (Zc (Zi (ZD (Zn (Yd (ZD (Zn ?_)))))))
       refine W4q (.inr rfl) (Zh rfl rfl) ?_
       exact W4r
      ·try simp only [qB] at hc9
       refine Zj (Zr (Zc (Za ?_)))
       refine Lo u69 (Zb (.inl rfl) rfl) ?_
       refine Lo u69 (W14 rfl rfl rfl) ?_
       refine Lo u69 (Zb (.inr rfl) rfl) ?_
       refine Ze ?_
       refine Zt (mk 69 590295810358705651184) (env' := u69) rfl ⟨⟨u + 1, (trn rows n k (s1.1, s1.2 ||| 1#64 <<< u)).2⟩, ?_, rfl, ?_⟩
       ·first | omega | (simp only []; omega)
       ·first | exact ⟨⟨by omega, hl1, hcm, by rw [hg, YQ (by omega), if_pos (.inl (sh0.1 (by assumption)))]⟩, rfl⟩ | exact ⟨⟨by omega, hl1, hcm, by rw [hg, YQ (by omega), if_pos (.inr (sh1.1 (by assumption)))]⟩, rfl⟩ | exact ⟨⟨by omega, trn_len.trans hl1, XH15, by rw [hg, hf, if_neg (by omega), if_neg (Yr (by assumption))]⟩, rfl⟩
 ·try simp only [qB] at hc1
  refine ZG (ZH (Zx (ZF (Zc (Zd (Za ?_))))))
  refine Lo u69 (Zg (VVal.bool false) (.inr rfl) rfl) ?_
  refine Ze (Zc (Zi ?_))
  refine W4q (.inr rfl) (Zh rfl rfl) ?_
  exact W4r
abbrev u36 {a0 a1 a2 a3 a4 a5 a6 a7 a8 a9 a10 a11 a12 a13 a14 a15 a16 a17 a18 a19 a20 a21 a22 a23 a24 a25 a26 a27 a28 a29 a30 a31 a32 a33 a34 a35 : VVal} : VEnv := a0 :: a1 :: a2 :: a3 :: a4 :: a5 :: a6 :: a7 :: a8 :: a9 :: a10 :: a11 :: a12 :: a13 :: a14 :: a15 :: a16 :: a17 :: a18 :: a19 :: a20 :: a21 :: a22 :: a23 :: a24 :: a25 :: a26 :: a27 :: a28 :: a29 :: a30 :: a31 :: a32 :: a33 :: a34 :: a35 :: []
theorem W4s {S : V.Sys} {H : Zf} {fn : Func} {ex : Exit} {env : VEnv} {B L : Zf} {v : VVal} {R : VVal → Zf → Prop} (hx : ex = .normal ∨ ex = .ret) (hv : Yb S.C.T env (B ++ L) fn.results = some v) (h : R v B) (hB : BaseOk H B := by exact XH48) (hu : v.under H.length = true := by first | rfl | simp [VVal.under, VVal.underL, YG, *]) : fnK S fn H R ex env (B ++ L) := Yp hx hv hB hu h
theorem W4t {P : Prop} (h : P := by first | exact ⟨by rw [szV, if_neg (by omega)], rfl⟩ | (obtain rfl : k = rows.length := by omega); exact ⟨by rw [szV, if_pos (by omega), rsz_all], rfl⟩) : P := h
theorem W4w {T : TypeId → Option VTy} {H : Zf} {op : Op} {ρ : Operand → VVal} {t ty : TypeId} {x y : Operand} {n m : Int} (ho : op = .binOp .add t x y ty) (hx : ρ x = .int .i64 n) (hy : ρ y = .int .i64 m) (h : -9223372036854775808 ≤ n + m ∧ n + m < 9223372036854775808 := by have := rsz_le (rows := rows) (k := k) (by omega); omega) : vop T ρ H op = some (.int .i64 (n + m), H) := YE ho hx hy h
theorem W4y {P : Prop} (h : P := by first | exact ⟨by rw [full_sz, decide_eq_true (by omega), Bool.true_and, ← beq_nat]; rw [szV, if_pos (by omega)], rfl⟩ | exact ⟨by rw [decide_eq_false (by omega), Bool.false_and], rfl⟩) : P := h
theorem turn_spec {x : SW} (p q : Nat) (ex : Bool) (rows : List (BitVec 64)) (hpq : p ≠ q) (h62 : rows.length ≤ 1000000) : ∀ (n : Nat) (H : Zf) (i : Nat) (has : List Int) (S : BitVec 64), H[p]? = some (haB has) → H[q]? = some (seB S) → i < rows.length → has.length = rows.length → 64 - Ys 64 S < n → F (psys x) 156 [fzW rows, .slice (some (p, 0)) rows.length rows.length ex 1, .ptr (some (q, 0)), iI (i : Nat)] H fun v G => v = .bool (trn rows n i (has, S)).1 ∧ G = trH H p q (trn rows n i (has, S)).2
  | 0, _, _, _, _, _, _, _, _, h => absurd h (by omega)
  | n + 1, H, i, has, S, hp, hq, hi, hl, hm => turn_s p q n ex rows hpq h62 (fun H i has S a b c d e => turn_spec p q ex rows hpq h62 n H i has S a b c d e) H i has S hp hq hi hl hm
theorem turn_at {x : SW} (H : Zf) (ex : Bool) (rows : List (BitVec 64)) (has : List Int) (i : Nat) (hi : i < rows.length) (hl : has.length = rows.length) (h62 : rows.length ≤ 1000000) : F (psys x) 156 [fzW rows, .slice (some (H.length + 0, 0)) rows.length rows.length ex 1, .ptr (some (H.length + 1, 0)), iI (i : Nat)] (H ++ [haB has, seB 0#64]) fun v G => v = .bool (trn rows 65 i (has, 0#64)).1 ∧ G = H ++ [haB (trn rows 65 i (has, 0#64)).2.1, seB (trn rows 65 i (has, 0#64)).2.2] := by
  have := turn_spec (x := x) (H.length + 0) (H.length + 1) ex rows (by omega) h62 65 (H ++ [haB has, seB 0#64]) i has 0#64 (ZN rfl rfl) (ZN rfl rfl) hi hl (by rw [come_0]; omega)
  unfold trH at this
  rw [ZR rfl, ZR rfl] at this
  exact this
theorem haB_under {n : Nat} {has : List Int} : (haB has).under n = true := YW _ _
theorem rep_cells : ∀ {n : Nat}, ZC [VVal.int .i64 0] n = (List.replicate n (0 : Int)).map iI
  | 0 => rfl
  | n + 1 => by rw [ZC, rep_cells, List.replicate_succ]; rfl
def iniT (n k : Nat) : List Int := List.replicate k (-1) ++ List.replicate (n - k) 0
theorem iniT_len {n k : Nat} (h : k ≤ n) : (iniT n k).length = n := by unfold iniT; simp; omega
theorem iniT_set {n k : Nat} (h : k < n) : (iniT n k).set k (-1) = iniT n (k + 1) := by
  unfold iniT
  rw [List.set_append_right _ _ (by simp), List.length_replicate, Nat.sub_self, show n - k = (n - (k + 1)) + 1 by omega, List.replicate_succ, List.set_cons_zero, List.replicate_succ', List.append_assoc]; rfl
theorem iniT_all {n : Nat} : iniT n n = List.replicate n (-1) := by unfold iniT; simp
theorem rsz_len {rows : List (BitVec 64)} {k : Nat} (h : k ≤ rows.length) : (rsz rows k).1.length = rows.length := (rsz_cor h).1.hl
theorem rsz_le {rows : List (BitVec 64)} {k : Nat} (h : k ≤ rows.length) : (rsz rows k).2 ≤ k := by rw [(rsz_cor h).2.1]; exact szO_le
theorem full_sz {rows : List (BitVec 64)} : YR rows 0#64 = (szN rows == rows.length) := by unfold YR; rw [msk_0]
theorem refSize_spec {x : SW} (H : Zf) (rows : List (BitVec 64)) (h62 : rows.length ≤ 1000000) : F (psys x) 147 [fzW rows] H fun v G => v = iI (szV rows) ∧ G = H := by
 refine Zq Tryd.func147 rfl u36 rfl ?_
 refine Zd (Za ?_)
 refine Lo u36 (Zg (VVal.int .i64 0) (.inr rfl) rfl) ?_
 refine Ze (Zc (Zd (Zd (Za ?_))))
 refine Lo u36 (Zb (.inl rfl) rfl) ?_
 refine Lo u36 (rfl) ?_
 refine Lo u36 (rfl) ?_
 refine Ze (Zc ?_)
 refine Zk _ rfl (fun hc1 => ?_) (fun hc1 => ?_)
 ·try simp only [qB] at hc1
  refine Zd (Za ?_)
  refine Lo u36 (Zg (VVal.int .i64 0) (.inr rfl) rfl) ?_
  refine Ze (Zc (Zi (Zn ?_)))
  refine W4s (.inr rfl) (Zh rfl rfl) ?_
  exact W4t
 ·try simp only [qB] at hc1
  refine Zj (Zc (Zd (Za ?_)))
  refine Lo u36 (Zb (.inl rfl) rfl) ?_
  refine Lo u36 (rfl) ?_
  refine Lo u36 (v_makeSlice rfl rfl rfl rfl rfl (by decide) ⟨by omega, Int.le_refl _, by show (rows.length : Int) * (8 : Nat) ≤ _; omega, by omega⟩) ?_
  refine Lo u36 (Zb (.inr rfl) rfl) ?_
  refine Ze (Zc (Zd (Zd (Za ?_))))
  refine Lo u36 (Zg (VVal.int .i64 0) (.inr rfl) rfl) ?_
  refine Ze (Zc (Zl ?_))
  refine Zz (mk 36 68719476710) (env' := u36) rfl ?_
  refine ZE (fun (k : Nat) => rows.length - k) (fun (k : Nat) => [(4, iI (k : Nat))]) (fun (k : Nat) G => (k ≤ rows.length) ∧ G = H ++ [haB (iniT rows.length k)]) 0 rfl ?_ ?_
  ·refine ⟨?_, (by show _ ++ [VBlk.cells (ZC [VVal.int .i64 0] _) true] = _; rw [rep_cells]; rfl)⟩
   exact Nat.zero_le _
  rintro k _ ⟨hk, rfl⟩
  refine ZV (env' := u36) rfl ?_
  refine Zd (Zd (Za ?_))
  refine Lo u36 (Zb (.inl rfl) rfl) ?_
  refine Lo u36 (Zb (.inl rfl) rfl) ?_
  refine Lo u36 (rfl) ?_
  refine Lo u36 (rfl) ?_
  refine Ze (Zc ?_)
  refine Zk _ rfl (fun hc2 => ?_) (fun hc2 => ?_)
  ·try simp only [qB] at hc2
   refine Zj (Zc (Zd (Zl (Za ?_))))
   refine Lo u36 (Zb (.inl rfl) rfl) ?_
   refine Lo u36 (Zb (.inl rfl) rfl) ?_
   refine Lo u36 (W18 rfl rfl rfl rfl rfl rfl rfl) ?_
   refine Lo u36 (YB (VVal.int .i64 (-1)) rfl rfl rfl rfl rfl rfl rfl XH0 (by first | exact has_len (s := (iniT rows.length k, 0#64)) (by rw [iniT_len (by omega)]; omega)) (by exact (ZR rfl).trans (congrArg (fun c => H ++ [VBlk.cells c true]) (splice_i (l := iniT rows.length k) (k := k) (r := -1) (by rw [iniT_len hk]; omega))))) ?_
   refine Ze (Zr (Zc (Za ?_)))
   refine Lo u36 (Zb (.inl rfl) rfl) ?_
   refine Lo u36 (W14 rfl rfl rfl) ?_
   refine Lo u36 (Zb (.inr rfl) rfl) ?_
   refine Ze ?_
   have hE : (iniT rows.length k).set (k : Int).toNat (-1) = iniT rows.length (k + 1) := iniT_set (by omega)
   refine Zt (mk 36 68719476710) (env' := u36) rfl ⟨k + 1, ?_, rfl, ?_⟩
   ·first | omega | (simp only []; omega)
   ·exact ⟨by omega, by rw [← hE]; rfl⟩
  ·try simp only [qB] at hc2
   refine ZG (ZH (Zx (ZF (Zc (Zd (Za ?_))))))
   refine Lo u36 (Zg (VVal.int .i64 0) (.inr rfl) rfl) ?_
   refine Ze (Zc (Zd (Zd (Za ?_))))
   refine Lo u36 (Zg (VVal.int .i64 0) (.inr rfl) rfl) ?_
   refine Ze (Zc (Zl ?_))
   refine Zz (mk 36 68719476630) (env' := u36) rfl ?_
   refine ZE (fun (k : Nat) => rows.length - k) (fun (k : Nat) => [(5, iI ((rsz rows k).2 : Nat)), (6, iI (k : Nat))]) (fun (k : Nat) G => (k ≤ rows.length) ∧ G = H ++ [haB (rsz rows k).1]) 0 rfl ?_ ?_
   ·refine ⟨?_, (by rw [show k = rows.length by omega, iniT_all]; rfl)⟩
    exact Nat.zero_le _
   rintro k _ ⟨hk, rfl⟩
   refine ZV (env' := u36) rfl ?_
   refine Zd (Zd (Za ?_))
   refine Lo u36 (Zb (.inl rfl) rfl) ?_
   refine Lo u36 (Zb (.inl rfl) rfl) ?_
   refine Lo u36 (rfl) ?_
   refine Lo u36 (rfl) ?_
   refine Ze (Zc ?_)
   refine Zk _ rfl (fun hc3 => ?_) (fun hc3 => ?_)
   ·try simp only [qB] at hc3
    refine Zj (Zc (Zd (Zl (Zd (Za ?_)))))
    refine Lo u36 (Z4 rfl rfl) ?_
    refine Lo u36 (YB (VVal.int .u64 0) rfl rfl rfl rfl rfl rfl rfl XH0 XH6 XH8) ?_
    refine Ze (Zc (Zd (Za ?_)))
    refine Lo u36 (Zb (.inl rfl) rfl) ?_
    refine Lo u36 (Zb (.inl rfl) rfl) ?_
    refine Lo u36 (Zb (.inl rfl) rfl) ?_
    refine Zy rfl rfl rfl (by exact turn_at H _ rows (rsz rows k).1 k (by omega) (rsz_len (by omega)) h62) ?_
    rintro _ _ ⟨rfl, rfl⟩
    refine Le u36 ?_
    refine Ze (Zc ?_)
    refine Zk _ rfl (fun hc4 => ?_) (fun hc4 => ?_)
    ·try simp only [qB] at hc4
     refine Za ?_
     refine Lo u36 (Zb (.inl rfl) rfl) ?_
     refine Lo u36 (W4w rfl rfl rfl) ?_
     refine Lo u36 (Zb (.inr rfl) rfl) ?_
     refine Ze (Zr (Zc (Za ?_)))
     refine Lo u36 (Zb (.inl rfl) rfl) ?_
     refine Lo u36 (W14 rfl rfl rfl) ?_
     refine Lo u36 (Zb (.inr rfl) rfl) ?_
     refine Ze ?_
     first
       | (have hE : (((rsz rows k).2 : Nat) : Int) + 1 = ((rsz rows (k + 1)).2 : Nat) := by rw [rsz, if_pos (by assumption)]; rfl); rw [hE]
       | (have hE : (rsz rows k).2 = (rsz rows (k + 1)).2 := by rw [rsz]; simp only; rw [if_neg (Yr (by assumption))]); rw [hE]
     refine K_loopG (mk 36 68719476630) (env' := u36) rfl (Gh.dropTo (L := [haB (rsz rows (k + 1)).1]) (X := [seB _]) 1 rfl (BaseOk.refl _) XH18 (by simp [haB_under])) ⟨k + 1, ?_, rfl, ?_⟩
     ·first | omega | (simp only []; omega)
     ·exact ⟨by omega, rfl⟩
    ·try simp only [qB] at hc4
     refine Zj (Zr (Zc (Za ?_)))
     refine Lo u36 (Zb (.inl rfl) rfl) ?_
     refine Lo u36 (W14 rfl rfl rfl) ?_
     refine Lo u36 (Zb (.inr rfl) rfl) ?_
     refine Ze ?_
     first
       | (have hE : (((rsz rows k).2 : Nat) : Int) + 1 = ((rsz rows (k + 1)).2 : Nat) := by rw [rsz, if_pos (by assumption)]; rfl); rw [hE]
       | (have hE : (rsz rows k).2 = (rsz rows (k + 1)).2 := by rw [rsz]; simp only; rw [if_neg (Yr (by assumption))]); rw [hE]
     refine K_loopG (mk 36 68719476630) (env' := u36) rfl (Gh.dropTo (L := [haB (rsz rows (k + 1)).1]) (X := [seB _]) 1 rfl (BaseOk.refl _) XH18 (by simp [haB_under])) ⟨k + 1, ?_, rfl, ?_⟩
     ·first | omega | (simp only []; omega)
     ·exact ⟨by omega, rfl⟩
   ·try simp only [qB] at hc3
    refine ZG (ZH (Zx (ZF (Zc (Zd (Za ?_))))))
    refine Lo u36 (Zb (.inl rfl) rfl) ?_
    refine Lo u36 (Zb (.inr rfl) rfl) ?_
    refine Ze (Zc (Zi ?_))
    refine W4s (.inr rfl) (Zh rfl rfl) ?_
    exact W4t
theorem refFull_spec {x : SW} (H : Zf) (rows : List (BitVec 64)) (h62 : rows.length ≤ 1000000) : F (psys x) 123 [fzW rows] H fun v G => v = .bool (decide (rows.length ≤ 12) && YR rows 0#64) ∧ G = H := by
 refine Zq Tryd.func123 rfl u13 rfl ?_
 refine Zd (Za ?_)
 refine Lo u13 (Zg (VVal.bool false) (.inr rfl) rfl) ?_
 refine Ze (Zc (Zd (Za ?_)))
 refine Lo u13 (Zb (.inl rfl) rfl) ?_
 refine Lo u13 (rfl) ?_
 refine Lo u13 (rfl) ?_
 refine Lo u13 (Zb (.inl rfl) rfl) ?_
 refine Zu 6 (env1 := u13) (env2 := u13) rfl rfl rfl (fun hg1 => ?_) (fun hg1 => ?_)
 ·try simp only [qB] at hg1
  refine Lo u13 (Zb (.inl rfl) rfl) ?_
  refine Zy rfl rfl rfl (by exact refSize_spec _ _ h62) ?_
  rintro _ _ ⟨rfl, rfl⟩
  refine Le u13 ?_
  refine Lo u13 (Zb (.inl rfl) rfl) ?_
  refine Lo u13 (rfl) ?_
  refine Lo u13 (rfl) ?_
  refine Lo u13 (ZM rfl rfl rfl) ?_
  refine Lo u13 (Zb (.inr rfl) rfl) ?_
  refine Ze (Zc (Zi ?_))
  refine W10 (.inr rfl) (Zh rfl rfl) ?_
  exact W4y
 ·try simp only [qB] at hg1
  refine Lf u13 ?_
  refine Lf u13 ?_
  refine Lf u13 ?_
  refine Lf u13 ?_
  refine Lf u13 ?_
  refine Lo u13 (ZA (VVal.bool false) rfl rfl rfl) ?_
  refine Lo u13 (Zb (.inr rfl) rfl) ?_
  refine Ze (Zc (Zi ?_))
  refine W10 (.inr rfl) (Zh rfl rfl) ?_
  exact W4y
abbrev u24 {a0 a1 a2 a3 a4 a5 a6 a7 a8 a9 a10 a11 a12 a13 a14 a15 a16 a17 a18 a19 a20 a21 a22 a23 : VVal} : VEnv := a0 :: a1 :: a2 :: a3 :: a4 :: a5 :: a6 :: a7 :: a8 :: a9 :: a10 :: a11 :: a12 :: a13 :: a14 :: a15 :: a16 :: a17 :: a18 :: a19 :: a20 :: a21 :: a22 :: a23 :: []
def gvT (rows : List (BitVec 64)) (t : BitVec 64) (i : Nat) : List (BitVec 64) := msk ((rows.take i).drop 1) t
theorem gvT_1 {rows : List (BitVec 64)} {t : BitVec 64} : gvT rows t 1 = [] := by
  unfold gvT
  cases rows <;> rfl
theorem gvT_succ {rows : List (BitVec 64)} {t : BitVec 64} {i : Nat} (h1 : 1 ≤ i) (h : i < rows.length) : gvT rows t (i + 1) = gvT rows t i ++ [rows.getD (i : Int).toNat 0 &&& ~~~t] := by
  unfold gvT msk
  rw [List.take_succ_eq_append_getElem h, List.drop_append_of_le_length XH34, List.map_append, Int.toNat_natCast, List.getD_eq_getElem?_getD, List.getElem?_eq_getElem h]; rfl
theorem gvT_all {rows : List (BitVec 64)} {t : BitVec 64} {i : Nat} (h : rows.length ≤ i) : gvT rows t i = msk (rows.drop 1) t := by
  unfold gvT; rw [List.take_of_length_le h]
theorem LV.appW {h : Nat} {X : Zf} {v : VVal} {l : List (BitVec 64)} {w : BitVec 64} {n : Nat} (r : LV h 1 X v (l.map iW ++ [iW w]) n) : LV h 1 X v ((l ++ [w]).map iW) n := by rw [List.map_append]; exact r
theorem given_spec {x : SW} (H : Zf) (rows : List (BitVec 64)) (u : Nat) (h62 : rows.length ≤ 1000000) : F (psys x) 124 [fzW rows, iI (u : Nat)] H fun v G => v = fzW (msk (rows.drop 1) (1#64 <<< u)) ∧ G = H := by
 refine Zq Tryd.func124 rfl u24 rfl ?_
 refine Zd (Za ?_)
 refine Lo u24 (Zg (VVal.slice none 0 0 true 0) (.inr rfl) rfl) ?_
 refine Ze (Zc (Zd (Za ?_)))
 refine Lo u24 (Zg (VVal.slice none 0 0 true 0) (.inr rfl) rfl) ?_
 refine Ze (Zc (Zd (Zd (Za ?_))))
 refine Lo u24 (Zg (VVal.int .i64 1) (.inr rfl) rfl) ?_
 refine Ze (Zc (Zl ?_))
 refine Zz (mk 24 16777116) (env' := u24) rfl ?_
 refine ZE (fun (⟨i, lv⟩ : Nat × VVal) => rows.length - i) (fun (⟨i, lv⟩ : Nat × VVal) => [(5, lv), (6, iI (i : Nat))]) (fun (⟨i, lv⟩ : Nat × VVal) G => (1 ≤ i ∧ (i ≤ rows.length ∨ i = 1)) ∧ ∃ X, G = H ++ X ∧ LV H.length 1 X lv ((gvT rows (1#64 <<< u) i).map iW) (i - 1)) ⟨1, _⟩ rfl ?_ ?_
 ·refine ⟨?_, ⟨_, rfl, by rw [gvT_1]; exact LV.nil _ _ _⟩⟩
  exact ⟨Nat.le_refl _, .inr rfl⟩
 rintro ⟨i, lv⟩ _ ⟨⟨hi1, hi2⟩, ⟨X, rfl, hl⟩⟩
 refine ZV (env' := u24) rfl ?_
 refine Zd (Zd (Za ?_))
 refine Lo u24 (Zb (.inl rfl) rfl) ?_
 refine Lo u24 (Zb (.inl rfl) rfl) ?_
 refine Lo u24 (rfl) ?_
 refine Lo u24 (rfl) ?_
 refine Ze (Zc ?_)
 refine Zk _ rfl (fun hc1 => ?_) (fun hc1 => ?_)
 ·try simp only [qB] at hc1
  refine Zj (Zc (Zd (Zl ?_)))
  refine ZU [0, 1, 2, 3, 4, 5, 6, 7, 8, 9, 10] #[0, 0, 0, 6, 14, 0, 32, 126, 254, 511, 1023] XH5 XH5 XH5 ?_
  refine Oo u24 .calm rfl (Zb (.inl rfl) rfl) ?_
  refine Oo u24 .calm rfl (Zb (.inl rfl) rfl) ?_
  refine Oo u24 .calm rfl (Zb (.inl rfl) rfl) ?_
  refine Oo u24 .calm rfl (W18 rfl rfl rfl rfl rfl rfl rfl) ?_
  refine Oo u24 .look rfl (W12 rfl rfl rfl rfl) ?_
  refine Oo u24 .calm rfl (Zb (.inl rfl) rfl) ?_
  refine Oo u24 .calm rfl (v_shl1 rfl rfl rfl XH1) ?_
  refine Oo u24 .calm rfl (v_andNotW rfl rfl rfl) ?_
  refine Oo u24 .grow rfl (ZI rfl rfl (by decide) rfl) ?_
  refine O_opX .turn rfl rfl rfl (v_appX rfl rfl rfl rfl rfl rfl rfl hl rfl rfl (by decide) (by show (i - 1 + 1) * 8 ≤ _ ∧ i - 1 + 1 ≤ _; omega) (by decide)) rfl rfl ?_
  rintro _ _ ⟨Y1, rfl, rfl, hY1, hY2, hY3⟩
  refine O_env (env' := u24) rfl ?_
  refine Oo u24 .calm rfl (Zb (.inr rfl) rfl) ?_
  refine Z3 [] XH5 (trivial) ?_
  refine Zr (Zc (Za ?_))
  refine Lo u24 (Zb (.inl rfl) rfl) ?_
  refine Lo u24 (W14 rfl rfl rfl) ?_
  refine Lo u24 (Zb (.inr rfl) rfl) ?_
  refine Ze ?_
  refine Zt (mk 24 16777116) (env' := u24) rfl ⟨⟨i + 1, _⟩, ?_, rfl, ?_⟩
  ·first | omega | (simp only []; omega)
  ·exact ⟨⟨by omega, .inl (by omega)⟩, _, rfl, by rw [gvT_succ hi1 (by omega), show i + 1 - 1 = i - 1 + 1 by omega]; exact LV.appW hY3⟩
 ·try simp only [qB] at hc1
  refine ZG (ZH (Zx (ZF (Zc (Zd (Za ?_))))))
  refine Lo u24 (Zb (.inl rfl) rfl) ?_
  refine Lo u24 (Zb (.inr rfl) rfl) ?_
  refine Ze (Zc (Zi ?_))
  refine E_gh (.inr rfl) (Zh rfl rfl) (Gh.ansLV (BaseOk.refl _) hl (Yt _ _)) ?_
  have hE := gvT_all (rows := rows) (t := 1#64 <<< u) (i := i) (by omega)
  have hlen : (gvT rows (1#64 <<< u) i).length = i - 1 := by unfold gvT; rw [Yk, List.length_drop, List.length_take]; omega
  refine ⟨?_, rfl⟩
  rw [← hE]
  show _ = VVal.fsl ((gvT rows (1#64 <<< u) i).map iW) (gvT rows (1#64 <<< u) i).length 1 false
  rw [hlen]
theorem refFull_12 {x : SW} (H : Zf) (rows : List (BitVec 64)) (h : rows.length ≤ 12) : F (psys x) 123 [fzW rows] H fun v G => v = .bool (YR rows 0#64) ∧ G = H := by
  have := refFull_spec (x := x) H rows (by omega)
  rw [decide_eq_true h, Bool.true_and] at this; exact this
namespace MM
def cnS (w : BitVec 64) (m : List (BitVec 64)) (u : Nat) : Nat := ((plTo w u).map fun v => cnT (msk m (1#64 <<< v)) 0#64).sum
theorem cnS_yes {w : BitVec 64} {m : List (BitVec 64)} {u : Nat} (h : w.getLsbD u = true) : cnS w m (u + 1) = cnS w m u + cnT (msk m (1#64 <<< u)) 0#64 := by
  unfold cnS; rw [plTo_yes h, List.map_append, List.sum_append]; simp
theorem cnS_no {w : BitVec 64} {m : List (BitVec 64)} {u : Nat} (h : w.getLsbD u = false) : cnS w m (u + 1) = cnS w m u := by unfold cnS; rw [plTo_no h]
theorem cnS_all {w : BitVec 64} {m : List (BitVec 64)} : cnS w m 64 = cnT (w :: m) 0#64 := by
  unfold cnS
  rw [plTo_all (Nat.le_refl _) (fun a h => BitVec.lt_of_getLsbD h), cnT]
  have e : w &&& ~~~0#64 = w := YA fun i hi => by rw [BitVec.getLsbD_and, BitVec.getLsbD_not, BitVec.getLsbD_zero, decide_eq_true hi]; simp
  rw [e]
  congr 1
  apply List.map_congr_left
  intro u _
  rw [cnT_msk]; congr 1; simp
theorem cnS_le {w : BitVec 64} {m : List (BitVec 64)} : ∀ {u k : Nat}, cnS w m u ≤ cnS w m (u + k)
  | u, 0 => Nat.le_refl _
  | u, k + 1 => by
    have := @cnS_le w m u k
    show cnS w m u ≤ cnS w m (u + k + 1)
    cases h : w.getLsbD (u + k) with
    | true => rw [cnS_yes h]; omega
    | false => rw [cnS_no h]; exact this
theorem wd_le_not {a b : BitVec 64} (h : (a.toNat : Int) ≤ (b.toNat : Int)) : ¬ b.toNat < a.toNat := by omega
theorem rCount_big {x : SW} (H : Zf) (rows : List (BitVec 64)) (most : BitVec 64) (hl : rows.length ≤ 1000000) (hb : ¬ rows.length ≤ 12) : F (psys x) 95 [fzW rows, iW most] H fun v G => v = iW (coV rows most) ∧ G = H := by
  refine Zq Tryd.func95 rfl u43 rfl ?_
  refine Zd (Za ?_)
  refine Zo (env' := u43) rfl rfl (Zg (VVal.int .u64 0) (.inr rfl) rfl) rfl ?_
  refine Ze (Zc (Zd (Zd (Za ?_))))
  refine Zo (env' := u43) rfl rfl (Zb (.inl rfl) rfl) rfl ?_
  refine Zo (env' := u43) rfl rfl (rfl) rfl ?_
  refine Zo (env' := u43) rfl rfl (Zb (.inl rfl) rfl) rfl ?_
  refine Zu 9 (env1 := u43) (env2 := u43) rfl rfl rfl (fun hg1 => ?_) (fun hg1 => ?_)
  · try simp only [decide_eq_true_eq, decide_eq_false_iff_not, Bool.not_eq_true', Bool.not_eq_false', bne_iff_ne, beq_iff_eq, Bool.and_eq_true, Bool.or_eq_true, Bool.not_eq_true, ge_iff_le, gt_iff_lt, Int.not_le, Int.not_lt, beq_eq_false_iff_ne, bne_eq_false_iff_eq, ne_eq, Decidable.not_not, ZK, ZT, ZS] at hg1
    refine Yw (env' := u43) rfl rfl ?_
    refine Yw (env' := u43) rfl rfl ?_
    refine Yw (env' := u43) rfl rfl ?_
    refine Zo (env' := u43) rfl rfl (ZB (VVal.bool true) rfl rfl rfl) rfl ?_
    refine Ze (Zc ?_)
    refine ZL rfl rfl ?_
    refine Zd (Za ?_)
    refine Zo (env' := u43) rfl rfl (Zg (VVal.int .u64 0) (.inr rfl) rfl) rfl ?_
    refine Ze (Zc (Zi (Zn ?_)))
    refine Yp (.inr rfl) (Zh rfl rfl) XH9 XH11 ?_
    exact ⟨by rw [coV, if_neg hb]; rfl, rfl⟩
  · try simp only [decide_eq_true_eq, decide_eq_false_iff_not, Bool.not_eq_true', Bool.not_eq_false', bne_iff_ne, beq_iff_eq, Bool.and_eq_true, Bool.or_eq_true, Bool.not_eq_true, ge_iff_le, gt_iff_lt, Int.not_le, Int.not_lt, beq_eq_false_iff_ne, bne_eq_false_iff_eq, ne_eq, Decidable.not_not, ZK, ZT, ZS] at hg1
    refine Zo (env' := u43) rfl rfl (Zb (.inl rfl) rfl) rfl ?_
    refine Zy rfl rfl rfl (by exact refFull_spec _ _ (by omega)) ?_
    rintro v _ ⟨hv, rfl⟩; obtain rfl : v = .bool false := hv.trans (by rw [decide_eq_false hb, Bool.false_and])
    refine L_env (env' := u43) rfl ?_
    refine Zo (env' := u43) rfl rfl (rfl) rfl ?_
    refine Zo (env' := u43) rfl rfl (ZW rfl rfl rfl) rfl ?_
    refine Ze (Zc ?_)
    refine ZL rfl rfl ?_
    refine Zd (Za ?_)
    refine Zo (env' := u43) rfl rfl (Zg (VVal.int .u64 0) (.inr rfl) rfl) rfl ?_
    refine Ze (Zc (Zi (Zn ?_)))
    refine Yp (.inr rfl) (Zh rfl rfl) XH9 XH11 ?_
    exact ⟨by rw [coV, if_neg hb]; rfl, rfl⟩
theorem rCount_0 {x : SW} (H : Zf) (most : BitVec 64) : F (psys x) 95 [fzW [], iW most] H fun v G => v = iW (coV [] most) ∧ G = H := by
  refine Zq Tryd.func95 rfl u43 rfl ?_
  refine Zd (Za ?_)
  refine Zo (env' := u43) rfl rfl (Zg (VVal.int .u64 0) (.inr rfl) rfl) rfl ?_
  refine Ze (Zc (Zd (Zd (Za ?_))))
  refine Zo (env' := u43) rfl rfl (Zb (.inl rfl) rfl) rfl ?_
  refine Zo (env' := u43) rfl rfl (rfl) rfl ?_
  refine Zo (env' := u43) rfl rfl (Zb (.inl rfl) rfl) rfl ?_
  refine Zu 9 (env1 := u43) (env2 := u43) rfl rfl rfl (fun hg1 => ?_) (fun hg1 => ?_)
  · try simp only [decide_eq_true_eq, decide_eq_false_iff_not, Bool.not_eq_true', Bool.not_eq_false', bne_iff_ne, beq_iff_eq, Bool.and_eq_true, Bool.or_eq_true, Bool.not_eq_true, ge_iff_le, gt_iff_lt, Int.not_le, Int.not_lt, beq_eq_false_iff_ne, bne_eq_false_iff_eq, ne_eq, Decidable.not_not, ZK, ZT, ZS] at hg1
    refine Yw (env' := u43) rfl rfl ?_
    refine Yw (env' := u43) rfl rfl ?_
    refine Yw (env' := u43) rfl rfl ?_
    refine Zo (env' := u43) rfl rfl (ZB (VVal.bool true) rfl rfl rfl) rfl ?_
    refine Ze (Zc ?_)
    refine ZL rfl rfl ?_
    refine Zd (Za ?_)
    refine Zo (env' := u43) rfl rfl (Zg (VVal.int .u64 0) (.inr rfl) rfl) rfl ?_
    refine Ze (Zc (Zi (Zn ?_)))
    refine Yp (.inr rfl) (Zh rfl rfl) XH9 XH11 ?_
    first
      | exact ⟨by rw [coV, if_pos (by decide), show most = 0#64 from by assumption, YY]; rfl, rfl⟩
      | exact ⟨by rw [coV, if_pos (by decide), show cnT [] 0#64 = 1 from rfl, satW_one (by assumption)]; rfl, rfl⟩
  · try simp only [decide_eq_true_eq, decide_eq_false_iff_not, Bool.not_eq_true', Bool.not_eq_false', bne_iff_ne, beq_iff_eq, Bool.and_eq_true, Bool.or_eq_true, Bool.not_eq_true, ge_iff_le, gt_iff_lt, Int.not_le, Int.not_lt, beq_eq_false_iff_ne, bne_eq_false_iff_eq, ne_eq, Decidable.not_not, ZK, ZT, ZS] at hg1
    refine Zo (env' := u43) rfl rfl (Zb (.inl rfl) rfl) rfl ?_
    refine Zy rfl rfl rfl (by exact refFull_12 _ [] (by decide)) ?_
    rintro v _ ⟨hv, rfl⟩; obtain rfl : v = .bool true := hv.trans (congrArg VVal.bool (full0.2 ⟨[], matU_nil.2 rfl⟩))
    refine L_env (env' := u43) rfl ?_
    refine Zo (env' := u43) rfl rfl (rfl) rfl ?_
    refine Zo (env' := u43) rfl rfl (ZW rfl rfl rfl) rfl ?_
    refine Ze (Zc ?_)
    refine Ye rfl rfl ?_
    refine Zj (Zc (Zd (Zd (Za ?_))))
    refine Zo (env' := u43) rfl rfl (Zb (.inl rfl) rfl) rfl ?_
    refine Zo (env' := u43) rfl rfl (rfl) rfl ?_
    refine Zo (env' := u43) rfl rfl (rfl) rfl ?_
    refine Ze (Zc ?_)
    refine ZL rfl rfl ?_
    refine Zd (Za ?_)
    refine Zo (env' := u43) rfl rfl (Zg (VVal.int .u64 1) (.inr rfl) rfl) rfl ?_
    refine Ze (Zc (Zi (Zn ?_)))
    refine Yp (.inr rfl) (Zh rfl rfl) XH9 XH11 ?_
    first
      | exact ⟨by rw [coV, if_pos (by decide), show most = 0#64 from by assumption, YY]; rfl, rfl⟩
      | exact ⟨by rw [coV, if_pos (by decide), show cnT [] 0#64 = 1 from rfl, satW_one (by assumption)]; rfl, rfl⟩
theorem rCount_s {x : SW} (H : Zf) (w : BitVec 64) (m : List (BitVec 64)) (h12 : (w :: m).length ≤ 12) (ih : ∀ (H : Zf) (r : List (BitVec 64)) (most : BitVec 64), r.length = m.length → F (psys x) 95 [fzW r, iW most] H fun v G => v = iW (ZP most (cnT r 0#64)) ∧ G = H) (most : BitVec 64) : F (psys x) 95 [fzW (w :: m), iW most] H fun v G => v = iW (ZP most (cnT (w :: m) 0#64)) ∧ G = H := by
  have hml : m.length + 1 ≤ 12 := h12
  refine Zq Tryd.func95 rfl u43 rfl ?_
  refine Zd (Za ?_)
  refine Zo (env' := u43) rfl rfl (Zg (VVal.int .u64 0) (.inr rfl) rfl) rfl ?_
  refine Ze (Zc (Zd (Zd (Za ?_))))
  refine Zo (env' := u43) rfl rfl (Zb (.inl rfl) rfl) rfl ?_
  refine Zo (env' := u43) rfl rfl (rfl) rfl ?_
  refine Zo (env' := u43) rfl rfl (Zb (.inl rfl) rfl) rfl ?_
  refine Zu 9 (env1 := u43) (env2 := u43) rfl rfl rfl (fun hg1 => ?_) (fun hg1 => ?_)
  · try simp only [decide_eq_true_eq, decide_eq_false_iff_not, Bool.not_eq_true', Bool.not_eq_false', bne_iff_ne, beq_iff_eq, Bool.and_eq_true, Bool.or_eq_true, Bool.not_eq_true, ge_iff_le, gt_iff_lt, Int.not_le, Int.not_lt, beq_eq_false_iff_ne, bne_eq_false_iff_eq, ne_eq, Decidable.not_not, ZK, ZT, ZS] at hg1
    refine Yw (env' := u43) rfl rfl ?_
    refine Yw (env' := u43) rfl rfl ?_
    refine Yw (env' := u43) rfl rfl ?_
    refine Zo (env' := u43) rfl rfl (ZB (VVal.bool true) rfl rfl rfl) rfl ?_
    refine Ze (Zc ?_)
    refine ZL rfl rfl ?_
    refine Zd (Za ?_)
    refine Zo (env' := u43) rfl rfl (Zg (VVal.int .u64 0) (.inr rfl) rfl) rfl ?_
    refine Ze (Zc (Zi (Zn ?_)))
    refine Yp (.inr rfl) (Zh rfl rfl) XH9 XH11 ?_
    first
      | exact ⟨by rw [show most = 0#64 from by assumption, YY]; rfl, rfl⟩
      | exact ⟨by rw [cnT_none (by assumption), satW_0]; rfl, rfl⟩
      | (have hf := satW_ge (wd_le_not (by assumption))); exact ⟨by rw [hf, ← cnS_all, satW_full hf XH24], rfl⟩
      | (obtain rfl : u = 64 := by omega); exact ⟨by rw [cnS_all], rfl⟩
  · try simp only [decide_eq_true_eq, decide_eq_false_iff_not, Bool.not_eq_true', Bool.not_eq_false', bne_iff_ne, beq_iff_eq, Bool.and_eq_true, Bool.or_eq_true, Bool.not_eq_true, ge_iff_le, gt_iff_lt, Int.not_le, Int.not_lt, beq_eq_false_iff_ne, bne_eq_false_iff_eq, ne_eq, Decidable.not_not, ZK, ZT, ZS] at hg1
    refine Zo (env' := u43) rfl rfl (Zb (.inl rfl) rfl) rfl ?_
    refine Zy rfl rfl rfl (by exact refFull_12 _ (w :: m) h12) ?_
    rintro _ _ ⟨rfl, rfl⟩
    refine L_env (env' := u43) rfl ?_
    refine Zo (env' := u43) rfl rfl (rfl) rfl ?_
    refine Zo (env' := u43) rfl rfl (ZW rfl rfl rfl) rfl ?_
    refine Ze (Zc ?_)
    refine Zk _ rfl (fun hc2 => ?_) (fun hc2 => ?_)
    · try simp only [decide_eq_true_eq, decide_eq_false_iff_not, Bool.not_eq_true', Bool.not_eq_false', bne_iff_ne, beq_iff_eq, Bool.and_eq_true, Bool.or_eq_true, Bool.not_eq_true, ge_iff_le, gt_iff_lt, Int.not_le, Int.not_lt, beq_eq_false_iff_ne, bne_eq_false_iff_eq, ne_eq, Decidable.not_not, ZK, ZT, ZS] at hc2
      refine Zd (Za ?_)
      refine Zo (env' := u43) rfl rfl (Zg (VVal.int .u64 0) (.inr rfl) rfl) rfl ?_
      refine Ze (Zc (Zi (Zn ?_)))
      refine Yp (.inr rfl) (Zh rfl rfl) XH9 XH11 ?_
      first
        | exact ⟨by rw [show most = 0#64 from by assumption, YY]; rfl, rfl⟩
        | exact ⟨by rw [cnT_none (by assumption), satW_0]; rfl, rfl⟩
        | (have hf := satW_ge (wd_le_not (by assumption))); exact ⟨by rw [hf, ← cnS_all, satW_full hf XH24], rfl⟩
        | (obtain rfl : u = 64 := by omega); exact ⟨by rw [cnS_all], rfl⟩
    · try simp only [decide_eq_true_eq, decide_eq_false_iff_not, Bool.not_eq_true', Bool.not_eq_false', bne_iff_ne, beq_iff_eq, Bool.and_eq_true, Bool.or_eq_true, Bool.not_eq_true, ge_iff_le, gt_iff_lt, Int.not_le, Int.not_lt, beq_eq_false_iff_ne, bne_eq_false_iff_eq, ne_eq, Decidable.not_not, ZK, ZT, ZS] at hc2
      refine Zj (Zc (Zd (Zd (Za ?_))))
      refine Zo (env' := u43) rfl rfl (Zb (.inl rfl) rfl) rfl ?_
      refine Zo (env' := u43) rfl rfl (rfl) rfl ?_
      refine Zo (env' := u43) rfl rfl (v_is false rfl (by rw [beq_eq_false_iff_ne]; show ¬ ((m.length + 1 : Nat) : Int) = 0; omega)) rfl ?_
      refine Ze (Zc ?_)
      refine Ye rfl rfl ?_
      refine Zj (Zc (Zd (Za ?_)))
      refine Zo (env' := u43) rfl rfl (Zg (VVal.int .u64 0) (.inr rfl) rfl) rfl ?_
      refine Ze (Zc (Zd (Zd (Za ?_))))
      refine Zo (env' := u43) rfl rfl (Zg (VVal.int .i64 0) (.inr rfl) rfl) rfl ?_
      refine Ze (Zc (Zl ?_))
      refine Zz [false,false,true,true,true,false,false,true,true,true,true,true,true,true,true,true,true,true,true,true,true,true,true,true,true,true,true,true,true,true,true,true,true,true,true,true,true,true,true,true,true,true,true] (env' := u43) rfl ?_
      refine ZE (fun (u : Nat) => 64 - u) (fun (u : Nat) => [(5, iW (ZP most (cnS w m u))), (6, iI (u : Nat))]) (fun (u : Nat) G => (u ≤ 64) ∧ G = H ++ []) 0 (by rw [show cnS w m 0 = 0 from rfl, satW_0]; rfl) ?_ ?_
      · refine ⟨?_, rfl⟩
        exact Nat.zero_le _
      rintro u _ ⟨hu, rfl⟩
      refine ZV (env' := u43) rfl ?_
      refine Zd (Zd (Za ?_))
      refine Zo (env' := u43) rfl rfl (Zb (.inl rfl) rfl) rfl ?_
      refine Zo (env' := u43) rfl rfl (rfl) rfl ?_
      refine Zo (env' := u43) rfl rfl (Zb (.inl rfl) rfl) rfl ?_
      refine Zu 19 (env1 := u43) (env2 := u43) rfl rfl rfl (fun hg3 => ?_) (fun hg3 => ?_)
      · try simp only [decide_eq_true_eq, decide_eq_false_iff_not, Bool.not_eq_true', Bool.not_eq_false', bne_iff_ne, beq_iff_eq, Bool.and_eq_true, Bool.or_eq_true, Bool.not_eq_true, ge_iff_le, gt_iff_lt, Int.not_le, Int.not_lt, beq_eq_false_iff_ne, bne_eq_false_iff_eq, ne_eq, Decidable.not_not, ZK, ZT, ZS] at hg3
        refine Zo (env' := u43) rfl rfl (Zb (.inl rfl) rfl) rfl ?_
        refine Zo (env' := u43) rfl rfl (Zb (.inl rfl) rfl) rfl ?_
        refine Zo (env' := u43) rfl rfl (rfl) rfl ?_
        refine Zo (env' := u43) rfl rfl (ZM rfl rfl rfl) rfl ?_
        refine Ze (Zc ?_)
        refine Zk _ rfl (fun hc4 => ?_) (fun hc4 => ?_)
        · try simp only [decide_eq_true_eq, decide_eq_false_iff_not, Bool.not_eq_true', Bool.not_eq_false', bne_iff_ne, beq_iff_eq, Bool.and_eq_true, Bool.or_eq_true, Bool.not_eq_true, ge_iff_le, gt_iff_lt, Int.not_le, Int.not_lt, beq_eq_false_iff_ne, bne_eq_false_iff_eq, ne_eq, Decidable.not_not, ZK, ZT, ZS] at hc4
          refine Zj (Zc (Zd (Zl (Zd (Za ?_)))))
          refine Zo (env' := u43) rfl rfl (Zb (.inl rfl) rfl) rfl ?_
          refine Zo (env' := u43) rfl rfl XH37 rfl ?_
          refine Zo (env' := u43) rfl rfl (by first | exact v_loadF rfl rfl rfl rfl (by first | rfl | exact fget (α := BitVec 64) (n := 0) 0 (by omega)) | exact v_load rfl rfl rfl rfl XH7 (by first | rfl | exact fget (α := BitVec 64) (n := 0) 0 (by omega))) rfl ?_
          refine Zo (env' := u43) rfl rfl (Zb (.inl rfl) rfl) rfl ?_
          refine Zo (env' := u43) rfl rfl (v_shrW rfl rfl rfl XH1) rfl ?_
          refine Zo (env' := u43) rfl rfl (v_andW (b := 1#64) rfl rfl rfl) rfl ?_
          refine Zo (env' := u43) rfl rfl (rfl) rfl ?_
          refine Ze (Zc ?_)
          refine Zk _ rfl (fun hc5 => ?_) (fun hc5 => ?_)
          · try simp only [decide_eq_true_eq, decide_eq_false_iff_not, Bool.not_eq_true', Bool.not_eq_false', bne_iff_ne, beq_iff_eq, Bool.and_eq_true, Bool.or_eq_true, Bool.not_eq_true, ge_iff_le, gt_iff_lt, Int.not_le, Int.not_lt, beq_eq_false_iff_ne, bne_eq_false_iff_eq, ne_eq, Decidable.not_not, ZK, ZT, ZS] at hc5
            refine Za ?_
            refine Zo (env' := u43) rfl rfl (Zb (.inl rfl) rfl) rfl ?_
            refine Zo (env' := u43) rfl rfl (Zb (.inl rfl) rfl) rfl ?_
            refine Zo (env' := u43) rfl rfl (Zb (.inl rfl) rfl) rfl ?_
            refine Zy rfl rfl rfl (by exact given_spec _ (w :: m) u (Nat.le_trans h12 (by decide))) ?_
            rintro _ _ ⟨rfl, rfl⟩
            refine L_env (env' := u43) rfl ?_
            refine Zo (env' := u43) rfl rfl (Zb (.inl rfl) rfl) rfl ?_
            refine Zo (env' := u43) rfl rfl (Zb (.inl rfl) rfl) rfl ?_
            refine Zo (env' := u43) rfl rfl (v_subW rfl rfl rfl) rfl ?_
            refine Zy rfl rfl rfl (by exact ih _ (msk m (1#64 <<< u)) _ Yk) ?_
            rintro _ _ ⟨rfl, rfl⟩
            refine L_env (env' := u43) rfl ?_
            refine Zo (env' := u43) rfl rfl (v_addW rfl rfl rfl) rfl ?_
            refine Zo (env' := u43) rfl rfl (Zb (.inr rfl) rfl) rfl ?_
            refine Ze (Zr (Zc (Za ?_)))
            refine Zo (env' := u43) rfl rfl (Zb (.inl rfl) rfl) rfl ?_
            refine Zo (env' := u43) rfl rfl (YE rfl rfl rfl XH1) rfl ?_
            refine Zo (env' := u43) rfl rfl (Zb (.inr rfl) rfl) rfl ?_
            refine Ze ?_
            first
              | (have hE : ZP most (cnS w m u) + ZP (most - ZP most (cnS w m u)) (cnT (msk m (1#64 <<< u)) 0#64) = ZP most (cnS w m (u + 1)) := by rw [satW_step, cnS_yes (sh1.1 (by assumption))]); rw [hE]
              | (have hE : ZP most (cnS w m u) = ZP most (cnS w m (u + 1)) := by rw [cnS_no (sh1n.1 (by assumption))]); rw [hE]
            refine Zt [false,false,true,true,true,false,false,true,true,true,true,true,true,true,true,true,true,true,true,true,true,true,true,true,true,true,true,true,true,true,true,true,true,true,true,true,true,true,true,true,true,true,true] (env' := u43) rfl ⟨u + 1, ?_, rfl, ?_⟩
            · first | omega | (simp only []; omega)
            · exact ⟨by omega, rfl⟩
          · try simp only [decide_eq_true_eq, decide_eq_false_iff_not, Bool.not_eq_true', Bool.not_eq_false', bne_iff_ne, beq_iff_eq, Bool.and_eq_true, Bool.or_eq_true, Bool.not_eq_true, ge_iff_le, gt_iff_lt, Int.not_le, Int.not_lt, beq_eq_false_iff_ne, bne_eq_false_iff_eq, ne_eq, Decidable.not_not, ZK, ZT, ZS] at hc5
            refine Zj (Zr (Zc (Za ?_)))
            refine Zo (env' := u43) rfl rfl (Zb (.inl rfl) rfl) rfl ?_
            refine Zo (env' := u43) rfl rfl (YE rfl rfl rfl XH1) rfl ?_
            refine Zo (env' := u43) rfl rfl (Zb (.inr rfl) rfl) rfl ?_
            refine Ze ?_
            first
              | (have hE : ZP most (cnS w m u) + ZP (most - ZP most (cnS w m u)) (cnT (msk m (1#64 <<< u)) 0#64) = ZP most (cnS w m (u + 1)) := by rw [satW_step, cnS_yes (sh1.1 (by assumption))]); rw [hE]
              | (have hE : ZP most (cnS w m u) = ZP most (cnS w m (u + 1)) := by rw [cnS_no (sh1n.1 (by assumption))]); rw [hE]
            refine Zt [false,false,true,true,true,false,false,true,true,true,true,true,true,true,true,true,true,true,true,true,true,true,true,true,true,true,true,true,true,true,true,true,true,true,true,true,true,true,true,true,true,true,true] (env' := u43) rfl ⟨u + 1, ?_, rfl, ?_⟩
            · first | omega | (simp only []; omega)
            · exact ⟨by omega, rfl⟩
        · try simp only [decide_eq_true_eq, decide_eq_false_iff_not, Bool.not_eq_true', Bool.not_eq_false', bne_iff_ne, beq_iff_eq, Bool.and_eq_true, Bool.or_eq_true, Bool.not_eq_true, ge_iff_le, gt_iff_lt, Int.not_le, Int.not_lt, beq_eq_false_iff_ne, bne_eq_false_iff_eq, ne_eq, Decidable.not_not, ZK, ZT, ZS] at hc4
          refine ZG (ZH (Zx (ZF (Zc (Zd (Za ?_))))))
          refine Zo (env' := u43) rfl rfl (Zb (.inl rfl) rfl) rfl ?_
          refine Zo (env' := u43) rfl rfl (Zb (.inr rfl) rfl) rfl ?_
          refine Ze (Zc (Zi ?_))
          refine Yp (.inr rfl) (Zh rfl rfl) XH9 XH11 ?_
          first
            | exact ⟨by rw [show most = 0#64 from by assumption, YY]; rfl, rfl⟩
            | exact ⟨by rw [cnT_none (by assumption), satW_0]; rfl, rfl⟩
            | (have hf := satW_ge (wd_le_not (by assumption))); exact ⟨by rw [hf, ← cnS_all, satW_full hf XH24], rfl⟩
            | (obtain rfl : u = 64 := by omega); exact ⟨by rw [cnS_all], rfl⟩
      · try simp only [decide_eq_true_eq, decide_eq_false_iff_not, Bool.not_eq_true', Bool.not_eq_false', bne_iff_ne, beq_iff_eq, Bool.and_eq_true, Bool.or_eq_true, Bool.not_eq_true, ge_iff_le, gt_iff_lt, Int.not_le, Int.not_lt, beq_eq_false_iff_ne, bne_eq_false_iff_eq, ne_eq, Decidable.not_not, ZK, ZT, ZS] at hg3
        refine Yw (env' := u43) rfl rfl ?_
        refine Yw (env' := u43) rfl rfl ?_
        refine Yw (env' := u43) rfl rfl ?_
        refine Zo (env' := u43) rfl rfl (ZA (VVal.bool false) rfl rfl rfl) rfl ?_
        refine Ze (Zc ?_)
        refine Ye rfl rfl ?_
        refine ZG (ZH (Zx (ZF (Zc (Zd (Za ?_))))))
        refine Zo (env' := u43) rfl rfl (Zb (.inl rfl) rfl) rfl ?_
        refine Zo (env' := u43) rfl rfl (Zb (.inr rfl) rfl) rfl ?_
        refine Ze (Zc (Zi ?_))
        refine Yp (.inr rfl) (Zh rfl rfl) XH9 XH11 ?_
        first
          | exact ⟨by rw [show most = 0#64 from by assumption, YY]; rfl, rfl⟩
          | exact ⟨by rw [cnT_none (by assumption), satW_0]; rfl, rfl⟩
          | (have hf := satW_ge (wd_le_not (by assumption))); exact ⟨by rw [hf, ← cnS_all, satW_full hf XH24], rfl⟩
          | (obtain rfl : u = 64 := by omega); exact ⟨by rw [cnS_all], rfl⟩
theorem rCount_all {x : SW} : ∀ (n : Nat) (H : Zf) (r : List (BitVec 64)) (most : BitVec 64), r.length = n → n ≤ 12 → F (psys x) 95 [fzW r, iW most] H fun v G => v = iW (ZP most (cnT r 0#64)) ∧ G = H
  | 0, H, r, most, h, _ => by
    obtain rfl : r = [] := List.eq_nil_of_length_eq_zero h
    exact rCount_0 H most
  | n + 1, H, [], most, h, _ => by simp at h
  | n + 1, H, w :: m, most, h, h12 => rCount_s H w m (by rw [h]; exact h12) (fun H r most hr => rCount_all n H r most (hr.trans (by simpa using h)) (by omega)) most
theorem rCount_spec {x : SW} (H : Zf) (rows : List (BitVec 64)) (most : BitVec 64) (hl : rows.length ≤ 1000000) : F (psys x) 95 [fzW rows, iW most] H fun v G => v = iW (coV rows most) ∧ G = H := by
  by_cases h : rows.length ≤ 12
  · have := rCount_all (x := x) rows.length H rows most rfl h
    unfold coV; rw [if_pos h]; exact this
  · exact rCount_big H rows most hl h
end MM
open Go Go.V Go.RowKit
abbrev u38 {a0 a1 a2 a3 a4 a5 a6 a7 a8 a9 a10 a11 a12 a13 a14 a15 a16 a17 a18 a19 a20 a21 a22 a23 a24 a25 a26 a27 a28 a29 a30 a31 a32 a33 a34 a35 a36 a37 : VVal} : VEnv := a0 :: a1 :: a2 :: a3 :: a4 :: a5 :: a6 :: a7 :: a8 :: a9 :: a10 :: a11 :: a12 :: a13 :: a14 :: a15 :: a16 :: a17 :: a18 :: a19 :: a20 :: a21 :: a22 :: a23 :: a24 :: a25 :: a26 :: a27 :: a28 :: a29 :: a30 :: a31 :: a32 :: a33 :: a34 :: a35 :: a36 :: a37 :: []
abbrev u39 {a0 a1 a2 a3 a4 a5 a6 a7 a8 a9 a10 a11 a12 a13 a14 a15 a16 a17 a18 a19 a20 a21 a22 a23 a24 a25 a26 a27 a28 a29 a30 a31 a32 a33 a34 a35 a36 a37 a38 : VVal} : VEnv := a0 :: a1 :: a2 :: a3 :: a4 :: a5 :: a6 :: a7 :: a8 :: a9 :: a10 :: a11 :: a12 :: a13 :: a14 :: a15 :: a16 :: a17 :: a18 :: a19 :: a20 :: a21 :: a22 :: a23 :: a24 :: a25 :: a26 :: a27 :: a28 :: a29 :: a30 :: a31 :: a32 :: a33 :: a34 :: a35 :: a36 :: a37 :: a38 :: []
theorem W55 {P : Prop} (h : P := by first | exact ⟨by rw [myB_f g hi (by assumption), beq_d], rfl⟩ | exact ⟨by rw [myB_w g hi (by omega), decide_eq_false (by omega)]; rfl, rfl⟩ | exact ⟨by rw [myB_w g hi (by omega), decide_eq_true (by omega), Bool.true_and]; exact congrArg VVal.bool bit_eq, rfl⟩) : P := h
theorem W56 {P : Prop} (h : P := by first | exact ⟨rfl, rfl⟩ | (exfalso; omega)) : P := h
theorem W57 {T : TypeId → Option VTy} {H : Zf} {op : Op} {ρ : Operand → VVal} {t : TypeId} {a : Operand} {y : VTy} {p v : VVal} (ho : op = .load t a) (ha : ρ a = p) (hy : T t = some y) (hd : Zp y.desc = false) (h : LdOk H p v := by exact XH51) : vop T ρ H op = some (v, H) := v_ld ho ha hy hd h
theorem May_spec {x : SW} (H : Zf) (p : Pb) (g : Go.V.Good p) (i : Nat) (hi : i < p.who.length) (u : Int) : F (psys x) 43 [.agg (pbB p), iI (i : Nat), iI u] H fun v G => v = .bool (myB p i u) ∧ G = H := by
 have g5 := g.fx
 refine Zq Tryd.func43 rfl u39 rfl ?_
 refine Zd (Za ?_)
 refine Lo u39 (ZQ rfl rfl rfl) ?_
 refine Lo u39 (Zg (VVal.bool false) (.inr rfl) rfl) ?_
 refine Ze (Zc (Zd (Zd (Za ?_))))
 refine Lo u39 (rfl) ?_
 refine Lo u39 (W2r rfl rfl rfl rfl) ?_
 refine Lo u39 (Zb (.inl rfl) rfl) ?_
 refine Lo u39 (W18 rfl rfl rfl rfl rfl rfl rfl) ?_
 refine Lo u39 (W2r rfl rfl rfl rfl) ?_
 refine Lo u39 (rfl) ?_
 refine Ze (Zc ?_)
 refine Zk _ rfl (fun hc1 => ?_) (fun hc1 => ?_)
 ·try simp only [qB, qN] at hc1
  refine Zd (Za ?_)
  refine Lo u39 (Zb (.inl rfl) rfl) ?_
  refine Lo u39 (rfl) ?_
  refine Lo u39 (W2r rfl rfl rfl rfl) ?_
  refine Lo u39 (Zb (.inl rfl) rfl) ?_
  refine Lo u39 (W18 rfl rfl rfl rfl rfl rfl rfl) ?_
  refine Lo u39 (W2r rfl rfl rfl rfl) ?_
  refine Lo u39 (rfl) ?_
  refine Lo u39 (Zb (.inr rfl) rfl) ?_
  refine Ze (Zc (Zi (Zn ?_)))
  refine W10 (.inr rfl) (Zh rfl rfl) ?_
  exact W55
 ·try simp only [qB, qN] at hc1
  refine Zj (Zc (Zd (Za ?_)))
  refine Lo u39 (Zb (.inl rfl) rfl) ?_
  refine Lo u39 (rfl) ?_
  refine Lo u39 (Zb (.inl rfl) rfl) ?_
  refine Zu 22 (env1 := u39) (env2 := u39) rfl rfl rfl (fun hg2 => ?_) (fun hg2 => ?_)
  ·try simp only [qB, qN] at hg2
   refine Lo u39 (Zb (.inl rfl) rfl) ?_
   refine Lo u39 (rfl) ?_
   refine Lo u39 (W2r rfl rfl rfl rfl) ?_
   refine Lo u39 (rfl) ?_
   refine Lo u39 (ZM rfl rfl rfl) ?_
   refine Lo u39 (Zb (.inl rfl) rfl) ?_
   refine Zu 28 (env1 := u39) (env2 := u39) rfl rfl rfl (fun hg3 => ?_) (fun hg3 => ?_)
   ·try simp only [qB, qN] at hg3
    refine Lo u39 (rfl) ?_
    refine Lo u39 (W2r rfl rfl rfl rfl) ?_
    refine Lo u39 (Zb (.inl rfl) rfl) ?_
    refine Lo u39 (W18 rfl rfl rfl rfl rfl rfl rfl) ?_
    refine Lo u39 (W2r rfl rfl rfl rfl) ?_
    refine Lo u39 (Zb (.inl rfl) rfl) ?_
    refine Lo u39 (v_shrW rfl rfl rfl XH1) ?_
    refine Lo u39 (v_andW (b := 1#64) rfl rfl rfl) ?_
    refine Lo u39 (rfl) ?_
    refine Lo u39 (ZM rfl rfl rfl) ?_
    refine Lo u39 (Zb (.inr rfl) rfl) ?_
    refine Ze (Zc (Zi ?_))
    refine W10 (.inr rfl) (Zh rfl rfl) ?_
    exact W55
   ·try simp only [qB, qN] at hg3
    refine Lf u39 ?_
    refine Lf u39 ?_
    refine Lf u39 ?_
    refine Lf u39 ?_
    refine Lf u39 ?_
    refine Lf u39 ?_
    refine Lf u39 ?_
    refine Lf u39 ?_
    refine Lf u39 ?_
    refine Lo u39 (ZA (VVal.bool false) rfl rfl rfl) ?_
    refine Lo u39 (Zb (.inr rfl) rfl) ?_
    refine Ze (Zc (Zi ?_))
    refine W10 (.inr rfl) (Zh rfl rfl) ?_
    exact W55
  ·try simp only [qB, qN] at hg2
   refine Lf u39 ?_
   refine Lf u39 ?_
   refine Lf u39 ?_
   refine Lf u39 ?_
   refine Lo u39 (ZA (VVal.bool false) rfl rfl rfl) ?_
   refine Lo u39 (Zb (.inl rfl) rfl) ?_
   refine Lf u39 ?_
   refine Lf u39 ?_
   refine Lf u39 ?_
   refine Lf u39 ?_
   refine Lf u39 ?_
   refine Lf u39 ?_
   refine Lf u39 ?_
   refine Lf u39 ?_
   refine Lf u39 ?_
   refine Lo u39 (ZA (VVal.bool false) rfl rfl rfl) ?_
   refine Lo u39 (Zb (.inr rfl) rfl) ?_
   refine Ze (Zc (Zi ?_))
   refine W10 (.inr rfl) (Zh rfl rfl) ?_
   exact W55
theorem szP_succ {a : List Nat} {k : Nat} : szP a (k + 1) = if a.getD k 0 = szP a k then szP a k + 1 else szP a k := rfl
theorem Legal_spec {x : SW} (H : Zf) (a : List Nat) (ha : Pat a) (hl : a.length ≤ 12) : F (psys x) 126 [fzN a] H fun v G => v = .bool true ∧ G = H := by
 refine Zq Tryd.func126 rfl u38 rfl ?_
 refine Zd (Za ?_)
 refine Lo u38 (Zg (VVal.bool false) (.inr rfl) rfl) ?_
 refine Ze (Zc (Zd (Zd (Za ?_))))
 refine Lo u38 (Zb (.inl rfl) rfl) ?_
 refine Lo u38 (rfl) ?_
 refine Lo u38 (rfl) ?_
 refine Ze (Zc ?_)
 refine Zk _ rfl (fun hc1 => ?_) (fun hc1 => ?_)
 ·try simp only [qB, qN] at hc1
  refine Zd (Za ?_)
  refine Lo u38 (Zg (VVal.bool false) (.inr rfl) rfl) ?_
  refine Ze (Zc (Zi (Zn ?_)))
  refine W10 (.inr rfl) (Zh rfl rfl) ?_
  exact W56
 ·try simp only [qB, qN] at hc1
  refine Zj (Zc (Zd (Za ?_)))
  refine Lo u38 (Zg (VVal.int .i64 (-1)) (.inr rfl) rfl) ?_
  refine Ze (Zc (Zd (Zd (Za ?_))))
  refine Lo u38 (Zg (VVal.int .i64 0) (.inr rfl) rfl) ?_
  refine Ze (Zc (Zl ?_))
  refine Zz (mk 38 274877906918) (env' := u38) rfl ?_
  refine ZE (fun (k : Nat) => a.length - k) (fun (k : Nat) => [(3, iI (((szP a k : Nat) : Int) - 1)), (4, iI (k : Nat))]) (fun (k : Nat) G => (k ≤ a.length) ∧ G = H ++ []) 0 rfl ?_ ?_
  ·refine ⟨?_, rfl⟩
   exact Nat.zero_le _
  rintro k _ ⟨hk, rfl⟩
  refine ZV (env' := u38) rfl ?_
  refine Zd (Zd (Za ?_))
  refine Lo u38 (Zb (.inl rfl) rfl) ?_
  refine Lo u38 (Zb (.inl rfl) rfl) ?_
  refine Lo u38 (rfl) ?_
  refine Lo u38 (rfl) ?_
  refine Ze (Zc ?_)
  refine Zk _ rfl (fun hc2 => ?_) (fun hc2 => ?_)
  ·try simp only [qB, qN] at hc2
   refine Zj (Zc (Zd (Zl (Zd (Zd ?_)))))
   have hpk := ha k (by omega)
   have hz := @szP_le a k
   refine Za ?_
   refine Lo u38 (Zb (.inl rfl) rfl) ?_
   refine Lo u38 (Zb (.inl rfl) rfl) ?_
   refine Lo u38 (W18 rfl rfl rfl rfl rfl rfl rfl) ?_
   refine Lo u38 (W57 rfl rfl rfl rfl) ?_
   refine Lo u38 (rfl) ?_
   refine Lo u38 (Zb (.inl rfl) rfl) ?_
   refine Zu 19 (env1 := u38) (env2 := u38) rfl rfl rfl (fun hg3 => ?_) (fun hg3 => ?_)
   ·try simp only [qB, qN] at hg3
    refine Lf u38 ?_
    refine Lf u38 ?_
    refine Lf u38 ?_
    refine Lf u38 ?_
    refine Lf u38 ?_
    refine Lf u38 ?_
    refine Lf u38 ?_
    refine Lo u38 (ZB (VVal.bool true) rfl rfl rfl) ?_
    refine Ze (Zc ?_)
    refine ZL rfl rfl ?_
    refine Zd (Za ?_)
    refine Lo u38 (Zg (VVal.bool false) (.inr rfl) rfl) ?_
    refine Ze (Zc (Zi (Zn (ZD (Zn (Yd (ZD (Zn ?_))))))))
    refine W10 (.inr rfl) (Zh rfl rfl) ?_
    exact W56
   ·try simp only [qB, qN] at hg3
    refine Lo u38 (Zb (.inl rfl) rfl) ?_
    refine Lo u38 (Zb (.inl rfl) rfl) ?_
    refine Lo u38 (W18 rfl rfl rfl rfl rfl rfl rfl) ?_
    refine Lo u38 (W57 rfl rfl rfl rfl) ?_
    refine Lo u38 (Zb (.inl rfl) rfl) ?_
    refine Lo u38 (W14 rfl rfl rfl) ?_
    refine Lo u38 (rfl) ?_
    refine Lo u38 (ZW rfl rfl rfl) ?_
    refine Ze (Zc ?_)
    refine Zk _ rfl (fun hc4 => ?_) (fun hc4 => ?_)
    ·try simp only [qB, qN] at hc4
     refine Zd (Za ?_)
     refine Lo u38 (Zg (VVal.bool false) (.inr rfl) rfl) ?_
     refine Ze (Zc (Zi (Zn (ZD (Zn (Yd (ZD (Zn ?_))))))))
     refine W10 (.inr rfl) (Zh rfl rfl) ?_
     exact W56
    ·try simp only [qB, qN] at hc4
     refine Zj (Zc (Zd (Za ?_)))
     refine Lo u38 (Zb (.inl rfl) rfl) ?_
     refine Lo u38 (Zb (.inl rfl) rfl) ?_
     refine Lo u38 (W18 rfl rfl rfl rfl rfl rfl rfl) ?_
     refine Lo u38 (W57 rfl rfl rfl rfl) ?_
     refine Lo u38 (Zb (.inl rfl) rfl) ?_
     refine Lo u38 (rfl) ?_
     refine Ze (Zc ?_)
     refine Zk _ rfl (fun hc5 => ?_) (fun hc5 => ?_)
     ·try simp only [qB, qN] at hc5
      refine Za ?_
      refine Lo u38 (Zb (.inl rfl) rfl) ?_
      refine Lo u38 (Zb (.inl rfl) rfl) ?_
      refine Lo u38 (W18 rfl rfl rfl rfl rfl rfl rfl) ?_
      refine Lo u38 (W57 rfl rfl rfl rfl) ?_
      refine Lo u38 (Zb (.inr rfl) rfl) ?_
      refine Ze (Zr (Zc (Za ?_)))
      refine Lo u38 (Zb (.inl rfl) rfl) ?_
      refine Lo u38 (W14 rfl rfl rfl) ?_
      refine Lo u38 (Zb (.inr rfl) rfl) ?_
      refine Ze ?_
      first
        | (have hE : ((a.getD k 0 : Nat) : Int) = ((szP a (k + 1) : Nat) : Int) - 1 := by rw [szP_succ, if_pos (by omega)]; omega); rw [hE]
        | (have hE : szP a k = szP a (k + 1) := by rw [szP_succ, if_neg (by omega)]); rw [hE]
      refine Zt (mk 38 274877906918) (env' := u38) rfl ⟨k + 1, ?_, rfl, ?_⟩
      ·first | omega | (simp only []; omega)
      ·exact ⟨by omega, rfl⟩
     ·try simp only [qB, qN] at hc5
      refine Zj (Zr (Zc (Za ?_)))
      refine Lo u38 (Zb (.inl rfl) rfl) ?_
      refine Lo u38 (W14 rfl rfl rfl) ?_
      refine Lo u38 (Zb (.inr rfl) rfl) ?_
      refine Ze ?_
      first
        | (have hE : ((a.getD k 0 : Nat) : Int) = ((szP a (k + 1) : Nat) : Int) - 1 := by rw [szP_succ, if_pos (by omega)]; omega); rw [hE]
        | (have hE : szP a k = szP a (k + 1) := by rw [szP_succ, if_neg (by omega)]); rw [hE]
      refine Zt (mk 38 274877906918) (env' := u38) rfl ⟨k + 1, ?_, rfl, ?_⟩
      ·first | omega | (simp only []; omega)
      ·exact ⟨by omega, rfl⟩
  ·try simp only [qB, qN] at hc2
   refine ZG (ZH (Zx (ZF (Zc (Zd (Za ?_))))))
   refine Lo u38 (Zg (VVal.bool true) (.inr rfl) rfl) ?_
   refine Ze (Zc (Zi ?_))
   refine W10 (.inr rfl) (Zh rfl rfl) ?_
   exact W56
theorem top_spec {x : SW} (H : Zf) (a : List Nat) (ha : Pat a) (hl : a.length ≤ 12) : F (psys x) 127 [fzN a] H fun v G => v = iI (((szP a a.length : Nat) : Int) - 1) ∧ G = H := by
 refine Zq Tryd.func127 rfl u22 rfl ?_
 refine Zd (Za ?_)
 refine Lo u22 (Zg (VVal.int .i64 0) (.inr rfl) rfl) ?_
 refine Ze (Zc (Zd (Za ?_)))
 refine Lo u22 (Zg (VVal.int .i64 (-1)) (.inr rfl) rfl) ?_
 refine Ze (Zc (Zd (Zd (Za ?_))))
 refine Lo u22 (Zg (VVal.int .i64 0) (.inr rfl) rfl) ?_
 refine Ze (Zc (Zl ?_))
 refine Zz (mk 22 4194278) (env' := u22) rfl ?_
 refine ZE (fun (k : Nat) => a.length - k) (fun (k : Nat) => [(3, iI (((szP a k : Nat) : Int) - 1)), (4, iI (k : Nat))]) (fun (k : Nat) G => (k ≤ a.length) ∧ G = H ++ []) 0 rfl ?_ ?_
 ·refine ⟨?_, rfl⟩
  exact Nat.zero_le _
 rintro k _ ⟨hk, rfl⟩
 refine ZV (env' := u22) rfl ?_
 refine Zd (Zd (Za ?_))
 refine Lo u22 (Zb (.inl rfl) rfl) ?_
 refine Lo u22 (Zb (.inl rfl) rfl) ?_
 refine Lo u22 (rfl) ?_
 refine Lo u22 (rfl) ?_
 refine Ze (Zc ?_)
 refine Zk _ rfl (fun hc1 => ?_) (fun hc1 => ?_)
 ·try simp only [qB, qN] at hc1
  refine Zj (Zc (Zd (Zl (Zd ?_))))
  have hpk := ha k (by omega)
  have hz := @szP_le a k
  refine Za ?_
  refine Lo u22 (Zb (.inl rfl) rfl) ?_
  refine Lo u22 (Zb (.inl rfl) rfl) ?_
  refine Lo u22 (W18 rfl rfl rfl rfl rfl rfl rfl) ?_
  refine Lo u22 (W57 rfl rfl rfl rfl) ?_
  refine Lo u22 (Zb (.inl rfl) rfl) ?_
  refine Lo u22 (rfl) ?_
  refine Ze (Zc ?_)
  refine Zk _ rfl (fun hc2 => ?_) (fun hc2 => ?_)
  ·try simp only [qB, qN] at hc2
   refine Za ?_
   refine Lo u22 (Zb (.inl rfl) rfl) ?_
   refine Lo u22 (Zb (.inl rfl) rfl) ?_
   refine Lo u22 (W18 rfl rfl rfl rfl rfl rfl rfl) ?_
   refine Lo u22 (W57 rfl rfl rfl rfl) ?_
   refine Lo u22 (Zb (.inr rfl) rfl) ?_
   refine Ze (Zr (Zc (Za ?_)))
   refine Lo u22 (Zb (.inl rfl) rfl) ?_
   refine Lo u22 (W14 rfl rfl rfl) ?_
   refine Lo u22 (Zb (.inr rfl) rfl) ?_
   refine Ze ?_
   first
     | (have hE : ((a.getD k 0 : Nat) : Int) = ((szP a (k + 1) : Nat) : Int) - 1 := by rw [szP_succ, if_pos (by omega)]; omega); rw [hE]
     | (have hE : szP a k = szP a (k + 1) := by rw [szP_succ, if_neg (by omega)]); rw [hE]
   refine Zt (mk 22 4194278) (env' := u22) rfl ⟨k + 1, ?_, rfl, ?_⟩
   ·first | omega | (simp only []; omega)
   ·exact ⟨by omega, rfl⟩
  ·try simp only [qB, qN] at hc2
   refine Zj (Zr (Zc (Za ?_)))
   refine Lo u22 (Zb (.inl rfl) rfl) ?_
   refine Lo u22 (W14 rfl rfl rfl) ?_
   refine Lo u22 (Zb (.inr rfl) rfl) ?_
   refine Ze ?_
   first
     | (have hE : ((a.getD k 0 : Nat) : Int) = ((szP a (k + 1) : Nat) : Int) - 1 := by rw [szP_succ, if_pos (by omega)]; omega); rw [hE]
     | (have hE : szP a k = szP a (k + 1) := by rw [szP_succ, if_neg (by omega)]); rw [hE]
   refine Zt (mk 22 4194278) (env' := u22) rfl ⟨k + 1, ?_, rfl, ?_⟩
   ·first | omega | (simp only []; omega)
   ·exact ⟨by omega, rfl⟩
 ·try simp only [qB, qN] at hc1
  refine ZG (ZH (Zx (ZF (Zc (Zd (Za ?_))))))
  refine Lo u22 (Zb (.inl rfl) rfl) ?_
  refine Lo u22 (Zb (.inr rfl) rfl) ?_
  refine Ze (Zc (Zi ?_))
  refine W10 (.inr rfl) (Zh rfl rfl) ?_
  obtain rfl : k = a.length := by omega
  exact ⟨rfl, rfl⟩
theorem Size_spec {x : SW} (H : Zf) (a : List Nat) (ha : Pat a) (hl : a.length ≤ 12) : F (psys x) 97 [fzN a] H fun v G => v = iI (szP a a.length : Nat) ∧ G = H := by
 have hz := @szP_le a a.length
 refine Zq Tryd.func97 rfl u9 rfl ?_
 refine Zd (Za ?_)
 refine Lo u9 (Zg (VVal.int .i64 0) (.inr rfl) rfl) ?_
 refine Ze (Zc (Zd (Zd (Za ?_))))
 refine Lo u9 (Zb (.inl rfl) rfl) ?_
 refine Zy rfl rfl rfl (by exact Legal_spec _ _ ha hl) ?_
 rintro _ _ ⟨rfl, rfl⟩
 refine Le u9 ?_
 refine Lo u9 (rfl) ?_
 refine Ze (Zc ?_)
 refine Ye rfl rfl ?_
 refine Zj (Zc (Zd (Za ?_)))
 refine Lo u9 (Zb (.inl rfl) rfl) ?_
 refine Zy rfl rfl rfl (by exact top_spec _ _ ha hl) ?_
 rintro _ _ ⟨rfl, rfl⟩
 refine Le u9 ?_
 refine Lo u9 (v_val (YE rfl rfl rfl (by omega)) (show iI ((((szP a a.length : Nat) : Int) - 1) + 1) = iI (szP a a.length : Nat) by congr 1; omega)) ?_
 refine Lo u9 (Zb (.inr rfl) rfl) ?_
 refine Ze (Zc (Zi ?_))
 refine W10 (.inr rfl) (Zh rfl rfl) ?_
 exact ⟨rfl, rfl⟩
def bkK (a : List Nat) (b k : Nat) : List Nat := (List.range k).filter fun i => a.getD i 0 == b
abbrev bkL (a : List Nat) (b : Nat) : List Nat := bkK a b a.length
theorem bkK_yes {a : List Nat} {b k : Nat} (h : a.getD k 0 = b) : bkK a b (k + 1) = bkK a b k ++ [k] := by
  unfold bkK; rw [List.range_succ, List.filter_append, List.filter_cons, if_pos (by rw [h]; exact beq_self_eq_true b)]; rfl
theorem bkK_no {a : List Nat} {b k : Nat} (h : ¬ a.getD k 0 = b) : bkK a b (k + 1) = bkK a b k := by
  unfold bkK; rw [List.range_succ, List.filter_append, List.filter_cons, if_neg (by simpa using h)]; simp
theorem bkK_len {a : List Nat} {b k : Nat} : (bkK a b k).length ≤ k := by
  unfold bkK; exact Nat.le_trans (List.length_filter_le _ _) (by simp)
theorem bkL_mem {a : List Nat} {b i : Nat} : i ∈ bkL a b ↔ i < a.length ∧ a.getD i 0 = b := by
  unfold bkL bkK; rw [List.mem_filter, List.mem_range, beq_iff_eq]
abbrev bkC (a : List Nat) (b : Nat) : List VVal := (List.range b).map fun c => fzN (bkL a c)
theorem bkC_succ {a : List Nat} {b : Nat} : bkC a (b + 1) = bkC a b ++ [fzN (bkL a b)] := by
  show (List.range (b + 1)).map _ = _; rw [List.range_succ, List.map_append]; rfl
theorem bkC_get {a : List Nat} {b i : Nat} (h : i < b) : (bkC a b)[((i : Nat) : Int).toNat * 1]? = some (fzN (bkL a i)) := by
  rw [Int.toNat_natCast, Nat.mul_one]; simp [h]
theorem LV.pushN {h : Nat} {X : Zf} {v : VVal} {l : List Nat} {w : Nat} (r : LV h 1 X v (rcN l ++ [iI (w : Nat)]) (l.length + 1)) : LV h 1 X v (rcN (l ++ [w])) (l ++ [w]).length := by rw [rcN_snoc, List.length_append]; exact r
theorem Blocks_spec {x : SW} (H : Zf) (a : List Nat) (ha : Pat a) (hl : a.length ≤ 12) : F (psys x) 125 [fzN a] H fun v G => v = .fsl (bkC a (szP a a.length)) (szP a a.length) 1 false ∧ G = H := by
 have hz := @szP_le a a.length
 refine Zq Tryd.func125 rfl u38 rfl ?_
 refine Zd (Za ?_)
 refine Lo u38 (Zg (VVal.slice none 0 0 true 0) (.inr rfl) rfl) ?_
 refine Ze (Zc (Zd (Za ?_)))
 refine Lo u38 (Zg (VVal.slice none 0 0 true 0) (.inr rfl) rfl) ?_
 refine Ze (Zc (Zd (Zd (Za ?_))))
 refine Lo u38 (Zb (.inl rfl) rfl) ?_
 refine Zy rfl rfl rfl (by exact Legal_spec _ _ ha hl) ?_
 rintro _ _ ⟨rfl, rfl⟩
 refine Le u38 ?_
 refine Lo u38 (rfl) ?_
 refine Ze (Zc ?_)
 refine Ye rfl rfl ?_
 refine Zj (Zc (Zd (Zd (Za ?_))))
 refine Lo u38 (Zg (VVal.int .i64 0) (.inr rfl) rfl) ?_
 refine Ze (Zc (Zl ?_))
 refine Zz (mk 38 274877906918) (env' := u38) rfl ?_
 refine ZE (fun (⟨b, lv⟩ : Nat × VVal) => szP a a.length - b) (fun (⟨b, lv⟩ : Nat × VVal) => [(3, lv), (4, iI (b : Nat))]) (fun (⟨b, lv⟩ : Nat × VVal) G => (b ≤ szP a a.length) ∧ ∃ X, G = H ++ X ∧ LV H.length 1 X lv (bkC a b) b) ⟨0, _⟩ rfl ?_ ?_
 ·refine ⟨?_, ⟨_, rfl, LV.nil _ _ _⟩⟩
  exact Nat.zero_le _
 rintro ⟨b, lv⟩ _ ⟨hb, ⟨X, rfl, hlv⟩⟩
 refine ZV (env' := u38) rfl ?_
 refine Zd (Zd (Za ?_))
 refine Lo u38 (Zb (.inl rfl) rfl) ?_
 refine Lo u38 (Zb (.inl rfl) rfl) ?_
 refine Zy rfl rfl rfl (by exact top_spec _ _ ha hl) ?_
 rintro _ _ ⟨rfl, rfl⟩
 refine Le u38 ?_
 refine Lo u38 (rfl) ?_
 refine Ze (Zc ?_)
 refine Zk _ rfl (fun hc1 => ?_) (fun hc1 => ?_)
 ·try simp only [qB, qN] at hc1
  refine Zj (Zc (Zd (Zl (Zd (Za ?_)))))
  refine Lo u38 (Zg (VVal.slice none 0 0 true 0) (.inr rfl) rfl) ?_
  refine Ze (Zc (Zd (Zd (Za ?_))))
  refine Lo u38 (Zg (VVal.int .i64 0) (.inr rfl) rfl) ?_
  refine Ze (Zc (Zl ?_))
  refine Zz (mk 38 274877906822) (env' := u38) rfl ?_
  refine ZE (fun (⟨k, ov⟩ : Nat × VVal) => a.length - k) (fun (⟨k, ov⟩ : Nat × VVal) => [(5, ov), (6, iI (k : Nat))]) (fun (⟨k, ov⟩ : Nat × VVal) G => (k ≤ a.length) ∧ ∃ X, G = H ++ X ∧ LV H.length 1 X lv (bkC a b) b ∧ LV H.length 1 X ov (rcN (bkK a b k)) (bkK a b k).length ∧ Dj lv ov) ⟨0, _⟩ rfl ?_ ?_
  ·refine ⟨?_, ⟨X, rfl, hlv, LV.nil _ _ _, Dj.nil _⟩⟩
   exact Nat.zero_le _
  rintro ⟨k, ov⟩ _ ⟨hk, ⟨X, rfl, hlv, hov, hd⟩⟩
  refine ZV (env' := u38) rfl ?_
  refine Zd (Zd (Za ?_))
  refine Lo u38 (Zb (.inl rfl) rfl) ?_
  refine Lo u38 (Zb (.inl rfl) rfl) ?_
  refine Lo u38 (rfl) ?_
  refine Lo u38 (rfl) ?_
  refine Ze (Zc ?_)
  refine Zk _ rfl (fun hc2 => ?_) (fun hc2 => ?_)
  ·try simp only [qB, qN] at hc2
   refine Zj (Zc (Zd (Zl (Zd (Za ?_)))))
   refine Lo u38 (Zb (.inl rfl) rfl) ?_
   refine Lo u38 (Zb (.inl rfl) rfl) ?_
   refine Lo u38 (W18 rfl rfl rfl rfl rfl rfl rfl) ?_
   refine Lo u38 (W57 rfl rfl rfl rfl) ?_
   refine Lo u38 (Zb (.inl rfl) rfl) ?_
   refine Lo u38 (rfl) ?_
   refine Ze (Zc ?_)
   refine Zk _ rfl (fun hc3 => ?_) (fun hc3 => ?_)
   ·try simp only [qB, qN] at hc3
    refine Za ?_
    refine Lo u38 (Zb (.inl rfl) rfl) ?_
    refine Lo u38 (Zb (.inl rfl) rfl) ?_
    refine Lo u38 (ZI rfl rfl (by decide) rfl) ?_
    refine L_opX rfl rfl (v_appX rfl rfl rfl rfl rfl rfl rfl hov rfl rfl (by decide) (by have := @bkK_len a b k; show (_ + 1) * 8 ≤ _ ∧ _ + 1 ≤ _; omega) (by decide)) ?_
    rintro _ _ ⟨Y1, rfl, rfl, hY1, hY2, hY3⟩
    refine Le u38 ?_
    refine Lo u38 (Zb (.inr rfl) rfl) ?_
    refine Ze (Zr (Zc (Za ?_)))
    refine Lo u38 (Zb (.inl rfl) rfl) ?_
    refine Lo u38 (W14 rfl rfl rfl) ?_
    refine Lo u38 (Zb (.inr rfl) rfl) ?_
    refine Ze ?_
    refine Zt (mk 38 274877906822) (env' := u38) rfl ⟨⟨k + 1, _⟩, ?_, rfl, ?_⟩
    ·first | omega | (simp only []; omega)
    ·first | exact ⟨by omega, _, rfl, LV.keepN hY3 hlv hd hY2, by rw [bkK_yes (by omega)]; exact LV.pushN hY3, LV.djN hY3 hlv⟩ | exact ⟨by omega, _, rfl, hlv, by rw [bkK_no (by omega)]; exact hov, hd⟩
   ·try simp only [qB, qN] at hc3
    refine Zj (Zr (Zc (Za ?_)))
    refine Lo u38 (Zb (.inl rfl) rfl) ?_
    refine Lo u38 (W14 rfl rfl rfl) ?_
    refine Lo u38 (Zb (.inr rfl) rfl) ?_
    refine Ze ?_
    refine Zt (mk 38 274877906822) (env' := u38) rfl ⟨⟨k + 1, _⟩, ?_, rfl, ?_⟩
    ·first | omega | (simp only []; omega)
    ·first | exact ⟨by omega, _, rfl, LV.keepN hY3 hlv hd hY2, by rw [bkK_yes (by omega)]; exact LV.pushN hY3, LV.djN hY3 hlv⟩ | exact ⟨by omega, _, rfl, hlv, by rw [bkK_no (by omega)]; exact hov, hd⟩
  ·try simp only [qB, qN] at hc2
   refine ZG (ZH (Zx (ZF (Zc ?_))))
   obtain rfl : k = a.length := by omega
   refine B_ghLV (env' := u38) 5 hov rfl rfl fun X4 hX4 hF4 => ?_
   have hlv := LV.keep hlv hd hF4
   refine Za ?_
   refine Lo u38 (Zb (.inl rfl) rfl) ?_
   refine Lo u38 (Zb (.inl rfl) rfl) ?_
   refine Lo u38 (ZI rfl rfl (by decide) rfl) ?_
   refine L_opX rfl rfl (v_appX rfl rfl rfl rfl rfl rfl rfl hlv rfl rfl (by decide) (by show (b + 1) * 24 ≤ _ ∧ b + 1 ≤ _; omega) (by decide)) ?_
   rintro _ _ ⟨Y1, rfl, rfl, hY1, hY2, hY3⟩
   refine Le u38 ?_
   refine Lo u38 (Zb (.inr rfl) rfl) ?_
   refine Ze (Zr (Zc (Za ?_)))
   refine Lo u38 (Zb (.inl rfl) rfl) ?_
   refine Lo u38 (W14 rfl rfl rfl) ?_
   refine Lo u38 (Zb (.inr rfl) rfl) ?_
   refine Ze ?_
   refine Zt (mk 38 274877906918) (env' := u38) rfl ⟨⟨b + 1, _⟩, ?_, rfl, ?_⟩
   ·first | omega | (simp only []; omega)
   ·exact ⟨by omega, _, rfl, by rw [bkC_succ]; exact hY3⟩
 ·try simp only [qB, qN] at hc1
  refine ZG (ZH (Zx (ZF (Zc (Zd (Za ?_))))))
  refine Lo u38 (Zb (.inl rfl) rfl) ?_
  refine Lo u38 (Zb (.inr rfl) rfl) ?_
  refine Ze (Zc (Zi ?_))
  refine E_gh (.inr rfl) (Zh rfl rfl) (Gh.ansLV (BaseOk.refl _) hlv (VVal.underL_map (f := fun c => fzN (bkL a c)) fun c => mapN_under _ _)) ?_
  obtain rfl : b = szP a a.length := by omega
  exact ⟨rfl, rfl⟩
abbrev u58 {a0 a1 a2 a3 a4 a5 a6 a7 a8 a9 a10 a11 a12 a13 a14 a15 a16 a17 a18 a19 a20 a21 a22 a23 a24 a25 a26 a27 a28 a29 a30 a31 a32 a33 a34 a35 a36 a37 a38 a39 a40 a41 a42 a43 a44 a45 a46 a47 a48 a49 a50 a51 a52 a53 a54 a55 a56 a57 : VVal} : VEnv := a0 :: a1 :: a2 :: a3 :: a4 :: a5 :: a6 :: a7 :: a8 :: a9 :: a10 :: a11 :: a12 :: a13 :: a14 :: a15 :: a16 :: a17 :: a18 :: a19 :: a20 :: a21 :: a22 :: a23 :: a24 :: a25 :: a26 :: a27 :: a28 :: a29 :: a30 :: a31 :: a32 :: a33 :: a34 :: a35 :: a36 :: a37 :: a38 :: a39 :: a40 :: a41 :: a42 :: a43 :: a44 :: a45 :: a46 :: a47 :: a48 :: a49 :: a50 :: a51 :: a52 :: a53 :: a54 :: a55 :: a56 :: a57 :: []
theorem W59 {T : TypeId → Option VTy} {H : Zf} {op : Op} {ρ : Operand → VVal} {t : TypeId} {a : Operand} {y : VTy} {p v : VVal} (ho : op = .load t a) (ha : ρ a = p) (hy : T t = some y) (hd : Zp y.desc = false) (h : LdOk H p v := by exact XH50) : vop T ρ H op = some (v, H) := v_ld ho ha hy hd h
theorem W5b {T : TypeId → Option VTy} {H : Zf} {op : Op} {ρ : Operand → VVal} {t : TypeId} {a : Operand} {y : VTy} {p : VVal} {n : Nat} {vs : List VVal} (ho : op = .load t a) (ha : ρ a = p) (hy : T t = some y) (hd : Zp y.desc = true) (hn : y.size = n) (h : LdOkA H p n vs := by exact XH50) : vop T ρ H op = some (.agg vs, H) := v_ldA ho ha hy hd hn h
theorem myB_lt {p : Pb} {i u : Nat} (g : Go.V.Good p) (hi : i < p.who.length) (h : (wrd p i).getLsbD u = true) : u < p.users.toNat := by
  have h1 : myB p i (u : Nat) = true := myB_nat.2 h
  have g4 := g.u0
  by_cases hf : 0 ≤ p.fixed.getD i 0
  · rw [myB_f g hi hf, decide_eq_true_eq] at h1
    have := (okW_in g hi).1; omega
  · rw [myB_w g hi (by omega), Bool.and_eq_true, decide_eq_true_eq] at h1; omega
abbrev rwP (p : Pb) (a : List Nat) (i : Nat) : Nat → Bool := fun u => (bkL a i).all fun j => myB p j (u : Nat)
theorem row_is {p : Pb} {a : List Nat} {i : Nat} (g : Go.V.Good p) (ha : Pat a) (hl : a.length = p.who.length) (hi : i < szP a a.length) : wdP (rwP p a i) p.users.toNat = (Yh (wsP p) a a.length).getD i 0 := by
  refine YA fun v hv => ?_
  rw [wdP_bit hv, Bool.eq_iff_iff, Bool.and_eq_true, decide_eq_true_eq, blk_bit ha hi, List.all_eq_true]
  constructor
  · rintro ⟨_, h⟩ j hj e
    have := h j (bkL_mem.2 ⟨hj, e⟩)
    rw [myB_nat] at this
    rw [wsP_get (by omega)]; exact this
  · intro h
    refine ⟨?_, fun j hj => ?_⟩
    · obtain ⟨j, hj, e⟩ := pat_onto ha hi
      have := h j hj e
      rw [wsP_get (by omega)] at this
      exact myB_lt g (by omega) this
    · obtain ⟨h1, h2⟩ := bkL_mem.1 hj
      have := h j h1 h2
      rw [wsP_get (by omega)] at this
      exact myB_nat.2 this
theorem allN_step {l : List Nat} {k : Nat} {f : Nat → Bool} (h : k < l.length) : (l.take (k + 1)).all f = ((l.take k).all f && f (l.getD k 0)) := by
  rw [Yl (d := 0) h, List.all_append, List.all_cons, List.all_nil, Bool.and_true]
theorem bkL_at {a : List Nat} {b k : Nat} (h : k < (bkL a b).length) : (bkL a b).getD k 0 < a.length := by
  have : (bkL a b).getD k 0 ∈ bkL a b := by rw [List.getD_eq_getElem?_getD, List.getElem?_eq_getElem h]; simp
  exact (bkL_mem.1 this).1
theorem Rows_spec {x : SW} (H : Zf) (p : Pb) (g : Go.V.Good p) (a : List Nat) (ha : Pat a) (hl : a.length = p.who.length) : F (psys x) 96 [.agg (pbB p), fzN a] H fun v G => v = fzW (Yh (wsP p) a a.length) ∧ G = H := by
 have g1 := g.n12; have g2 := g.u64; have g4 := g.u0
 have hz := @szP_le a a.length
 have hbl := @YD (wsP p) a a.length
 refine Zq Tryd.func96 rfl u58 rfl ?_
 refine Zd (Za ?_)
 refine Lo u58 (ZQ rfl rfl rfl) ?_
 refine Lo u58 (Zg (VVal.slice none 0 0 true 0) (.inr rfl) rfl) ?_
 refine Ze (Zc (Zd ?_))
 refine B_gh (Gh.freezePtrL (cs := pbB p) 2 0 rfl rfl rfl) ?_
 refine Za ?_
 refine Lo u58 (Zg (VVal.slice none 0 0 true 0) (.inr rfl) rfl) ?_
 refine Ze (Zc (Zd (Za ?_)))
 refine Lo u58 (Zb (.inl rfl) rfl) ?_
 refine Zy rfl rfl rfl (by exact Blocks_spec _ a ha (by omega)) ?_
 rintro _ _ ⟨rfl, rfl⟩
 refine Le u58 ?_
 refine Lo u58 (Zb (.inr rfl) rfl) ?_
 refine Ze (Zc (Zd (Zd (Za ?_))))
 refine Lo u58 (Zg (VVal.int .i64 0) (.inr rfl) rfl) ?_
 refine Ze (Zc (Zl ?_))
 refine Zz (mk 58 288230376151711515) (env' := u58) rfl ?_
 refine ZE (fun (⟨i, lv⟩ : Nat × VVal) => szP a a.length - i) (fun (⟨i, lv⟩ : Nat × VVal) => [(5, lv), (7, iI (i : Nat))]) (fun (⟨i, lv⟩ : Nat × VVal) G => (i ≤ szP a a.length) ∧ ∃ X, G = H ++ X ∧ LV H.length 1 X lv (((Yh (wsP p) a a.length).take i).map iW) ((Yh (wsP p) a a.length).take i).length) ⟨0, _⟩ rfl ?_ ?_
 ·refine ⟨?_, ⟨_, rfl, LV.nil _ _ _⟩⟩
  exact Nat.zero_le _
 rintro ⟨i, lv⟩ _ ⟨hi, ⟨X, rfl, hlv⟩⟩
 refine ZV (env' := u58) rfl ?_
 refine Zd (Zd (Za ?_))
 refine Lo u58 (Zb (.inl rfl) rfl) ?_
 refine Lo u58 (Zb (.inl rfl) rfl) ?_
 refine Lo u58 (rfl) ?_
 refine Lo u58 (rfl) ?_
 refine Ze (Zc ?_)
 refine Zk _ rfl (fun hc1 => ?_) (fun hc1 => ?_)
 ·try simp only [qB, qN] at hc1
  refine Zj (Zc (Zd (Zl (Zd (Za ?_)))))
  refine Lo u58 (Zg (VVal.int .u64 0) (.inr rfl) rfl) ?_
  refine Ze (Zc (Zd (Zd (Za ?_))))
  refine Lo u58 (Zg (VVal.int .i64 0) (.inr rfl) rfl) ?_
  refine Ze (Zc (Zl ?_))
  refine Zz (mk 58 288230376151710747) (env' := u58) rfl ?_
  refine ZE (fun (u : Nat) => p.users.toNat - u) (fun (u : Nat) => [(8, iW (wdP (rwP p a i) u)), (9, iI (u : Nat))]) (fun (u : Nat) G => (u ≤ p.users.toNat) ∧ G = H ++ X) 0 (by rw [show wdP (rwP p a i) 0 = 0#64 from wdP_0 _]; rfl) ?_ ?_
  ·refine ⟨?_, rfl⟩
   exact Nat.zero_le _
  rintro u _ ⟨hu, rfl⟩
  refine ZV (env' := u58) rfl ?_
  refine Zd (Zd (Za ?_))
  refine Lo u58 (Zb (.inl rfl) rfl) ?_
  refine Lo u58 (rfl) ?_
  refine Lo u58 (W59 rfl rfl rfl rfl) ?_
  refine Lo u58 (rfl) ?_
  refine Ze (Zc ?_)
  refine Zk _ rfl (fun hc2 => ?_) (fun hc2 => ?_)
  ·try simp only [qB, qN] at hc2
   refine Zj (Zc (Zd (Zl (Zd (Za ?_)))))
   refine Lo u58 (Zg (VVal.bool true) (.inr rfl) rfl) ?_
   refine Ze (Zc (Zd (Zd (Za ?_))))
   refine Lo u58 (Zg (VVal.int .i64 0) (.inr rfl) rfl) ?_
   refine Ze (Zc (Zl ?_))
   refine Zz (mk 58 288230376151707675) (env' := u58) rfl ?_
   refine ZE (fun (⟨k, okb⟩ : Nat × Bool) => (bkL a i).length - k) (fun (⟨k, okb⟩ : Nat × Bool) => [(10, .bool okb), (11, iI (k : Nat))]) (fun (⟨k, okb⟩ : Nat × Bool) G => (k ≤ (bkL a i).length ∧ okb = ((bkL a i).take k).all fun j => myB p j (u : Nat)) ∧ G = H ++ X) ⟨0, true⟩ rfl ?_ ?_
   ·refine ⟨?_, rfl⟩
    exact ⟨Nat.zero_le _, rfl⟩
   rintro ⟨k, okb⟩ _ ⟨⟨hk, hok⟩, rfl⟩
   refine ZV (env' := u58) rfl ?_
   refine Zd (Zd ?_)
   have hbk : (bkL a i).length ≤ a.length := bkK_len
   refine Za ?_
   refine Lo u58 (Zb (.inl rfl) rfl) ?_
   refine Lo u58 (Zb (.inl rfl) rfl) ?_
   refine Lo u58 (Zb (.inl rfl) rfl) ?_
   refine Lo u58 (W18 rfl rfl rfl rfl rfl rfl rfl) ?_
   refine Lo u58 (W59 rfl rfl rfl rfl) ?_
   refine Lo u58 (rfl) ?_
   refine Lo u58 (rfl) ?_
   refine Ze (Zc ?_)
   refine Zk _ rfl (fun hc3 => ?_) (fun hc3 => ?_)
   ·try simp only [qB, qN] at hc3
    refine Zj (Zc (Zd (Zl ?_)))
    refine ZU [0, 1, 2, 3, 4, 5, 6, 7, 8, 9, 10, 11, 12, 13] #[0, 1, 3, 3, 3, 27, 59, 3, 251, 507, 3, 2047, 4095, 8191] XH5 XH5 XH5 ?_
    refine Oo u58 .calm rfl (Zb (.inl rfl) rfl) ?_
    refine Oo u58 .calm rfl (Zb (.inl rfl) rfl) ?_
    refine O_split 36 (env1 := u58) (env2 := u58) rfl rfl rfl (fun hg4 => ?_) (fun hg4 => ?_)
    ·try simp only [qB, qN] at hg4
     refine Oo u58 .look rfl (W5b rfl rfl rfl rfl rfl) ?_
     refine Oo u58 .calm rfl (Zb (.inl rfl) rfl) ?_
     refine Oo u58 .calm rfl (Zb (.inl rfl) rfl) ?_
     refine Oo u58 .calm rfl (W18 rfl rfl rfl rfl rfl rfl rfl) ?_
     refine Oo u58 .look rfl (W59 rfl rfl rfl rfl) ?_
     refine Oo u58 .calm rfl (Zb (.inl rfl) rfl) ?_
     refine Oo u58 .calm rfl (W18 rfl rfl rfl rfl rfl rfl rfl) ?_
     refine Oo u58 .look rfl (W59 rfl rfl rfl rfl) ?_
     refine Oo u58 .calm rfl (Zb (.inl rfl) rfl) ?_
     refine Z8 (env' := u58) rfl rfl rfl rfl rfl (by exact May_spec _ p g ((bkL a i).getD k 0) (by have := bkL_at (a := a) (b := i) (k := k) (by omega); omega) (u : Nat)) XH10 rfl rfl ?_
     refine Oo u58 .calm rfl (ZM rfl rfl rfl) ?_
     refine Oo u58 .calm rfl (Zb (.inr rfl) rfl) ?_
     refine Z3 [] XH5 (trivial) ?_
     refine Zr (Zc (Za ?_))
     refine Lo u58 (Zb (.inl rfl) rfl) ?_
     refine Lo u58 (W14 rfl rfl rfl) ?_
     refine Lo u58 (Zb (.inr rfl) rfl) ?_
     refine Ze ?_
     refine Zt (mk 58 288230376151707675) (env' := u58) rfl ⟨⟨k + 1, _⟩, ?_, rfl, ?_⟩
     ·first | omega | (simp only []; omega)
     ·first | exact ⟨⟨by omega, by rw [allN_step (by omega), ← hok, (show okb = true by assumption), Bool.true_and]⟩, rfl⟩ | exact ⟨⟨by omega, by rw [allN_step (by omega), ← hok, (show okb = false by simp_all), Bool.false_and]⟩, rfl⟩
    ·try simp only [qB, qN] at hg4
     refine Of u58 rfl ?_
     refine Of u58 rfl ?_
     refine Of u58 rfl ?_
     refine Of u58 rfl ?_
     refine Of u58 rfl ?_
     refine Of u58 rfl ?_
     refine Of u58 rfl ?_
     refine Of u58 rfl ?_
     refine Of u58 rfl ?_
     refine Of u58 rfl ?_
     refine Oo u58 .calm rfl (ZA (VVal.bool false) rfl rfl rfl) ?_
     refine Oo u58 .calm rfl (Zb (.inr rfl) rfl) ?_
     refine Z3 [] XH5 (trivial) ?_
     refine Zr (Zc (Za ?_))
     refine Lo u58 (Zb (.inl rfl) rfl) ?_
     refine Lo u58 (W14 rfl rfl rfl) ?_
     refine Lo u58 (Zb (.inr rfl) rfl) ?_
     refine Ze ?_
     refine Zt (mk 58 288230376151707675) (env' := u58) rfl ⟨⟨k + 1, _⟩, ?_, rfl, ?_⟩
     ·first | omega | (simp only []; omega)
     ·first | exact ⟨⟨by omega, by rw [allN_step (by omega), ← hok, (show okb = true by assumption), Bool.true_and]⟩, rfl⟩ | exact ⟨⟨by omega, by rw [allN_step (by omega), ← hok, (show okb = false by simp_all), Bool.false_and]⟩, rfl⟩
   ·try simp only [qB, qN] at hc3
    refine ZG (ZH (Zx (ZF (Zc (Zd (Za ?_))))))
    refine Lo u58 (Zb (.inl rfl) rfl) ?_
    refine Ze (Zc ?_)
    refine Zk _ rfl (fun hc5 => ?_) (fun hc5 => ?_)
    ·try simp only [qB, qN] at hc5
     refine Za ?_
     refine Lo u58 (Zb (.inl rfl) rfl) ?_
     refine Lo u58 (Zb (.inl rfl) rfl) ?_
     refine Lo u58 (v_shl1 rfl rfl rfl XH1) ?_
     refine Lo u58 (v_orW rfl rfl rfl) ?_
     refine Lo u58 (Zb (.inr rfl) rfl) ?_
     refine Ze (Zr (Zc (Za ?_)))
     refine Lo u58 (Zb (.inl rfl) rfl) ?_
     refine Lo u58 (W14 rfl rfl rfl) ?_
     refine Lo u58 (Zb (.inr rfl) rfl) ?_
     refine Ze ?_
     obtain rfl : k = (bkL a i).length := by omega
     rw [List.take_length] at hok
     first
       | (have hE : (wdP (rwP p a i) u) ||| 1#64 <<< (u : Int).toNat = wdP (rwP p a i) (u + 1) := wdP_yes (hok.symm.trans (by assumption))); rw [hE]
       | (have hE : (wdP (rwP p a i) u) = wdP (rwP p a i) (u + 1) := wdP_no (hok.symm.trans (by assumption))); rw [hE]
     refine Zt (mk 58 288230376151710747) (env' := u58) rfl ⟨u + 1, ?_, rfl, ?_⟩
     ·first | omega | (simp only []; omega)
     ·exact ⟨by omega, rfl⟩
    ·try simp only [qB, qN] at hc5
     refine Zj (Zr (Zc (Za ?_)))
     refine Lo u58 (Zb (.inl rfl) rfl) ?_
     refine Lo u58 (W14 rfl rfl rfl) ?_
     refine Lo u58 (Zb (.inr rfl) rfl) ?_
     refine Ze ?_
     obtain rfl : k = (bkL a i).length := by omega
     rw [List.take_length] at hok
     first
       | (have hE : (wdP (rwP p a i) u) ||| 1#64 <<< (u : Int).toNat = wdP (rwP p a i) (u + 1) := wdP_yes (hok.symm.trans (by assumption))); rw [hE]
       | (have hE : (wdP (rwP p a i) u) = wdP (rwP p a i) (u + 1) := wdP_no (hok.symm.trans (by assumption))); rw [hE]
     refine Zt (mk 58 288230376151710747) (env' := u58) rfl ⟨u + 1, ?_, rfl, ?_⟩
     ·first | omega | (simp only []; omega)
     ·exact ⟨by omega, rfl⟩
  ·try simp only [qB, qN] at hc2
   refine ZG (ZH (Zx (ZF (Zc ?_))))
   obtain rfl : u = p.users.toNat := by omega
   rw [row_is g ha hl (by omega)]
   refine Za ?_
   refine Lo u58 (Zb (.inl rfl) rfl) ?_
   refine Lo u58 (Zb (.inl rfl) rfl) ?_
   refine Lo u58 (ZI rfl rfl (by decide) rfl) ?_
   refine L_opX rfl rfl (v_appX rfl rfl rfl rfl rfl rfl rfl hlv rfl rfl (by decide) XH25 (by decide)) ?_
   rintro _ _ ⟨Y1, rfl, rfl, hY1, hY2, hY3⟩
   refine Le u58 ?_
   refine Lo u58 (Zb (.inr rfl) rfl) ?_
   refine Ze (Zr (Zc (Za ?_)))
   refine Lo u58 (Zb (.inl rfl) rfl) ?_
   refine Lo u58 (W14 rfl rfl rfl) ?_
   refine Lo u58 (Zb (.inr rfl) rfl) ?_
   refine Ze ?_
   refine Zt (mk 58 288230376151711515) (env' := u58) rfl ⟨⟨i + 1, _⟩, ?_, rfl, ?_⟩
   ·first | omega | (simp only []; omega)
   ·exact ⟨by omega, _, rfl, by rw [Yl (d := 0) (by omega)]; exact LV.pushW hY3⟩
 ·try simp only [qB, qN] at hc1
  refine ZG (ZH (Zx (ZF (Zc (Zd (Za ?_))))))
  refine Lo u58 (Zb (.inl rfl) rfl) ?_
  refine Lo u58 (Zb (.inr rfl) rfl) ?_
  refine Ze (Zc (Zi ?_))
  refine E_gh (.inr rfl) (Zh rfl rfl) (Gh.ansLV (BaseOk.refl _) hlv (Yt _ _)) ?_
  rw [List.take_of_length_le (by omega)]
  exact ⟨rfl, rfl⟩
theorem fEarlyN {x : SW} (H : Zf) (r : Rul) (n : Int) (a : List Nat) (hl : r.steps.length ≤ 1000000) : F (psys x) 122 [.agg (rlB r), iI n, fzN a] H fun v G => v = .bool (erl r n (zI a)) ∧ G = H := by
  rw [fzN_is]; exact fEarly_spec H r n (zI a) hl
theorem erlA_no {n : Nat} {rs : List Rul} {a : List Nat} {k : Nat} (hk : k < rs.length) (h : erl (rs.getD k r0) n (zI a) = false) : erlA n rs a = false := all_bad (f := fun r => erl r n (zI a)) hk h
theorem erlA_all {n : Nat} {rs : List Rul} {a : List Nat} {k : Nat} (hk : rs.length ≤ k) (h : (rs.take k).all (fun r => erl r n (zI a)) = true) : erlA n rs a = true := all_full hk h
abbrev u11 {a0 a1 a2 a3 a4 a5 a6 a7 a8 a9 a10 : VVal} : VEnv := a0 :: a1 :: a2 :: a3 :: a4 :: a5 :: a6 :: a7 :: a8 :: a9 :: a10 :: []
abbrev u55 {a0 a1 a2 a3 a4 a5 a6 a7 a8 a9 a10 a11 a12 a13 a14 a15 a16 a17 a18 a19 a20 a21 a22 a23 a24 a25 a26 a27 a28 a29 a30 a31 a32 a33 a34 a35 a36 a37 a38 a39 a40 a41 a42 a43 a44 a45 a46 a47 a48 a49 a50 a51 a52 a53 a54 : VVal} : VEnv := a0 :: a1 :: a2 :: a3 :: a4 :: a5 :: a6 :: a7 :: a8 :: a9 :: a10 :: a11 :: a12 :: a13 :: a14 :: a15 :: a16 :: a17 :: a18 :: a19 :: a20 :: a21 :: a22 :: a23 :: a24 :: a25 :: a26 :: a27 :: a28 :: a29 :: a30 :: a31 :: a32 :: a33 :: a34 :: a35 :: a36 :: a37 :: a38 :: a39 :: a40 :: a41 :: a42 :: a43 :: a44 :: a45 :: a46 :: a47 :: a48 :: a49 :: a50 :: a51 :: a52 :: a53 :: a54 :: []
theorem W5h {P : Prop} (h : P := by first | exact ⟨by rw [erlA_no (k := k) (by omega) (by assumption)], rfl⟩ | exact ⟨by rw [erlA_all (by omega) hall], rfl⟩) : P := h
theorem W5j {P : Prop} (h : P := by first | exact ⟨congrArg iW ((congrArg (fun m => ZP m _) (show most = 0#64 by assumption)).trans YY).symm, rfl⟩ | exact ⟨congrArg iW ((congrArg (ZP most) (toF_e (by rw [Yv]; first | assumption | simp_all))).trans satW_0).symm, rfl⟩ | exact ⟨congrArg iW (show MM.coV (Yh (wsP p) a a.length) most = _ by rw [toF_0 hey]; unfold MM.coV cnA; rw [if_pos (by omega)]), rfl⟩) : P := h
theorem W5k {T : TypeId → Option VTy} {H : Zf} {op : Op} {ρ : Operand → VVal} {t : TypeId} {a : Operand} {y : VTy} {p : VVal} {n : Nat} {vs : List VVal} (ho : op = .load t a) (ha : ρ a = p) (hy : T t = some y) (hd : Zp y.desc = true) (hn : y.size = n) (h : LdOkA H p n vs := by exact XH51) : vop T ρ H op = some (.agg vs, H) := v_ldA ho ha hy hd hn h
theorem W5m {P : Prop} (h : P := by first | exact ⟨congrArg iW ((congrArg (fun m => ZP m _) (show most = 0#64 by assumption)).trans YY).symm, rfl⟩ | exact ⟨congrArg iW ((congrArg (ZP most) (toF_e (by rw [Yv]; first | assumption | simp_all))).trans satW_0).symm, rfl⟩ | (obtain rfl : b = szP a a.length + 1 := by omega); exact ⟨congrArg iW (by rw [toF_R hey]), rfl⟩ | (have hf := satW_ge (wd_le_not' (by assumption))); exact ⟨congrArg iW (by rw [toF_R hey, hf, satW_full hf (by have := @toR_le (wsP p) p.rules m a (szP a a.length + 1 - b) b; rw [show b + (szP a a.length + 1 - b) = szP a a.length + 1 by omega] at this; exact this)]), rfl⟩) : P := h
theorem W5n {T : TypeId → Option VTy} {H : Zf} {op : Op} {ρ : Operand → VVal} {t : TypeId} {a : Operand} {y : VTy} {p : VVal} {n : Nat} {vs : List VVal} (ho : op = .load t a) (ha : ρ a = p) (hy : T t = some y) (hd : Zp y.desc = true) (hn : y.size = n) (h : LdOkA H p n vs := by first | exact .inl ⟨_, _, rfl, by rfl⟩ | exact .inr ⟨_, _, _, _, rfl, XH40, by rfl⟩) : vop T ρ H op = some (.agg vs, H) := v_ldA ho ha hy hd hn h
theorem W5o {P : Prop} (h : P := by first | exact ⟨rfl, rfl⟩ | exact ⟨congrArg iW ((congrArg (ZP most) (sumP_no (by assumption))).trans satW_0).symm, rfl⟩) : P := h
theorem early13_spec {x : SW} (H : Zf) (p : Pb) (hp : PbL p) (a : List Nat) : F (psys x) 94 [.agg (pbB p), fzN a] H fun v G => v = .bool (erlA p.who.length p.rules a) ∧ G = H := by
 have h1 := hp.w; have h3 := hp.r; have h4 := hp.s
 refine Zq Tryd.func94 rfl u24 rfl ?_
 refine Zd (Za ?_)
 refine Lo u24 (ZQ rfl rfl rfl) ?_
 refine Lo u24 (Zg (VVal.bool false) (.inr rfl) rfl) ?_
 refine Ze (Zc (Zd (Zd ?_)))
 refine B_gh (Gh.freezePtrL (cs := pbB p) 2 0 rfl rfl rfl) ?_
 refine Za ?_
 refine Lo u24 (Zg (VVal.int .i64 0) (.inr rfl) rfl) ?_
 refine Ze (Zc (Zl ?_))
 refine Zz (mk 24 16777177) (env' := u24) rfl ?_
 refine ZE (fun (k : Nat) => p.rules.length - k) (fun (k : Nat) => [(5, iI (k : Nat))]) (fun (k : Nat) G => (k ≤ p.rules.length ∧ (p.rules.take k).all (fun r => erl r p.who.length (zI a)) = true) ∧ G = H ++ [.dead]) 0 rfl ?_ ?_
 ·refine ⟨?_, rfl⟩
  exact ⟨Nat.zero_le _, rfl⟩
 rintro k _ ⟨⟨hk, hall⟩, rfl⟩
 refine ZV (env' := u24) rfl ?_
 refine Zd (Zd (Za ?_))
 refine Lo u24 (Zb (.inl rfl) rfl) ?_
 refine Lo u24 (rfl) ?_
 refine Lo u24 (W2r rfl rfl rfl rfl) ?_
 refine Lo u24 (rfl) ?_
 refine Lo u24 (rfl) ?_
 refine Ze (Zc ?_)
 refine Zk _ rfl (fun hc1 => ?_) (fun hc1 => ?_)
 ·try simp only [qB, qN] at hc1
  refine Zj (Zc (Zd (Zl (Zd ?_))))
  refine ZU [0, 1, 2, 3, 4, 5, 6, 7, 8, 9, 10] #[0, 1, 0, 7, 15, 0, 32, 96, 0, 511, 1023] XH5 XH5 XH5 ?_
  refine Oo u24 .calm rfl (rfl) ?_
  refine Oo u24 .look rfl (W2r rfl rfl rfl rfl) ?_
  refine Oo u24 .calm rfl (Zb (.inl rfl) rfl) ?_
  refine Oo u24 .calm rfl (W18 rfl rfl rfl rfl rfl rfl rfl) ?_
  refine Oo u24 .look rfl (W2p rfl rfl rfl rfl rfl) ?_
  refine Oo u24 .calm rfl (rfl) ?_
  refine Oo u24 .look rfl (W2r rfl rfl rfl rfl) ?_
  refine Oo u24 .look rfl (rfl) ?_
  refine Oo u24 .calm rfl (Zb (.inl rfl) rfl) ?_
  refine Z8 (env' := u24) rfl rfl rfl rfl rfl (by exact fEarlyN _ _ _ _ (h4 _ (rul_mem (by omega)))) XH10 rfl rfl ?_
  refine Oo u24 .calm rfl (rfl) ?_
  refine Z3 [] XH5 (trivial) ?_
  refine Zc ?_
  refine Zk _ rfl (fun hc2 => ?_) (fun hc2 => ?_)
  ·try simp only [qB, qN] at hc2
   refine Zd (Za ?_)
   refine Lo u24 (Zg (VVal.bool false) (.inr rfl) rfl) ?_
   refine Ze (Zc (Zi (ZD (Zn (Yd (ZD (Zn ?_)))))))
   refine W10 (.inr rfl) (Zh rfl rfl) ?_
   exact W5h
  ·try simp only [qB, qN] at hc2
   refine Zj (Zr (Zc (Za ?_)))
   refine Lo u24 (Zb (.inl rfl) rfl) ?_
   refine Lo u24 (W14 rfl rfl rfl) ?_
   refine Lo u24 (Zb (.inr rfl) rfl) ?_
   refine Ze ?_
   refine Zt (mk 24 16777177) (env' := u24) rfl ⟨k + 1, ?_, rfl, ?_⟩
   ·first | omega | (simp only []; omega)
   ·exact ⟨⟨by omega, all_step (by omega) hall (by assumption)⟩, rfl⟩
 ·try simp only [qB, qN] at hc1
  refine ZG (ZH (Zx (ZF (Zc (Zd (Za ?_))))))
  refine Lo u24 (Zg (VVal.bool true) (.inr rfl) rfl) ?_
  refine Ze (Zc (Zi ?_))
  refine W10 (.inr rfl) (Zh rfl rfl) ?_
  exact W5h
def sumP (p : Pb) : Nat := ((ptP p).map (cnA (wsP p))).sum
theorem sumP_ok {p : Pb} (h : pck p = 0) : sumP p = toF (wsP p) p.rules p.who.length [] := by
  have g := pck_good.1 h
  unfold sumP ptP
  rw [if_pos h, ptT_snd]
  have := sum_kept (ws := wsP p) (rs := p.rules) (fun r hr => by rw [Yv]; exact g.ru r hr)
  rw [Yv] at this ⊢
  exact this
theorem sumP_no {p : Pb} (h : ¬ pck p = 0) : sumP p = 0 := by
  unfold sumP ptP
  rw [if_neg h]; rfl
theorem count_in {x : SW} {H Z : Zf} {pv mv : VVal} {a : List Nat} {b i n c : Nat} {r : VVal} (hZ : Z[i]? = some (.cells (rcN (a ++ [b])) true)) (h : F (psys x) 59 [pv, fzN (a ++ [b]), mv] (H ++ Z.set i .dead) fun v G => v = r ∧ G = H ++ Z.set i .dead) (hn : n = a.length + 1) (hc : c = n) : F (psys x) 59 [pv, .slice (some (H.length + i, 0)) n c false 1, mv] (H ++ Z) fun v G => v = r ∧ G = H ++ Z.set i .dead := by
  subst hc; subst hn
  exact F.pre (Gh.freezeL (H := H) (l := rcN (a ++ [b])) (vs' := [pv, fzN (a ++ [b]), mv]) 1 i rfl hZ (Yx (by simp)) (Nat.le_refl _) (by simp)) h
theorem wd_le_not' {a b : BitVec 64} (h : (a.toNat : Int) ≤ (b.toNat : Int)) : ¬ b.toNat < a.toNat := by omega
theorem count_0 {x : SW} (p : Pb) (hp : PbL p) (g : Go.V.Good p) (H : Zf) (a : List Nat) (most : BitVec 64) (ha : Pat a) (hl : a.length = p.who.length) : F (psys x) 59 [.agg (pbB p), fzN a, iW most] H fun v G => v = iW (ZP most (toF (wsP p) p.rules 0 a)) ∧ G = H := by
 have h1 := hp.w
 have g1 := g.n12
 have hz := @szP_le a a.length
 have hbl := @YD (wsP p) a a.length
 refine Zq Tryd.func59 rfl u55 rfl ?_
 refine Zd (Za ?_)
 refine Lo u55 (ZQ rfl rfl rfl) ?_
 refine Lo u55 (Zg (VVal.int .u64 0) (.inr rfl) rfl) ?_
 refine Ze (Zc (Zd (Zd ?_)))
 refine B_gh (Gh.freezePtrL (cs := pbB p) 3 0 rfl rfl rfl) ?_
 refine Za ?_
 refine Lo u55 (Zb (.inl rfl) rfl) ?_
 refine Lo u55 (rfl) ?_
 refine Lo u55 (Zb (.inl rfl) rfl) ?_
 refine Zu 12 (env1 := u55) (env2 := u55) rfl rfl rfl (fun hg1 => ?_) (fun hg1 => ?_)
 ·try simp only [qB, qN] at hg1
  refine Lf u55 ?_
  refine Lf u55 ?_
  refine Lf u55 ?_
  refine Lf u55 ?_
  refine Lo u55 (ZB (VVal.bool true) rfl rfl rfl) ?_
  refine Ze (Zc ?_)
  refine ZL rfl rfl ?_
  refine Zd (Za ?_)
  refine Lo u55 (Zg (VVal.int .u64 0) (.inr rfl) rfl) ?_
  refine Ze (Zc (Zi (Zn ?_)))
  refine W10 (.inr rfl) (Zh rfl rfl) ?_
  exact W5j
 ·try simp only [qB, qN] at hg1
  refine Lo u55 (W5k rfl rfl rfl rfl rfl) ?_
  refine Lo u55 (Zb (.inl rfl) rfl) ?_
  refine Zy rfl rfl rfl (by exact early13_spec _ p hp a) ?_
  rintro _ _ ⟨rfl, rfl⟩
  refine Le u55 ?_
  refine Lo u55 (rfl) ?_
  refine Lo u55 (ZW rfl rfl rfl) ?_
  refine Ze (Zc ?_)
  refine Zk _ rfl (fun hc2 => ?_) (fun hc2 => ?_)
  ·try simp only [qB, qN] at hc2
   refine Zd (Za ?_)
   refine Lo u55 (Zg (VVal.int .u64 0) (.inr rfl) rfl) ?_
   refine Ze (Zc (Zi (Zn ?_)))
   refine W10 (.inr rfl) (Zh rfl rfl) ?_
   exact W5j
  ·try simp only [qB, qN] at hc2
   refine Zj (Zc (Zd (Zd ?_)))
   have hey : erlA (wsP p).length p.rules a = true := by rw [Yv]; first | assumption | simp_all
   refine Za ?_
   refine Lo u55 (Zb (.inl rfl) rfl) ?_
   refine Lo u55 (rfl) ?_
   refine Lo u55 (rfl) ?_
   refine Lo u55 (W57 rfl rfl rfl rfl) ?_
   refine Lo u55 (rfl) ?_
   refine Lo u55 (v_is true rfl (by rw [hl]; simp)) ?_
   refine Ze (Zc ?_)
   refine ZL rfl rfl ?_
   refine Zd (Za ?_)
   refine Lo u55 (W5k rfl rfl rfl rfl rfl) ?_
   refine Lo u55 (Zb (.inl rfl) rfl) ?_
   refine Zy rfl rfl rfl (by exact Rows_spec _ p g a ha hl) ?_
   rintro _ _ ⟨rfl, rfl⟩
   refine Le u55 ?_
   refine Lo u55 (Zb (.inl rfl) rfl) ?_
   refine Zy rfl rfl rfl (by exact MM.rCount_spec _ (Yh (wsP p) a a.length) most (by omega)) ?_
   rintro _ _ ⟨rfl, rfl⟩
   refine Le u55 ?_
   refine Lo u55 (Zb (.inr rfl) rfl) ?_
   refine Ze (Zc (Zi (Zn ?_)))
   refine W10 (.inr rfl) (Zh rfl rfl) ?_
   exact W5j
theorem count_s {x : SW} (p : Pb) (hp : PbL p) (g : Go.V.Good p) (m : Nat) (ih : ∀ (H : Zf) (a : List Nat) (most : BitVec 64), Pat a → a.length + m = p.who.length → F (psys x) 59 [.agg (pbB p), fzN a, iW most] H (fun v G => v = iW (ZP most (toF (wsP p) p.rules m a)) ∧ G = H)) (H : Zf) (a : List Nat) (most : BitVec 64) (ha : Pat a) (hl : a.length + (m + 1) = p.who.length) : F (psys x) 59 [.agg (pbB p), fzN a, iW most] H fun v G => v = iW (ZP most (toF (wsP p) p.rules (m + 1) a)) ∧ G = H := by
 have h1 := hp.w
 have g1 := g.n12
 have hz := @szP_le a a.length
 have hbl := @YD (wsP p) a a.length
 refine Zq Tryd.func59 rfl u55 rfl ?_
 refine Zd (Za ?_)
 refine Lo u55 (ZQ rfl rfl rfl) ?_
 refine Lo u55 (Zg (VVal.int .u64 0) (.inr rfl) rfl) ?_
 refine Ze (Zc (Zd (Zd ?_)))
 refine B_gh (Gh.freezePtrL (cs := pbB p) 3 0 rfl rfl rfl) ?_
 refine Za ?_
 refine Lo u55 (Zb (.inl rfl) rfl) ?_
 refine Lo u55 (rfl) ?_
 refine Lo u55 (Zb (.inl rfl) rfl) ?_
 refine Zu 12 (env1 := u55) (env2 := u55) rfl rfl rfl (fun hg1 => ?_) (fun hg1 => ?_)
 ·try simp only [qB, qN] at hg1
  refine Lf u55 ?_
  refine Lf u55 ?_
  refine Lf u55 ?_
  refine Lf u55 ?_
  refine Lo u55 (ZB (VVal.bool true) rfl rfl rfl) ?_
  refine Ze (Zc ?_)
  refine ZL rfl rfl ?_
  refine Zd (Za ?_)
  refine Lo u55 (Zg (VVal.int .u64 0) (.inr rfl) rfl) ?_
  refine Ze (Zc (Zi (Zn ?_)))
  refine W10 (.inr rfl) (Zh rfl rfl) ?_
  exact W5m
 ·try simp only [qB, qN] at hg1
  refine Lo u55 (W5k rfl rfl rfl rfl rfl) ?_
  refine Lo u55 (Zb (.inl rfl) rfl) ?_
  refine Zy rfl rfl rfl (by exact early13_spec _ p hp a) ?_
  rintro _ _ ⟨rfl, rfl⟩
  refine Le u55 ?_
  refine Lo u55 (rfl) ?_
  refine Lo u55 (ZW rfl rfl rfl) ?_
  refine Ze (Zc ?_)
  refine Zk _ rfl (fun hc2 => ?_) (fun hc2 => ?_)
  ·try simp only [qB, qN] at hc2
   refine Zd (Za ?_)
   refine Lo u55 (Zg (VVal.int .u64 0) (.inr rfl) rfl) ?_
   refine Ze (Zc (Zi (Zn ?_)))
   refine W10 (.inr rfl) (Zh rfl rfl) ?_
   exact W5m
  ·try simp only [qB, qN] at hc2
   refine Zj (Zc (Zd (Zd ?_)))
   have hey : erlA (wsP p).length p.rules a = true := by rw [Yv]; first | assumption | simp_all
   refine Za ?_
   refine Lo u55 (Zb (.inl rfl) rfl) ?_
   refine Lo u55 (rfl) ?_
   refine Lo u55 (rfl) ?_
   refine Lo u55 (W57 rfl rfl rfl rfl) ?_
   refine Lo u55 (rfl) ?_
   refine Lo u55 (v_is false rfl (by simp; omega)) ?_
   refine Ze (Zc ?_)
   refine Ye rfl rfl ?_
   refine Zj (Zc (Zd (Za ?_)))
   refine Lo u55 (Zg (VVal.int .u64 0) (.inr rfl) rfl) ?_
   refine Ze (Zc (Zd (Zd (Za ?_))))
   refine Lo u55 (Zg (VVal.int .i64 0) (.inr rfl) rfl) ?_
   refine Ze (Zc (Zl ?_))
   refine Zz (mk 55 36028797018963569) (env' := u55) rfl ?_
   refine ZE (fun (b : Nat) => szP a a.length + 1 - b) (fun (b : Nat) => [(7, iW (ZP most (toR (wsP p) p.rules m a b))), (8, iI (b : Nat))]) (fun (b : Nat) G => (b ≤ szP a a.length + 1) ∧ ∃ X, G = H ++ X) 0 (by rw [show toR (wsP p) p.rules m a 0 = 0 from rfl, satW_0]; rfl) ?_ ?_
   ·refine ⟨?_, ⟨_, rfl⟩⟩
    exact Nat.zero_le _
   rintro b _ ⟨hb, ⟨X, rfl⟩⟩
   refine ZV (env' := u55) rfl ?_
   refine Zd (Zd (Za ?_))
   refine Lo u55 (Zb (.inl rfl) rfl) ?_
   refine Lo u55 (Zb (.inl rfl) rfl) ?_
   refine Zy rfl rfl rfl (by exact Size_spec _ a ha (by omega)) ?_
   rintro _ _ ⟨rfl, rfl⟩
   refine Le u55 ?_
   refine Lo u55 (rfl) ?_
   refine Lo u55 (Zb (.inl rfl) rfl) ?_
   refine Zu 33 (env1 := u55) (env2 := u55) rfl rfl rfl (fun hg3 => ?_) (fun hg3 => ?_)
   ·try simp only [qB, qN] at hg3
    refine Lo u55 (Zb (.inl rfl) rfl) ?_
    refine Lo u55 (Zb (.inl rfl) rfl) ?_
    refine Lo u55 (rfl) ?_
    refine Lo u55 (ZM rfl rfl rfl) ?_
    refine Ze (Zc ?_)
    refine Zk _ rfl (fun hc4 => ?_) (fun hc4 => ?_)
    ·try simp only [qB, qN] at hc4
     refine Zj (Zc (Zd (Zl (Zd (Za ?_)))))
     refine Lo u55 (Zg (VVal.slice none 0 0 true 0) (.inr rfl) rfl) ?_
     refine Ze (Zc (Zd (Za ?_)))
     refine Lo u55 (Zb (.inl rfl) rfl) ?_
     refine Lo u55 (Zb (.inl rfl) rfl) ?_
     refine L_opX rfl rfl (v_cpN rfl rfl rfl rfl rfl rfl rfl rfl (by show a.length * 8 ≤ _ ∧ _; omega)) ?_
     rintro w _ ⟨Z, rfl, hcp⟩
     refine Le u55 ?_
     refine Lo u55 (Zb (.inr rfl) rfl) ?_
     refine Ze (Zc ?_)
     refine ZU [0, 1, 2, 3, 4, 6, 7, 8, 5, 9, 10, 11] #[0, 0, 0, 0, 8, 28, 0, 0, 192, 510, 1023, 2047] XH5 XH5 XH5 ?_
     refine Oo u55 .calm rfl (Zb (.inl rfl) rfl) ?_
     refine Yo (env' := u55) (x := .look _ _) rfl rfl rfl (W5k rfl rfl rfl rfl rfl) rfl rfl rfl ?_
     refine Oo u55 .calm rfl (Zb (.inl rfl) rfl) ?_
     refine Oo u55 .calm rfl (Zb (.inl rfl) rfl) ?_
     refine Oo u55 .grow rfl (ZI rfl rfl (by decide) rfl) ?_
     refine Oo u55 .calm rfl (Zb (.inl rfl) rfl) ?_
     refine Oo u55 .calm rfl (Zb (.inl rfl) rfl) ?_
     refine Oo u55 .calm rfl (v_subW rfl rfl rfl) ?_
     refine O_opXI (fun _ G => .turn _ G) rfl rfl rfl (v_cpApp rfl rfl rfl rfl rfl rfl rfl rfl hcp (by show (a.length + 1) * 8 ≤ _ ∧ _; omega)) (fun _ _ => rfl) ?_
     rintro _ _ ⟨Z2, i, rfl, rfl, hZ2⟩
     refine O_env (env' := u55) rfl ?_
     refine Z8 (env' := u55) rfl rfl rfl rfl rfl (by exact count_in hZ2 (ih _ (a ++ [b]) _ (Pat_snoc ha (by omega)) (by simp; omega)) rfl rfl) XH10 rfl rfl ?_
     refine Oo u55 .calm rfl (v_val (v_addW rfl rfl rfl) (congrArg iW (show ZP most (toR (wsP p) p.rules m a b) + ZP (most - ZP most (toR (wsP p) p.rules m a b)) (toF (wsP p) p.rules m (a ++ [b])) = ZP most (toR (wsP p) p.rules m a (b + 1)) by rw [satW_step, toR_s]))) ?_
     refine Oo u55 .calm rfl (Zb (.inr rfl) rfl) ?_
     refine O_nilP [(1, 8)] XH5 (And.intro ⟨_, _, _, _, ⟨(gA (gA (gA (gA (gA (gA (gA (gA (gA (gA (gL XH5))))))))))), (gA (gA (gA (gL XH5)))), And.intro (W5k rfl rfl rfl rfl rfl) (W5k rfl rfl rfl rfl rfl)⟩⟩ (trivial)) ?_
     refine Zr (Zc (Za ?_))
     refine Lo u55 (Zb (.inl rfl) rfl) ?_
     refine Lo u55 (W14 rfl rfl rfl) ?_
     refine Lo u55 (Zb (.inr rfl) rfl) ?_
     refine Ze ?_
     refine Zt (mk 55 36028797018963569) (env' := u55) rfl ⟨b + 1, ?_, rfl, ?_⟩
     ·first | omega | (simp only []; omega)
     ·exact ⟨by omega, _, rfl⟩
    ·try simp only [qB, qN] at hc4
     refine ZG (ZH (Zx (ZF (Zc (Zd (Za ?_))))))
     refine Lo u55 (Zb (.inl rfl) rfl) ?_
     refine Lo u55 (Zb (.inr rfl) rfl) ?_
     refine Ze (Zc (Zi ?_))
     refine W10 (.inr rfl) (Zh rfl rfl) ?_
     exact W5m
   ·try simp only [qB, qN] at hg3
    refine Lf u55 ?_
    refine Lf u55 ?_
    refine Lf u55 ?_
    refine Lo u55 (ZA (VVal.bool false) rfl rfl rfl) ?_
    refine Ze (Zc ?_)
    refine Ye rfl rfl ?_
    refine ZG (ZH (Zx (ZF (Zc (Zd (Za ?_))))))
    refine Lo u55 (Zb (.inl rfl) rfl) ?_
    refine Lo u55 (Zb (.inr rfl) rfl) ?_
    refine Ze (Zc (Zi ?_))
    refine W10 (.inr rfl) (Zh rfl rfl) ?_
    exact W5m
theorem count_spec {x : SW} (p : Pb) (hp : PbL p) (g : Go.V.Good p) : ∀ (m : Nat) (H : Zf) (a : List Nat) (most : BitVec 64), Pat a → a.length + m = p.who.length → F (psys x) 59 [.agg (pbB p), fzN a, iW most] H (fun v G => v = iW (ZP most (toF (wsP p) p.rules m a)) ∧ G = H)
  | 0, H, a, most, ha, hl => count_0 p hp g H a most ha hl
  | m + 1, H, a, most, ha, hl => count_s p hp g m (fun H a most b c => count_spec p hp g m H a most b c) H a most ha hl
theorem count_top {x : SW} (p : Pb) (hp : PbL p) (g : Go.V.Good p) (H : Zf) (most : BitVec 64) : F (psys x) 59 [.agg (pbB p), niS, iW most] H fun v G => v = iW (ZP most (sumP p)) ∧ G = H := by
  refine F.pre (Gh.freezeNil (vs' := [.agg (pbB p), fzN [], iW most]) 1 rfl rfl) ?_
  have := count_spec (x := x) p hp g p.who.length H [] most Pat_nil (Nat.zero_add _)
  rw [← sumP_ok (pck_good.2 g)] at this
  exact this
theorem fPlans_spec {x : SW} (H : Zf) (p : Pb) (hp : PbL p) (most : BitVec 64) : F (psys x) 30 [.agg (pbB p), iW most] H fun v G => v = iW (ZP most (sumP p)) ∧ G = H := by
 refine Zq Tryd.func30 rfl u11 rfl ?_
 refine Zd (Za ?_)
 refine Lo u11 (ZQ rfl rfl rfl) ?_
 refine Lo u11 (Zg (VVal.int .u64 0) (.inr rfl) rfl) ?_
 refine Ze (Zc (Zd (Zd ?_)))
 refine B_gh (Gh.freezePtrL (cs := pbB p) 2 0 rfl rfl rfl) ?_
 refine Za ?_
 refine Lo u11 (W5n rfl rfl rfl rfl rfl) ?_
 refine Zy rfl rfl rfl (by exact fpCheck_spec _ _ hp) ?_
 rintro _ _ ⟨rfl, rfl⟩
 refine Le u11 ?_
 refine Lo u11 (rfl) ?_
 refine Ze (Zc ?_)
 refine Zk _ rfl (fun hc1 => ?_) (fun hc1 => ?_)
 ·try simp only [qB] at hc1
  refine Zd (Za ?_)
  refine Lo u11 (Zg (VVal.int .u64 0) (.inr rfl) rfl) ?_
  refine Ze (Zc (Zi (Zn ?_)))
  refine W10 (.inr rfl) (Zh rfl rfl) ?_
  exact W5o
 ·try simp only [qB] at hc1
  refine Zj (Zc (Zd ?_))
  have g : Go.V.Good p := pck_good.1 (by assumption)
  refine Za ?_
  refine Lo u11 (W5n rfl rfl rfl rfl rfl) ?_
  refine Lo u11 (Zb (.inl rfl) rfl) ?_
  refine Zy rfl rfl rfl (by exact count_top p hp g _ most) ?_
  rintro _ _ ⟨rfl, rfl⟩
  refine Le u11 ?_
  refine Lo u11 (Zb (.inr rfl) rfl) ?_
  refine Ze (Zc (Zi ?_))
  refine W10 (.inr rfl) (Zh rfl rfl) ?_
  exact W5o
theorem W5s {T : TypeId → Option VTy} {H : Zf} {op : Op} {ρ : Operand → VVal} {t : TypeId} {a : Operand} {y : VTy} {p v : VVal} (ho : op = .load t a) (ha : ρ a = p) (hy : T t = some y) (hd : Zp y.desc = false) (h : LdOk H p v := by first | exact .inl ⟨_, _, rfl, XH41⟩ | exact .inr ⟨_, _, _, _, rfl, by first | exact Zw (ZN rfl rfl) | exact ZN rfl rfl | exact getB rfl rfl, XH41⟩) : vop T ρ H op = some (v, H) := v_ld ho ha hy hd h
theorem W5u {P : Prop} (h : P := by first | exact ⟨congrArg iW (by rw [hI]; rfl), rfl⟩ | exact ⟨congrArg iW (by rw [hX1, satW_full hX1 hX2]), rfl⟩) : P := h
theorem pl_step {ws : List (BitVec 64)} {a : List Nat} {most : BitVec 64} {s : Nat} (h : (Yh ws a a.length).length ≤ 12) : ZP (ZP most 65536) s + MM.coV (Yh ws a a.length) (ZP ((ZP most 65536) - ZP (ZP most 65536) s) 65536) = ZP (ZP most 65536) (s + cnA ws a) := by
  unfold MM.coV
  rw [if_pos h]
  exact sat_more (by rw [Ya]; omega)
theorem sum_split {f : List Nat → Nat} {l pre post : List (List Nat)} {a : List Nat} (h : l = pre ++ a :: post) : ((pre ++ [a]).map f).sum = (pre.map f).sum + f a ∧ ((pre ++ [a]).map f).sum ≤ (l.map f).sum := by
  subst h
  simp only [List.map_append, List.sum_append, List.map_cons, List.sum_cons, List.map_nil, List.sum_nil]
  omega
theorem tPlans_spec {x : SW} (H : Zf) (p : Pb) (hp : PbL p) (most : BitVec 64) : F (psys x) 29 [.agg (pbB p), iW most] H fun v G => v = iW (ZP (ZP most 65536) (sumP p)) ∧ G = H := by
 refine Zq Tryd.func29 rfl u25 rfl ?_
 refine Zd (Za ?_)
 refine Lo u25 (ZQ rfl rfl rfl) ?_
 refine Lo u25 (ZQ rfl rfl rfl) ?_
 refine Lo u25 (Zg (VVal.int .u64 0) (.inr rfl) rfl) ?_
 refine Ze (Zc (Zd ?_))
 refine B_gh (Gh.freezePtrL (cs := pbB p) 2 0 rfl rfl rfl) ?_
 refine Za ?_
 refine Lo u25 (W12 rfl rfl rfl rfl) ?_
 refine Lo u25 (v_val rfl ((congrArg (VVal.int .u64) (MM.minW (a := most) (b := 65536#64))).trans rfl)) ?_
 refine Lo u25 (W13 rfl rfl rfl rfl rfl rfl rfl) ?_
 refine Ze (Zc (Zd (Za ?_)))
 refine Lo u25 (Z4 rfl rfl) ?_
 refine Lo u25 (YB (VVal.int .u64 0) rfl rfl rfl rfl rfl rfl rfl XH0 XH6 XH8) ?_
 refine Ze (Zc (Zd (Zd (Za ?_))))
 refine Lo u25 (W11 rfl rfl rfl rfl rfl) ?_
 refine Zy rfl rfl rfl (by exact tpat_spec _ p) ?_
 rintro _ _ ⟨rfl, rfl⟩
 refine Le u25 ?_
 refine Ze (Zc (Zl ?_))
 refine Zz (mk 25 33552343) (env' := u25) rfl ?_
 refine B_rangeJ (fvP p) 2 (fun _ => rfl) (ptP p) (fun l0 h => by cases h) rfl (fun l9 G9 K9 hI9 => tpat1_spec l9 p hp G9 K9 hI9) (σ := Nat) (fun k s => H ++ [.dead, .cells [iW (ZP most 65536)] true, .cells [iW (ZP (ZP most 65536) s)] true, k]) 0 (fun k => by rw [List.append_assoc]; show _ = H ++ [.dead, .cells [iW (ZP most 65536)] true, .cells [iW (ZP (ZP most 65536) 0)] true, k]; rw [satW_0]; rfl) (fun k s => by simp) (fun k s => by rw [show (H ++ _ : Zf).length = H.length + 3 by simp]; exact ZN rfl rfl) (fun k k1 s => by rw [show (H ++ _ : Zf).length = H.length + 3 by simp]; exact ZR rfl) (fun pre s => s = (pre.map (cnA (wsP p))).sum) ?_ (fun j pre c s => (j = Code.exit 0 ∧ (ZP (ZP most 65536) s = (ZP most 65536) ∧ s ≤ sumP p))) rfl ?_ ?_ ?_
 ·rfl
 ·intro pre c post s hx hI Lp kr kb hkr hkb
  try dsimp only at hI ⊢
  have hc9 : c ∈ ptP p := by rw [hx]; simp
  obtain ⟨h0, hpc, hcl, _, _⟩ := ptP_mem hc9
  have g1 := (pck_good.1 h0).n12
  have hbl := @YD (wsP p) c c.length
  have hz := @szP_le c c.length
  obtain ⟨hs1, hs2⟩ := sum_split (f := cnA (wsP p)) hx
  refine ZV (env' := u25) rfl ?_
  refine Za ?_
  refine Lo u25 (Zb (.inr rfl) rfl) ?_
  refine Ze ?_
  refine ⟨rfl, s, rfl, ?_⟩
  try dsimp only
  refine Zl (Zd ?_)
  refine ZU [0, 1, 2, 3, 4, 5, 6, 7] #[0, 0, 0, 0, 12, 30, 63, 127] XH5 XH5 XH5 ?_
  refine Yo (env' := u25) (x := .look _ _) rfl rfl rfl (W12 rfl rfl rfl rfl) rfl rfl rfl ?_
  refine Oo u25 .calm rfl (Zb (.inl rfl) rfl) ?_
  refine Oo u25 .look rfl (W12 rfl rfl rfl rfl) ?_
  refine Oo u25 .look rfl (W12 rfl rfl rfl rfl) ?_
  refine Oo u25 .calm rfl (v_subW rfl rfl rfl) ?_
  refine Z8 (env' := u25) rfl rfl rfl rfl rfl (by exact MM.mCount_spec _ (Yh (wsP p) c c.length) ((ZP most 65536) - ZP (ZP most 65536) s) (by omega)) XH10 rfl rfl ?_
  refine Oo u25 .calm rfl (v_val (v_addW rfl rfl rfl) (congrArg iW (pl_step (s := s) (a := c) (ws := wsP p) (most := most) (by omega)))) ?_
  refine Oo u25 .turn rfl (W13 rfl rfl rfl rfl rfl rfl rfl) ?_
  refine O_nilP [(0, 5)] XH5 (And.intro ⟨_, _, _, _, ⟨(gA (gA (gA (gA (gA (gA (gA (gL XH5)))))))), (gA (gA (gL XH5))), And.intro (W12 rfl rfl rfl rfl) (W12 rfl rfl rfl rfl)⟩⟩ (trivial)) ?_
  refine Zc (Zd (Za ?_))
  refine Lo u25 (W12 rfl rfl rfl rfl) ?_
  refine Lo u25 (W12 rfl rfl rfl rfl) ?_
  refine Lo u25 (rfl) ?_
  refine Ze (Zc ?_)
  refine Zk _ rfl (fun hc1 => ?_) (fun hc1 => ?_)
  ·try simp only [qB, qN] at hc1
   refine ZG ?_
   refine K_blkO rfl ?_
   refine ⟨s + cnA (wsP p) c, [], (by simp; rfl), .inr ⟨Code.exit 0, rfl, ⟨rfl, ?_⟩⟩⟩
   exact ⟨hc1, by rw [hI, ← hs1]; exact hs2⟩
  ·try simp only [qB, qN] at hc1
   refine Zj (Zr ?_)
   refine ⟨s + cnA (wsP p) c, [], (by simp; rfl), .inl ⟨rfl, ?_⟩⟩
   rw [hs1, hI]
 ·intro s k hk hI J9
  try dsimp only at hI ⊢
  refine Zr (Zc (Zd ?_))
  try refine B_heap (List.append_assoc _ _ _) ?_
  refine Za ?_
  refine Lo u25 (W5s rfl rfl rfl rfl) ?_
  refine Lo u25 (Zb (.inr rfl) rfl) ?_
  refine Ze (Zc (Zi ?_))
  refine W10 (.inr rfl) (Zh rfl rfl) ?_
  exact W5u
 ·rintro j pre c post s k hk hx (⟨rfl, ⟨hX1, hX2⟩⟩) J9
  try dsimp only
  skip
  refine J_exit ?_
  refine ZF (Zc (Zd ?_))
  try refine B_heap (List.append_assoc _ _ _) ?_
  refine Za ?_
  refine Lo u25 (W5s rfl rfl rfl rfl) ?_
  refine Lo u25 (Zb (.inr rfl) rfl) ?_
  refine Ze (Zc (Zi ?_))
  refine W10 (.inr rfl) (Zh rfl rfl) ?_
  exact W5u
end Go.Proofs.YtenkjadobkjaeaaDoor.VT
