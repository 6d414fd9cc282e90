/- Proved: Rows.TallyOwnCardSaid, the statement TallyOwn with its card, of the given program at the commit; no conditions beyond those in the statement. -/
import Derived.Test.YtccgigdjkghieaaDoorC12x14
set_option autoImplicit false
set_option linter.unusedVariables false
set_option linter.unusedSimpArgs false
set_option maxHeartbeats 4000000
set_option maxRecDepth 100000
namespace Go.Proofs.YtccgigdjkghieaaDoor.VT
open Go Go.V Go.RowKit
theorem W53 {T : TypeId → Option VTy} {H : Ze} {op : Op} {ρ : Operand → VVal} {t ty : TypeId} {x y : Operand} {n m : Int} (ho : op = .binOp .add t x y ty) (hx : ρ x = .int .i64 n) (hy : ρ y = .int .i64 m) (h : -9223372036854775808 ≤ n + m ∧ n + m < 9223372036854775808 := by have := @szO_le rows k; omega) : vop T ρ H op = some (.int .i64 (n + m), H) := Zab ho hx hy h
theorem W55 {S : V.Sys} {H : Ze} {fn : Func} {ex : Exit} {env : VEnv} {B L : Ze} {v : VVal} {R : VVal → Ze → Prop} (hx : ex = .normal ∨ ex = .ret) (hv : ZX S.C.T env (B ++ L) fn.results = some v) (h : R v B) (hB : BaseOk H B := by exact XH41) (hu : v.under H.length = true := by first | rfl | simp [VVal.under, VVal.underL, YZ, *]) : fnK S fn H R ex env (B ++ L) := Xk hx hv hB hu h
theorem W58 {T : TypeId → Option VTy} {H : Ze} {op : Op} {ρ : Operand → VVal} {t : TypeId} {a : Operand} {y : VTy} {p v : VVal} (ho : op = .load t a) (ha : ρ a = p) (hy : T t = some y) (hd : Zk y.desc = false) (h : LdOk H p v := by first | exact .inl ⟨_, _, rfl, by first | exact XE (α := BitVec 64) 0 (by rw [Zaw]; omega) | rfl⟩ | exact .inr ⟨_, _, _, _, rfl, XH35, by first | exact XE (α := BitVec 64) 0 (by rw [Zaw]; omega) | rfl⟩) : vop T ρ H op = some (v, H) := Yv ho ha hy hd h
theorem W59 {T : TypeId → Option VTy} {H : Ze} {op : Op} {ρ : VEnv} {H' : Ze} {t : TypeId} {a : Operand} {i : Nat} {v : VVal} {y : VTy} {b off : Nat} {cs new : List VVal} (ho : op = .store t a (.tmp i)) (hv : ρ[i]? = some v) (ha : ρ.eval a = .ptr (some (b, off))) (hy : T t = some y) (hx : v.cells = some new) (hn : new.length = y.size) (h1 : new.all VVal.one = true) (hb : H[b]? = some (.cells cs true) := by exact XH35) (hl : off + new.length ≤ cs.length := by show 0 + k * 1 + 1 ≤ _; rw [List.length_map, Zaw]; omega) (hH : H.set b (.cells (Zx cs off new) true) = H' := by exact (ZO rfl).trans (by show H ++ [VBlk.cells (Zx ((Zas l t k).map iW) (0 + ((k : Nat) : Int).toNat * 1) [iW _]) true] = _; rw [Zb9 (by rw [Zaw]; omega)])) : vop T ρ.eval H op = some (.skip, H') := Z3 ho hv ha hy hx hn h1 hb hl hH
namespace MM
theorem Zdd {x : SW} (p q : Nat) (rows : List (BitVec 64)) (hpq : p ≠ q) (h62 : rows.length < 4611686018427387904) : ∀ (n : Nat) (H : Ze) (row : Int) (O : List Int) (S : BitVec 64), H[p]? = some (mtB rows O) → H[q]? = some (seB S) → 0 ≤ row → row < rows.length → Gok rows O → 64 - YA 64 S < n → F (psys x) 164 [.ptr (some (p, 0)), iI row, .ptr (some (q, 0))] H fun v G => v = .bool (grw rows n row (O, S)).1 ∧ G = mtH H p q rows (grw rows n row (O, S)).2
 | 0, _, _, _, _, _, _, _, _, _, h => absurd h (by omega)
 | n + 1, H, row, O, S, hp, hq, h0, h1, hO, hm => grow_s p q n rows hpq (fun H row O S a b c d e f => Zdd p q rows hpq h62 n H row O S a b c d e f) H row O S hp hq h0 h1 hO hm h62
theorem grow_at {x : SW} (H : Ze) (rows : List (BitVec 64)) (O : List Int) (row : Int) (h0 : 0 ≤ row) (h1 : row < rows.length) (hO : Gok rows O) (h62 : rows.length < 4611686018427387904) : F (psys x) 164 [.ptr (some (H.length + 0, 0)), iI row, .ptr (some (H.length + 1, 0))] (H ++ [mtB rows O, seB 0#64]) fun v G => v = .bool (grw rows 65 row (O, 0#64)).1 ∧ G = H ++ [mtB rows (grw rows 65 row (O, 0#64)).2.1, seB (grw rows 65 row (O, 0#64)).2.2] := by
 have := Zdd (x := x) (H.length + 0) (H.length + 1) rows (by omega) h62 65 (H ++ [mtB rows O, seB 0#64]) row O 0#64 (ZI rfl rfl) (ZI rfl rfl) h0 h1 hO (by rw [ZcA]; omega)
 unfold mtH at this
 rw [ZO rfl, ZO rfl] at this
 exact this
theorem Zc7 {n : Nat} {rows : List (BitVec 64)} {O : List Int} : (mtB rows O).under n = true := by
 show VVal.underL n (fzW rows :: O.map iI) = true
 simp [VVal.underL, YZ, Xb]
def Zas (l : List (BitVec 64)) (t : BitVec 64) (k : Nat) : List (BitVec 64) := msk (l.take k) t ++ l.drop k
theorem beq_nat {a b : Nat} : ((a : Int) == (b : Int)) = (a == b) := Bool.eq_iff_iff.2 (by rw [beq_iff_eq, beq_iff_eq]; omega)
theorem Zaw {l : List (BitVec 64)} {t : BitVec 64} {k : Nat} : (Zas l t k).length = l.length := by
 unfold Zas; rw [List.length_append, Yg, List.length_take, List.length_drop]; omega
theorem mskT_0 {l : List (BitVec 64)} {t : BitVec 64} : Zas l t 0 = l := by unfold Zas msk; simp
theorem mskT_all {l : List (BitVec 64)} {t : BitVec 64} : Zas l t l.length = msk l t := by unfold Zas; simp
theorem mskT_get {l : List (BitVec 64)} {t : BitVec 64} {k : Nat} (h : k < l.length) : (Zas l t k).getD k 0 = l.getD k 0 := by
 unfold Zas
 rw [List.getD_eq_getElem?_getD, List.getElem?_append_right (by rw [Yg, List.length_take]; omega), Yg, List.length_take, Nat.min_eq_left (by omega), Nat.sub_self, List.getElem?_drop, Nat.add_zero, List.getD_eq_getElem?_getD]
theorem mskT_set {l : List (BitVec 64)} {t : BitVec 64} {k : Nat} (h : k < l.length) : (Zas l t k).set k (l.getD k 0 &&& ~~~t) = Zas l t (k + 1) := by
 unfold Zas
 rw [List.set_append_right _ _ (by rw [Yg, List.length_take]; omega), Yg, List.length_take, Nat.min_eq_left (by omega), Nat.sub_self, List.take_succ_eq_append_getElem h, List.drop_eq_getElem_cons h, List.getD_eq_getElem?_getD, List.getElem?_eq_getElem h]
 show msk (l.take k) t ++ ((l[k] &&& ~~~t) :: l.drop (k + 1)) = _
 unfold msk
 rw [List.map_append, List.append_assoc]; rfl
theorem Zb9 {l : List (BitVec 64)} {k : Nat} {w : BitVec 64} (h : k < l.length) : Zx (l.map iW) (0 + k * 1) [iW w] = (l.set k w).map iW := by
 rw [show 0 + k * 1 = k by omega]
 unfold Zx
 rw [List.map_set, List.set_eq_take_append_cons_drop, if_pos XH31]; simp
theorem ZcY {x : SW} (H : Ze) (rows : List (BitVec 64)) (h62 : rows.length < 4611686018427387904) : F (psys x) 146 [fzW rows] H fun v G => v = iI (szN rows : Nat) ∧ G = H := by
 refine Zp Tryd.func146 rfl u22 rfl ?_
 refine Zc (Za (Lk u22 (.int .i64 0) ?_))
 refine Zd (Zb (Zc (Za (Lm u22 ?_))))
 refine Lo u22 rfl ?_
 refine Lo u22 (ZJ rfl rfl rfl) ?_
 refine La u22 ?_
 refine Lk u22 (.int .i64 0) ?_
 refine Zd (Zb (Zc (Zc (Za (Lm u22 ?_)))))
 refine Lo u22 rfl ?_
 refine Lo u22 (Z4 (VVal.int .i64 0) (.inl rfl) rfl) ?_
 refine Zd (Zb (Zg (Zr (mk 22 4188135) (env' := u22) rfl ?_)))
 refine Zw (fun (k : Nat) => rows.length - k) (fun (k : Nat) => [(4, iI ((szO rows k).2 : Nat)), (12, iI (k : Nat))]) (fun (k : Nat) G => (k ≤ rows.length) ∧ G = H ++ [mtB rows (szO rows k).1]) 0 rfl ?_ ?_
 ·refine ⟨?_, rfl⟩
  exact Nat.zero_le _
 rintro k _ ⟨hk, rfl⟩
 refine ZL (env' := u22) rfl ?_
 refine Zc (Za (Lo u22 rfl ?_))
 refine Zd (Zb (Zc (Zi _ rfl (fun hc1 => ?_) (fun hc1 => ?_))))
 ·try simp only [qB] at hc1
  refine Zh (Zb (Zc (Zg (Zc (Za (Lm u22 ?_))))))
  refine La u22 ?_
  refine Zd (Zb (Zc (Za (Lo u22 (ZP rfl rfl) ?_))))
  refine Lo u22 (Ya (VVal.int .u64 0) rfl rfl rfl rfl rfl rfl rfl XH0 XH5 XH1) ?_
  refine Zd (Zb (Zc (Za (Lm u22 ?_))))
  refine Lm u22 ?_
  refine Zs rfl rfl rfl (by exact grow_at H rows (szO rows k).1 k (by omega) (by omega) (Zad (by omega)) h62) ?_
  rintro _ _ ⟨rfl, rfl⟩
  refine Le u22 ?_
  refine Zd (Zb (Zi _ rfl (fun hc2 => ?_) (fun hc2 => ?_)))
  ·try simp only [qB] at hc2
   refine Za (Lm u22 ?_)
   refine Lo u22 (W53 rfl rfl rfl) ?_
   refine La u22 ?_
   refine Zd (Zq (Zb (Za (Lo u22 (W14 rfl rfl rfl) ?_))))
   refine Lm u22 ?_
   refine Zd ?_
   first
    | (have hE : (((szO rows k).2 : Nat) : Int) + 1 = ((szO rows (k + 1)).2 : Nat) := by rw [szO, if_pos (by assumption)]; rfl); rw [hE]
    | (have hE : (szO rows k).2 = (szO rows (k + 1)).2 := by rw [szO]; simp only; rw [if_neg (Yr (by assumption))]); rw [hE]
   refine JG (mk 22 4188135) (env' := u22) rfl (Gh.dropTo (L := [mtB rows (szO rows (k + 1)).1]) (X := [seB _]) 1 rfl (BaseOk.refl _) XH15 (by simp [Zc7])) ⟨k + 1, ?_, rfl, ?_⟩
   ·first | omega | (simp only []; omega)
   exact ⟨by omega, rfl⟩
  try simp only [qB] at hc2
  refine Zh (Zq (Zb (Za (Lo u22 (W14 rfl rfl rfl) ?_))))
  refine Lm u22 ?_
  refine Zd ?_
  first
   | (have hE : (((szO rows k).2 : Nat) : Int) + 1 = ((szO rows (k + 1)).2 : Nat) := by rw [szO, if_pos (by assumption)]; rfl); rw [hE]
   | (have hE : (szO rows k).2 = (szO rows (k + 1)).2 := by rw [szO]; simp only; rw [if_neg (Yr (by assumption))]); rw [hE]
  refine JG (mk 22 4188135) (env' := u22) rfl (Gh.dropTo (L := [mtB rows (szO rows (k + 1)).1]) (X := [seB _]) 1 rfl (BaseOk.refl _) XH15 (by simp [Zc7])) ⟨k + 1, ?_, rfl, ?_⟩
  ·first | omega | (simp only []; omega)
  exact ⟨by omega, rfl⟩
 try simp only [qB] at hc1
 refine Zz (ZA (Zu (Zy (Zb (Zc (Za (Lm u22 ?_)))))))
 refine La u22 ?_
 refine Zd (Zb (Zj (W55 (.inr rfl) (Zf rfl rfl) ?_)))
 obtain rfl : k = rows.length := by omega
 exact ⟨rfl, rfl⟩
theorem size_m {x : SW} {n : Nat} (H : Ze) (l : List (BitVec 64)) (t : BitVec 64) (hn : n = (msk l t).length) (h62 : (msk l t).length < 4611686018427387904) : F (psys x) 146 [.fsl ((msk l t).map iW) n 1 false] H fun v G => v = iI (szN (msk l t) : Nat) ∧ G = H := by
 subst hn; exact ZcY H (msk l t) h62
theorem Clone_nil {x : SW} (H : Ze) : F (psys x) 111 [.slice none 0 0 true 0] H fun v G => v = .fsl [] 0 1 false ∧ G = H := by
 refine Zp Tryd.func111 rfl u8 rfl ?_
 refine Zc (Za (Lk u8 (.slice none 0 0 true 0) ?_))
 refine Zd (Zb (Zc (Zc (Za (Lm u8 ?_)))))
 refine Lo u8 rfl ?_
 refine Zd (Zb (ZN rfl rfl ?_))
 refine Zc (Za (Lk u8 (.slice none 0 0 true 0) ?_))
 refine Zd (Zb (Zj (Zl (Zbm (.inr rfl) (Zf rfl rfl) (Gh.ansLV (BaseOk.refl _) (LV.nil H.length 1 []) rfl) ?_))))
 exact ⟨rfl, rfl⟩
theorem Clone_emp {x : SW} (H : Ze) : F (psys x) 111 [.slice none 0 0 false 0] H fun v G => v = .fsl [] 0 1 false ∧ G = H := by
 refine Zp Tryd.func111 rfl u8 rfl ?_
 refine Zc (Za (Lk u8 (.slice none 0 0 true 0) ?_))
 refine Zd (Zb (Zc (Zc (Za (Lm u8 ?_)))))
 refine Lo u8 rfl ?_
 refine Zd (Zb (Yc rfl rfl ?_))
 refine Zh (Zb (Zc (Za (Lo u8 (Zv rfl rfl (by decide) rfl) ?_))))
 refine Lm u8 ?_
 refine Lo u8 (Zby rfl rfl rfl rfl rfl rfl rfl (ZI rfl rfl) rfl rfl rfl rfl (by decide) (by decide) (by decide)) ?_
 refine ZcB (H' := H ++ [.cells [] true]) (by rw [ZO rfl]; rfl) ?_
 refine La u8 ?_
 refine Zd (Zb (Zj (Zbm (.inr rfl) (Zf rfl rfl) (Gh.fsl (j := 0) (off := 0) (len := 0) (l := []) (BaseOk.refl _) rfl rfl (Nat.le_refl _) rfl) ?_)))
 exact ⟨rfl, rfl⟩
theorem Clone_c {x : SW} (H : Ze) (l : List (BitVec 64)) (hne : l ≠ []) (hl : l.length ≤ 1000000) : F (psys x) 111 [fzW l] H fun v G => v = .slice (some (H.length, 0)) l.length l.length (decide (l.length = 0)) 1 ∧ G = H ++ [.cells (l.map iW) true] := by
 refine Zp Tryd.func111 rfl u8 rfl ?_
 refine Zc (Za (Lk u8 (.slice none 0 0 true 0) ?_))
 refine Zd (Zb (Zc (Zc (Za (Lm u8 ?_)))))
 refine Lo u8 (v_eqNilF rfl rfl rfl rfl rfl (fun e => hne (List.eq_nil_of_length_eq_zero e))) ?_
 refine Zd (Zb (Yc rfl rfl ?_))
 refine Zh (Zb (Zc (Za (Lo u8 (Zv rfl rfl (by decide) rfl) ?_))))
 refine Lm u8 ?_
 refine X7 rfl rfl (v_appE rfl rfl rfl rfl rfl rfl rfl rfl XH23 (Qw _) (by decide) (by show l.length * 8 ≤ _ ∧ l.length ≤ _; omega)) ?_
 rintro _ _ ⟨Z, i, rfl, rfl, hi⟩
 refine Le u8 ?_
 refine La u8 ?_
 refine Zd (Zb (Zj (Zbm (.inr rfl) (Zf rfl rfl) (Gh.pack (BaseOk.refl _) hi (Yu _ _)) ?_)))
 exact ⟨rfl, rfl⟩
theorem Clone_0 {x : SW} (H : Ze) : F (psys x) 111 [fzW []] H fun v G => v = .fsl [] 0 1 false ∧ G = H := Zcs (Clone_nil H) (Clone_emp H)
theorem Clone_L {x : SW} (H L : Ze) (l : List (BitVec 64)) (hne : l ≠ []) (hl : l.length ≤ 1000000) : F (psys x) 111 [fzW l] (H ++ L) fun v G => v = .slice (some (H.length + L.length, 0)) l.length l.length (decide (l.length = 0)) 1 ∧ G = H ++ (L ++ [.cells (l.map iW) true]) := by
 have := Clone_c (x := x) (H ++ L) l hne hl
 rw [List.length_append, List.append_assoc] at this
 exact this
theorem full_0 {x : SW} (H : Ze) (t : BitVec 64) : F (psys x) 114 [fzW [], iW t] H fun v G => v = .bool (Yk [] t) ∧ G = H := by
 refine Zp Tryd.func114 rfl u27 rfl ?_
 refine Zc (Za (Lk u27 (.bool false) ?_))
 refine Zd (Zb (Zc (Za (Lm u27 ?_))))
 refine Zs rfl rfl rfl (by exact Clone_0 _) ?_
 rintro _ _ ⟨rfl, rfl⟩
 refine Le u27 ?_
 refine La u27 ?_
 refine Zd (Zb (Zc (Zc (Za (Lm u27 ?_)))))
 refine Lo u27 rfl ?_
 refine Lo u27 (Z4 (VVal.int .i64 0) (.inl rfl) rfl) ?_
 refine Zd (Zb (Zg (Zr (mk 27 134214620) (env' := u27) rfl ?_)))
 refine Zw (fun (k : Nat) => 0) (fun (k : Nat) => [(11, iI (k : Nat))]) (fun (k : Nat) G => (True) ∧ G = H ++ []) 0 rfl ?_ ?_
 ·refine ⟨?_, rfl⟩
  trivial
 rintro k _ ⟨_, rfl⟩
 refine ZL (env' := u27) rfl ?_
 refine Zc (Za (Lo u27 rfl ?_))
 refine Zd (Zb (Zc (Zi _ rfl (fun hc1 => ?_) (fun hc1 => ?_))))
 ·try simp only [qB] at hc1
  exfalso; omega
 try simp only [qB] at hc1
 refine Zz (ZA (Zu (Zy (Zb (Zc (Za (Lm u27 ?_)))))))
 refine Zs rfl rfl rfl (by exact ZcY _ [] (by decide)) ?_
 rintro _ _ ⟨rfl, rfl⟩
 refine Le u27 ?_
 refine Lm u27 ?_
 refine Lo u27 rfl ?_
 refine Lo u27 rfl ?_
 refine La u27 ?_
 refine Zd (Zb (Zj (W10 (.inr rfl) (Zf rfl rfl) ?_)))
 exact ⟨rfl, rfl⟩
theorem full_c {x : SW} (H : Ze) (l : List (BitVec 64)) (t : BitVec 64) (hne : l ≠ []) (hl : l.length ≤ 1000000) : F (psys x) 114 [fzW l, iW t] H fun v G => v = .bool (Yk l t) ∧ G = H := by
 refine Zp Tryd.func114 rfl u27 rfl ?_
 refine Zc (Za (Lk u27 (.bool false) ?_))
 refine Zd (Zb (Zc (Za (Lm u27 ?_))))
 refine Zs rfl rfl rfl (by exact Clone_L _ _ _ hne hl) ?_
 rintro _ _ ⟨rfl, rfl⟩
 refine Le u27 ?_
 refine La u27 ?_
 refine Zd (Zb (Zc (Zc (Za (Lm u27 ?_)))))
 refine Lo u27 rfl ?_
 refine Lo u27 (Z4 (VVal.int .i64 0) (.inl rfl) rfl) ?_
 refine Zd (Zb (Zg (Zr (mk 27 134214620) (env' := u27) rfl ?_)))
 refine Zw (fun (k : Nat) => l.length - k) (fun (k : Nat) => [(11, iI (k : Nat))]) (fun (k : Nat) G => (k ≤ l.length) ∧ G = H ++ [.cells ((Zas l t k).map iW) true]) 0 rfl ?_ ?_
 ·refine ⟨?_, (by rw [mskT_0]; rfl)⟩
  exact Nat.zero_le _
 rintro k _ ⟨hk, rfl⟩
 refine ZL (env' := u27) rfl ?_
 refine Zc (Za (Lo u27 rfl ?_))
 refine Zd (Zb (Zc (Zi _ rfl (fun hc1 => ?_) (fun hc1 => ?_))))
 ·try simp only [qB] at hc1
  refine Zh (Zb (Zc (Zg (Zc (Za (Lm u27 ?_))))))
  refine La u27 ?_
  refine Zd (Zb (Za (Lm u27 ?_)))
  refine Lm u27 ?_
  refine Lo u27 (W18 rfl rfl rfl rfl rfl rfl rfl) ?_
  refine Lo u27 (W58 rfl rfl rfl rfl) ?_
  refine Lm u27 ?_
  refine Lo u27 (Qj rfl rfl rfl) ?_
  refine Lo u27 (W18 rfl rfl rfl rfl rfl rfl rfl) ?_
  refine Lo u27 (W59 rfl rfl rfl rfl rfl rfl rfl) ?_
  refine Zd (Zq (Zb (Za (Lo u27 (W14 rfl rfl rfl) ?_))))
  refine Lm u27 ?_
  refine Zd ?_
  have hE : (Zas l t k).set (k : Int).toNat ((Zas l t k).getD (k : Int).toNat 0 &&& ~~~t) = Zas l t (k + 1) := by rw [Int.toNat_natCast, mskT_get (by omega), mskT_set (by omega)]
  refine Zt (mk 27 134214620) (env' := u27) rfl ⟨k + 1, ?_, rfl, ?_⟩
  ·first | omega | (simp only []; omega)
  exact ⟨by omega, by rw [← hE]; try rfl⟩
 try simp only [qB] at hc1
 refine Zz (ZA (Zu (Zy (Zb (Zc ?_)))))
 obtain rfl : k = l.length := by omega
 rw [mskT_all]
 refine Za (Lm u27 ?_)
 refine L_gh (Gh.freezeL (l := (msk l t).map iW) 22 0 rfl rfl (by rw [show l.length * 1 = (msk l t).length * 1 by rw [Yg]]; exact mapW_all) (Nat.le_refl _) rfl) ?_
 refine Zs rfl rfl rfl (by exact size_m _ _ _ (by rw [Yg]) (by rw [Yg]; omega)) ?_
 rintro _ _ ⟨rfl, rfl⟩
 refine Le u27 ?_
 refine Lm u27 ?_
 refine Lo u27 rfl ?_
 refine Lo u27 rfl ?_
 refine La u27 ?_
 refine Zd (Zb (Zj (W10 (.inr rfl) (Zf rfl rfl) ?_)))
 exact ⟨by unfold Yk; rw [beq_nat], rfl⟩
end MM
open Go Go.V Go.RowKit
abbrev u33 {a0 a1 a2 a3 a4 a5 a6 a7 a8 a9 a10 a11 a12 a13 a14 a15 a16 a17 a18 a19 a20 a21 a22 a23 a24 a25 a26 a27 a28 a29 a30 a31 a32 : VVal} : VEnv := a0 :: a1 :: a2 :: a3 :: a4 :: a5 :: a6 :: a7 :: a8 :: a9 :: a10 :: a11 :: a12 :: a13 :: a14 :: a15 :: a16 :: a17 :: a18 :: a19 :: a20 :: a21 :: a22 :: a23 :: a24 :: a25 :: a26 :: a27 :: a28 :: a29 :: a30 :: a31 :: a32 :: []
abbrev u43 {a0 a1 a2 a3 a4 a5 a6 a7 a8 a9 a10 a11 a12 a13 a14 a15 a16 a17 a18 a19 a20 a21 a22 a23 a24 a25 a26 a27 a28 a29 a30 a31 a32 a33 a34 a35 a36 a37 a38 a39 a40 a41 a42 : VVal} : VEnv := a0 :: a1 :: a2 :: a3 :: a4 :: a5 :: a6 :: a7 :: a8 :: a9 :: a10 :: a11 :: a12 :: a13 :: a14 :: a15 :: a16 :: a17 :: a18 :: a19 :: a20 :: a21 :: a22 :: a23 :: a24 :: a25 :: a26 :: a27 :: a28 :: a29 :: a30 :: a31 :: a32 :: a33 :: a34 :: a35 :: a36 :: a37 :: a38 :: a39 :: a40 :: a41 :: a42 :: []
theorem W5a {S : V.Sys} {H : Ze} {fn : Func} {ex : Exit} {env : VEnv} {B L : Ze} {v : VVal} {R : VVal → Ze → Prop} (hx : ex = .normal ∨ ex = .ret) (hv : ZX S.C.T env (B ++ L) fn.results = some v) (h : R v B) (hB : BaseOk H B := by exact BaseOk.set (BaseOk.refl _) _ (Yu _ _)) (hu : v.under H.length = true := by exact XH49) : fnK S fn H R ex env (B ++ L) := Xk hx hv hB hu h
theorem W5c {P : Prop} (h : P := by first | exact ⟨by rw [freeV, if_neg (by omega)]; rfl, rfl⟩ | exact ⟨by rw [freeV, if_pos (by omega)]; rfl, rfl⟩) : P := h
namespace MM
theorem full_spec {x : SW} (H : Ze) (l : List (BitVec 64)) (t : BitVec 64) (hl : l.length ≤ 1000000) : F (psys x) 114 [fzW l, iW t] H fun v G => v = .bool (Yk l t) ∧ G = H := by
 by_cases h : l = []
 ·subst h; exact full_0 H t
 exact full_c H l t h hl
theorem del_cells {l : List (BitVec 64)} {i : Nat} (hi : i < l.length) : Zx (Zx (l.map iW) i ((l.map iW).drop (i + 1))) (0 + (l.length - 1)) (ZH [VVal.int .u64 0] (l.length - (l.length - 1))) = (l.eraseIdx i ++ [0#64]).map iW := by
 rw [show l.length - (l.length - 1) = 1 by omega, show 0 + (l.length - 1) = l.length - 1 by omega]
 have hlen : ((l.eraseIdx i).map iW).length = l.length - 1 := by rw [List.length_map, List.length_eraseIdx_of_lt hi]
 have h1 : Zx (l.map iW) i ((l.map iW).drop (i + 1)) = (l.eraseIdx i).map iW ++ (l.map iW).drop (l.length - 1) := by
  unfold Zx
  rw [List.length_drop, List.length_map, show i + (l.length - (i + 1)) = l.length - 1 by omega, List.eraseIdx_eq_take_drop_succ, List.map_append, List.map_take, List.map_drop]
 rw [h1]
 unfold Zx
 rw [List.take_append_of_le_length (by omega), List.take_of_length_le (by omega), List.drop_of_length_le (by
  rw [List.length_append, hlen, List.length_drop, List.length_map]
  show _ ≤ l.length - 1 + 1
  omega), List.append_nil, List.map_append]
 rfl
theorem erase_all {l : List (BitVec 64)} {i : Nat} : Zo ((l.eraseIdx i ++ [0#64]).map iW) 0 ((l.eraseIdx i).length * 1) = some ((l.eraseIdx i).map iW) := by
 unfold Zo
 rw [if_pos (by rw [List.length_map, List.length_append]; omega), List.drop_zero, List.map_append, List.take_append_of_le_length XH14, List.take_of_length_le XH14]
theorem Delete_spec {x : SW} (H : Ze) (p : Nat) (l : List (BitVec 64)) (i : Nat) (ex : Bool) (hp : H[p]? = some (.cells (l.map iW) true)) (hi : i < l.length) (hl : l.length ≤ 1000000) : F (psys x) 110 [.slice (some (p, 0)) l.length l.length ex 1, iI (i : Nat), iI ((i : Int) + 1)] H fun v G => v = .slice (some (p, 0)) (l.length - 1) l.length ex 1 ∧ G = H.set p (.cells ((l.eraseIdx i ++ [0#64]).map iW) true) := by
 have hpl := ZG hp
 refine Zp Tryd.func110 rfl u33 rfl ?_
 refine Zc (Za (Lk u33 (.slice none 0 0 true 0) ?_))
 refine Zd (Zb (Zc (Za (Lm u33 ?_))))
 refine Lm u33 ?_
 refine Lm u33 ?_
 refine Lm u33 ?_
 refine Lo u33 rfl ?_
 refine Lo u33 (v_slLH (l := i) (h := i + 1) (m := l.length) rfl rfl rfl rfl rfl rfl (vb_lhm (l := i) (h := i + 1) (m := l.length) (len := l.length) (cap := l.length) (by omega) (by omega) (by omega)) rfl (Nat.le_refl _) (by omega)) ?_
 refine Zd (Zb (Zc (Zc (Za (Lm u33 ?_)))))
 refine Lm u33 ?_
 refine Lo u33 (QA false rfl (by rw [beq_eq_false_iff_ne]; omega)) ?_
 refine Zd (Zb (Yc rfl rfl ?_))
 refine Zh (Zb (Zc (Za (Lm u33 ?_))))
 refine Lo u33 rfl ?_
 refine La u33 ?_
 refine Zd (Zb (Zc (ZK [0, 1, 2, 3, 4, 5, 6, 7] #[0, 0, 3, 0, 0, 24, 63, 127] XH3 XH3 XH3 ?_)))
 refine Om u33 ?_
 refine Om u33 ?_
 refine Oc u33 rfl (Xg (v_slLH (l := 0) (h := i) (m := l.length) rfl rfl rfl rfl rfl rfl (vb_hi (by omega)) rfl (Nat.le_refl _) (by omega)) (show _ = VVal.slice (some (p, 0)) i l.length ex 1 by simp)) ?_
 refine Om u33 ?_
 refine Om u33 ?_
 refine O_opX .calm rfl rfl rfl (v_slTail (l := i + 1) rfl rfl rfl rfl rfl rfl rfl (by omega) (JE hp) (by rw [List.length_map])) rfl rfl ?_
 rintro v2 _ ⟨rfl, hsl, hsc⟩
 refine Zbr (env' := u33) rfl ?_
 refine Oo u33 .turn rfl (Zby rfl rfl rfl rfl rfl rfl rfl (JE hp) hsl hsc (by rw [List.length_drop, List.length_map]) (by rw [← List.map_drop]; exact Qw _) (by show (i + (l.length - (i + 1))) * 8 ≤ _ ∧ _; omega) (by omega) XH14) ?_
 refine Oc u33 rfl (Yo (.inr rfl) rfl) ?_
 refine ZW [] XH3 (trivial) ?_
 refine Zb (Zc ?_)
 rw [Yl hpl, show i + (l.length - (i + 1)) = l.length - 1 by omega]
 refine Za (Lm u33 ?_)
 refine Lm u33 ?_
 refine Lo u33 rfl ?_
 refine Lm u33 ?_
 refine Lo u33 (v_slLH (l := l.length - 1) (h := l.length) (m := l.length) rfl rfl rfl rfl rfl rfl (vb_lh (by omega) (Nat.le_refl _)) rfl (by omega) (by omega)) ?_
 refine Lo u33 (v_clear1 rfl rfl rfl rfl rfl rfl rfl (JE (List.getElem?_set_self hpl)) (by unfold Zx; simp; omega)) ?_
 refine ZcB (H' := H.set p (.cells ((l.eraseIdx i ++ [0#64]).map iW) true) ++ []) (by rw [Yl (by rw [List.length_set]; exact hpl), List.set_set]; exact congrArg (fun c => H.set p (.cells c true) ++ []) (del_cells hi)) ?_
 refine Zd (Zb (Zc (Za (Lm u33 ?_))))
 refine La u33 ?_
 refine Zd (Zb (Zj (W5a (.inr rfl) (Zf rfl rfl) ?_)))
 exact ⟨rfl, rfl⟩
theorem Del_at {x : SW} (H : Ze) (l : List (BitVec 64)) (i : Nat) (ex : Bool) (hi : i < l.length) (hl : l.length ≤ 1000000) : F (psys x) 110 [.slice (some (H.length + 0, 0)) l.length l.length ex 1, iI (i : Nat), iI ((i : Int) + 1)] (H ++ [.cells (l.map iW) true]) fun v G => v = fzW (l.eraseIdx i) ∧ G = H ++ [.dead] := by
 refine F.gh (Delete_spec (H ++ [.cells (l.map iW) true]) (H.length + 0) l i ex (ZI rfl rfl) hi hl) fun v G h => ?_
 obtain ⟨rfl, rfl⟩ := h
 refine ⟨fzW (l.eraseIdx i), H ++ [.dead], ?_, rfl, rfl⟩
 rw [ZO rfl, show l.length - 1 = (l.eraseIdx i).length by rw [List.length_eraseIdx_of_lt hi]]
 exact Gh.freezeL 0 0 rfl rfl erase_all (by rw [List.length_eraseIdx_of_lt hi]; omega) rfl
theorem Del_atI {x : SW} (H : Ze) (l : List (BitVec 64)) (i : Int) (ex : Bool) (h0 : 0 ≤ i) (hi : i < l.length) (hl : l.length ≤ 1000000) : F (psys x) 110 [.slice (some (H.length + 0, 0)) l.length l.length ex 1, iI i, iI (i + 1)] (H ++ [.cells (l.map iW) true]) fun v G => v = fzW (l.eraseIdx i.toNat) ∧ G = H ++ [.dead] := by
 have := Del_at (x := x) H l i.toNat ex (by omega) hl
 rw [show ((i.toNat : Nat) : Int) = i by omega] at this
 exact this
def freeV (l : List (BitVec 64)) (i : Int) : BitVec 64 := if l.length ≤ 12 ∧ 0 ≤ i ∧ i < l.length then frW l i.toNat else 0#64
theorem Free_spec {x : SW} (H : Ze) (l : List (BitVec 64)) (i : Int) (hl : l.length ≤ 1000000) : F (psys x) 65 [fzW l, iI i] H fun v G => v = iW (freeV l i) ∧ G = H := by
 refine Zp Tryd.func65 rfl u43 rfl ?_
 refine Zc (Za (Lk u43 (.int .u64 0) ?_))
 refine Zd (Zb (Zc (Zc (Za (Lm u43 ?_)))))
 refine Zs rfl rfl rfl (by exact Zdg _ _) ?_
 rintro _ _ ⟨rfl, rfl⟩
 refine Le u43 ?_
 refine Lo u43 rfl ?_
 refine Lm u43 ?_
 refine ZB 11 (env1 := u43) (env2 := u43) rfl rfl rfl (fun hg1 => ?_) (fun hg1 => ?_)
 ·try simp only [qB] at hg1
  refine Lf u43 ?_
  refine Lf u43 ?_
  refine Lo u43 (ZF (VVal.bool true) rfl rfl rfl) ?_
  refine Lm u43 ?_
  refine Lf u43 ?_
  refine Lf u43 ?_
  refine Lf u43 ?_
  refine Lf u43 ?_
  refine Lo u43 (ZF (VVal.bool true) rfl rfl rfl) ?_
  refine Zd (Zb (ZN rfl rfl ?_))
  refine Zc (Za (Lk u43 (.int .u64 0) ?_))
  refine Zd (Zb (Zj (Zl (W10 (.inr rfl) (Zf rfl rfl) ?_))))
  exact W5c
 try simp only [qB] at hg1
 refine Lm u43 ?_
 refine Lo u43 rfl ?_
 refine Lo u43 (ZY rfl rfl rfl) ?_
 refine Lm u43 ?_
 refine ZB 15 (env1 := u43) (env2 := u43) rfl rfl rfl (fun hg2 => ?_) (fun hg2 => ?_)
 ·try simp only [qB] at hg2
  refine Lf u43 ?_
  refine Lf u43 ?_
  refine Lf u43 ?_
  refine Lf u43 ?_
  refine Lo u43 (ZF (VVal.bool true) rfl rfl rfl) ?_
  refine Zd (Zb (ZN rfl rfl ?_))
  refine Zc (Za (Lk u43 (.int .u64 0) ?_))
  refine Zd (Zb (Zj (Zl (W10 (.inr rfl) (Zf rfl rfl) ?_))))
  exact W5c
 try simp only [qB] at hg2
 refine Lm u43 ?_
 refine Lm u43 ?_
 refine Lo u43 rfl ?_
 refine Lo u43 rfl ?_
 refine Lo u43 (ZY rfl rfl rfl) ?_
 refine Zd (Zb (Zi _ rfl (fun hc3 => ?_) (fun hc3 => ?_)))
 ·try simp only [qB] at hc3
  refine Zc (Za (Lk u43 (.int .u64 0) ?_))
  refine Zd (Zb (Zj (Zl (W10 (.inr rfl) (Zf rfl rfl) ?_))))
  exact W5c
 try simp only [qB] at hc3
 refine Zh (Zb (Zc (Za ?_)))
 have hne : l ≠ [] := fun e => by have h9 := congrArg List.length e; simp only [List.length_nil] at h9; omega
 refine Lm u43 ?_
 refine Zs rfl rfl rfl (by exact Clone_L _ _ _ hne hl) ?_
 rintro _ _ ⟨rfl, rfl⟩
 refine Le u43 ?_
 refine Lm u43 ?_
 refine Lm u43 ?_
 refine Lo u43 (W14 rfl rfl rfl) ?_
 refine Zs rfl rfl rfl (by exact Del_atI _ _ i _ (by omega) (by omega) hl) ?_
 rintro _ _ ⟨rfl, rfl⟩
 refine Le u43 ?_
 refine Lo u43 (ZP rfl rfl) ?_
 refine Lo u43 (ZP rfl rfl) ?_
 refine Lo u43 (W13 rfl rfl rfl rfl rfl rfl rfl) ?_
 refine Lo u43 (Ya (VVal.int .u64 0) rfl rfl rfl rfl rfl rfl rfl XH0 XH5 XH1) ?_
 refine Zd (Zb (Zc (Zc (Za (Lm u43 ?_)))))
 refine Lm u43 ?_
 refine Lo u43 (W18 rfl rfl rfl rfl rfl rfl rfl) ?_
 refine Lo u43 (W12 rfl rfl rfl rfl) ?_
 refine Zs rfl rfl rfl (by exact Zc8 _ _) ?_
 rintro _ _ ⟨rfl, rfl⟩
 refine Le u43 ?_
 refine Zs rfl rfl rfl (by exact Zcu _ _) ?_
 rintro _ _ ⟨rfl, rfl⟩
 refine Le u43 ?_
 refine Zd (Zb (Zg (Zr (mk 43 8791798054815) (env' := u43) rfl ?_)))
 refine Zct cI (pl (l.getD i.toNat 0) 0) (fun l0 h => by cases h) rfl (fun l G R h => Za3 _ _ _ _ h) (σ := BitVec 64) (fun k s => H ++ [.dead, .cells [fzW (l.eraseIdx i.toNat)] true, .cells [iW s] true, k]) 0#64 (fun k => by rw [List.append_assoc]; rfl) (fun k s => by rw [List.length_append]; exact ZI rfl rfl) (fun k k1 s => by rw [List.length_append]; exact ZO rfl) (fun pre s => s = frF l i.toNat pre) ?_ (fun j pre c s => False) rfl ?_ ?_ ?_
 ·rfl
 ·intro pre c post s hx hI kr kb hkr hkb
  try dsimp only at hI ⊢
  subst hI
  have hc : c ∈ pl (l.getD i.toNat 0) 0 := by rw [hx]; simp
  obtain ⟨_, hc64, hcb⟩ := mem_pl.1 hc
  refine ZL (env' := u43) rfl ?_
  refine Za (La u43 ?_)
  refine Zd (⟨rfl, (frF l i.toNat pre), rfl, ?_⟩)
  try dsimp only
  refine Zg (Zc (ZK [0, 1, 2, 3] #[0, 0, 2, 7] XH3 XH3 XH3 ?_))
  refine Ok u43 rfl (W12 rfl rfl rfl rfl) ?_
  refine Om u43 ?_
  refine Oc u43 rfl (Qh rfl rfl rfl XH4) ?_
  refine Yd (env' := u43) rfl rfl rfl rfl rfl (by exact full_spec _ _ _ (by first | assumption | (rw [List.length_eraseIdx_of_lt (by omega)]; omega))) XH8 rfl rfl ?_
  refine ZW [] XH3 (trivial) ?_
  refine Zb (Zi _ rfl (fun hc4 => ?_) (fun hc4 => ?_))
  ·try simp only [qB] at hc4
   refine ZK [0, 1, 2, 3, 4] #[0, 0, 2, 7, 15] XH3 XH3 XH3 ?_
   refine Ok u43 rfl (W12 rfl rfl rfl rfl) ?_
   refine Om u43 ?_
   refine Oc u43 rfl (Qh rfl rfl rfl XH4) ?_
   refine Oc u43 rfl (ZcG rfl rfl rfl) ?_
   refine Oo u43 .turn rfl (W13 rfl rfl rfl rfl rfl rfl rfl) ?_
   refine ZW [] XH3 (trivial) ?_
   refine Zq (⟨_, rfl, .inl ⟨rfl, ?_⟩⟩)
   rw [frF_snoc]
   first
    | rw [if_pos (by assumption)]; rfl
    | rw [if_neg (Yr (by assumption))]
  try simp only [qB] at hc4
  refine Zh (Zq (⟨_, rfl, .inl ⟨rfl, ?_⟩⟩))
  rw [frF_snoc]
  first
   | rw [if_pos (by assumption)]; rfl
   | rw [if_neg (Yr (by assumption))]
 ·intro s k hk hI
  try dsimp only at hI ⊢
  subst hI
  refine Zq (Zb (Zc (Za (Lo u43 (W12 rfl rfl rfl rfl) ?_))))
  refine La u43 ?_
  refine Zd (Zb (Zj (W10 (.inr rfl) (Zf rfl rfl) ?_)))
  exact W5c
 rintro j pre c post s k hk hx ⟨⟩
end MM
open Go Go.V Go.RowKit
abbrev u77 {a0 a1 a2 a3 a4 a5 a6 a7 a8 a9 a10 a11 a12 a13 a14 a15 a16 a17 a18 a19 a20 a21 a22 a23 a24 a25 a26 a27 a28 a29 a30 a31 a32 a33 a34 a35 a36 a37 a38 a39 a40 a41 a42 a43 a44 a45 a46 a47 a48 a49 a50 a51 a52 a53 a54 a55 a56 a57 a58 a59 a60 a61 a62 a63 a64 a65 a66 a67 a68 a69 a70 a71 a72 a73 a74 a75 a76 : VVal} : VEnv := a0 :: a1 :: a2 :: a3 :: a4 :: a5 :: a6 :: a7 :: a8 :: a9 :: a10 :: a11 :: a12 :: a13 :: a14 :: a15 :: a16 :: a17 :: a18 :: a19 :: a20 :: a21 :: a22 :: a23 :: a24 :: a25 :: a26 :: a27 :: a28 :: a29 :: a30 :: a31 :: a32 :: a33 :: a34 :: a35 :: a36 :: a37 :: a38 :: a39 :: a40 :: a41 :: a42 :: a43 :: a44 :: a45 :: a46 :: a47 :: a48 :: a49 :: a50 :: a51 :: a52 :: a53 :: a54 :: a55 :: a56 :: a57 :: a58 :: a59 :: a60 :: a61 :: a62 :: a63 :: a64 :: a65 :: a66 :: a67 :: a68 :: a69 :: a70 :: a71 :: a72 :: a73 :: a74 :: a75 :: a76 :: []
theorem W5i {P : Prop} (h : P := by first | exact ⟨by rw [coV, if_neg (by omega)]; rfl, rfl⟩ | (obtain rfl : u = 64 := by omega); exact ⟨by rw [coV, if_pos (by omega), show (Y7 rows.length (wU rows (Z8 most 65536) 64)).getD ((2 ^ rows.length - 1 : Nat) : Int).toNat 0 = _ from Zb6 (by omega)]; unfold wU; rw [Int.toNat_natCast, wS_end], rfl⟩) : P := h
theorem W5j {T : TypeId → Option VTy} {H : Ze} {op : Op} {ρ : Operand → VVal} {t e : TypeId} {x i : Operand} {y z : VTy} {k : IntKind} {n : Int} {p v : VVal} {es : Nat} (ho : op = .indexAddr t x i) (hx : ρ x = p) (hi : ρ i = .int k n) (hy : T t = some y) (hd : y.desc = .slice e) (hz : T e = some z) (hs : z.size = es) (h : IxOk p es n v := by first | exact .inl ⟨_, _, _, rfl, by show (0 : Int) ≤ 0 ∧ (0 : Int) < ((2 ^ rows.length : Nat) : Int); omega, rfl⟩ | exact .inr ⟨_, _, _, _, _, rfl, by show (0 : Int) ≤ 0 ∧ (0 : Int) < ((2 ^ rows.length : Nat) : Int); omega, rfl⟩) : vop T ρ H op = some (v, H) := v_ix ho hx hi hy hd hz hs h
theorem W5k {T : TypeId → Option VTy} {H : Ze} {op : Op} {ρ : VEnv} {H' : Ze} {t : TypeId} {a : Operand} {i : Nat} {v : VVal} {y : VTy} {b off : Nat} {cs new : List VVal} (ho : op = .store t a (.tmp i)) (hv : ρ[i]? = some v) (ha : ρ.eval a = .ptr (some (b, off))) (hy : T t = some y) (hx : v.cells = some new) (hn : new.length = y.size) (h1 : new.all VVal.one = true) (hb : H[b]? = some (.cells cs true) := by exact XH35) (hl : off + new.length ≤ cs.length := by rw [List.length_map, List.length_replicate]; show 0 + 0 * 1 + 1 ≤ _; omega) (hH : H.set b (.cells (Zx cs off new) true) = H' := by exact (ZO rfl).trans (congrArg (fun c => H ++ [VBlk.cells c true]) ((Zb9 (l := List.replicate (2 ^ rows.length) 0#64) (k := 0) (w := Z8 (Z8 most 65536) 1) (by rw [List.length_replicate]; omega)).trans (by rw [way_start])))) : vop T ρ.eval H op = some (.skip, H') := Z3 ho hv ha hy hx hn h1 hb hl hH
theorem W5m {T : TypeId → Option VTy} {H : Ze} {op : Op} {ρ : Operand → VVal} {t : TypeId} {a : Operand} {y : VTy} {p v : VVal} (ho : op = .load t a) (ha : ρ a = p) (hy : T t = some y) (hd : Zk y.desc = false) (h : LdOk H p v := by first | exact .inl ⟨_, _, rfl, by first | exact Jj (α := BitVec 64) 0 (by omega) | exact XE (α := BitVec 64) 0 (by omega) | rfl⟩ | exact .inr ⟨_, _, _, _, rfl, XH35, by first | exact Jj (α := BitVec 64) 0 (by omega) | exact XE (α := BitVec 64) 0 (by omega) | rfl⟩) : vop T ρ H op = some (v, H) := Yv ho ha hy hd h
theorem W5n {T : TypeId → Option VTy} {H : Ze} {op : Op} {ρ : Operand → VVal} {t : TypeId} {a : Operand} {y : VTy} {p v : VVal} (ho : op = .load t a) (ha : ρ a = p) (hy : T t = some y) (hd : Zk y.desc = false) (h : LdOk H p v := by first | exact .inl ⟨_, _, rfl, by exact XE (α := BitVec 64) (l := Y7 rows.length (wF rows (Z8 most 65536) u s k)) (n := (s : Nat)) 0 (by rw [Xx]; omega)⟩ | exact .inr ⟨_, _, _, _, rfl, XH35, by exact XE (α := BitVec 64) (l := Y7 rows.length (wF rows (Z8 most 65536) u s k)) (n := (s : Nat)) 0 (by rw [Xx]; omega)⟩) : vop T ρ H op = some (v, H) := Yv ho ha hy hd h
theorem W5o {T : TypeId → Option VTy} {H : Ze} {op : Op} {ρ : Operand → VVal} {t e : TypeId} {x i : Operand} {y z : VTy} {k : IntKind} {n : Int} {p v : VVal} {es : Nat} (ho : op = .indexAddr t x i) (hx : ρ x = p) (hi : ρ i = .int k n) (hy : T t = some y) (hd : y.desc = .slice e) (hz : T e = some z) (hs : z.size = es) (h : IxOk p es n v := by first | exact .inl ⟨_, _, _, rfl, by have h9 := JC (s := s) (i := k) (by assumption); show (0 : Int) ≤ (less s k : Nat) ∧ ((less s k : Nat) : Int) < ((2 ^ rows.length : Nat) : Int); omega, rfl⟩ | exact .inr ⟨_, _, _, _, _, rfl, by have h9 := JC (s := s) (i := k) (by assumption); show (0 : Int) ≤ (less s k : Nat) ∧ ((less s k : Nat) : Int) < ((2 ^ rows.length : Nat) : Int); omega, rfl⟩) : vop T ρ H op = some (v, H) := v_ix ho hx hi hy hd hz hs h
theorem W5p {T : TypeId → Option VTy} {H : Ze} {op : Op} {ρ : Operand → VVal} {t : TypeId} {a : Operand} {y : VTy} {p v : VVal} (ho : op = .load t a) (ha : ρ a = p) (hy : T t = some y) (hd : Zk y.desc = false) (h : LdOk H p v := by first | exact .inl ⟨_, _, rfl, by exact XE (α := BitVec 64) (l := Y7 rows.length (wF rows (Z8 most 65536) u s k)) (n := (less s k : Nat)) 0 (by rw [Xx]; have h9 := JC (s := s) (i := k) (by assumption); omega)⟩ | exact .inr ⟨_, _, _, _, rfl, XH35, by exact XE (α := BitVec 64) (l := Y7 rows.length (wF rows (Z8 most 65536) u s k)) (n := (less s k : Nat)) 0 (by rw [Xx]; have h9 := JC (s := s) (i := k) (by assumption); omega)⟩) : vop T ρ H op = some (v, H) := Yv ho ha hy hd h
theorem W5q {T : TypeId → Option VTy} {H : Ze} {op : Op} {ρ : VEnv} {H' : Ze} {t : TypeId} {a : Operand} {i : Nat} {v : VVal} {y : VTy} {b off : Nat} {cs new : List VVal} (ho : op = .store t a (.tmp i)) (hv : ρ[i]? = some v) (ha : ρ.eval a = .ptr (some (b, off))) (hy : T t = some y) (hx : v.cells = some new) (hn : new.length = y.size) (h1 : new.all VVal.one = true) (hb : H[b]? = some (.cells cs true) := by exact XH35) (hl : off + new.length ≤ cs.length := by rw [List.length_map, Xx]; show 0 + s * 1 + 1 ≤ _; omega) (hH : H.set b (.cells (Zx cs off new) true) = H' := by exact (ZO rfl).trans (congrArg (fun c => H ++ [VBlk.cells c true]) ((Zb9 (l := Y7 rows.length (wF rows (Z8 most 65536) u s k)) (k := s) (w := Z8 (Z8 most 65536) (wP rows u s k + wS rows u (less s k))) (by rw [Xx]; exact hs)).trans (by rw [way_set hm hs (by assumption) (sh1.1 (by assumption))])))) : vop T ρ.eval H op = some (.skip, H') := Z3 ho hv ha hy hx hn h1 hb hl hH
theorem W5t {T : TypeId → Option VTy} {H : Ze} {op : Op} {ρ : Operand → VVal} {t : TypeId} {a : Operand} {y : VTy} {p v : VVal} (ho : op = .load t a) (ha : ρ a = p) (hy : T t = some y) (hd : Zk y.desc = false) (h : LdOk H p v := by first | exact .inl ⟨_, _, rfl, by exact XE (α := BitVec 64) (l := Y7 rows.length (wU rows (Z8 most 65536) u)) (n := ((2 ^ rows.length - 1 : Nat) : Int)) 0 (by rw [Xx]; omega)⟩ | exact .inr ⟨_, _, _, _, rfl, XH35, by exact XE (α := BitVec 64) (l := Y7 rows.length (wU rows (Z8 most 65536) u)) (n := ((2 ^ rows.length - 1 : Nat) : Int)) 0 (by rw [Xx]; omega)⟩) : vop T ρ H op = some (v, H) := Yv ho ha hy hd h
namespace MM
theorem minW {a b : BitVec 64} : (if (b.toNat : Int) < (a.toNat : Int) then (b.toNat : Int) else (a.toNat : Int)) = ((Z8 a b.toNat).toNat : Int) := by
 rw [Ys]; split <;> omega
theorem rep_w : ∀ {n : Nat}, ZH [VVal.int .u64 0] n = (List.replicate n 0#64).map iW
 | 0 => rfl
 | n + 1 => by rw [ZH, rep_w, List.replicate_succ]; rfl
section
variable {T : TypeId → Option VTy} {ρ : Operand → VVal} {H : Ze} {op : Op}
theorem pow12 {i : Nat} (h : i ≤ 12) : 2 ^ i ≤ 4096 := Nat.pow_le_pow_right (by decide) h
theorem v_shlI1 {t ty : TypeId} {y : Operand} {k : IntKind} {i : Nat} (ho : op = .binOp .shl t (.const (.int .i64 1)) y ty) (hy : ρ y = .int k (i : Nat)) (hr : ρ (.const (.int .i64 1)) = .int .i64 1) (h : i ≤ 12) : vop T ρ H op = some (.int .i64 ((2 ^ i : Nat) : Int), H) := by
 rw [ho]; simp only [vop, hr, hy, Zar, J8]
 rw [if_neg (by omega), show min (i : Int).toNat IntKind.i64.bits = i from by show min (i : Int).toNat 64 = i; omega, Int.one_mul]
 have e : (2 : Int) ^ i = ((2 ^ i : Nat) : Int) := by rw [Int.natCast_pow]; rfl
 have := pow12 h
 rw [e]
 generalize 2 ^ i = p at this ⊢
 rw [Zbi _ (by omega)]; rfl
theorem v_shrI {t ty : TypeId} {x y : Operand} {k : IntKind} {s i : Nat} (ho : op = .binOp .shr t x y ty) (hx : ρ x = .int .i64 (s : Nat)) (hy : ρ y = .int k (i : Nat)) (h : i ≤ 12) : vop T ρ H op = some (.int .i64 ((s / 2 ^ i : Nat) : Int), H) := by
 rw [ho]; simp only [vop, hx, hy, Zar, J8]
 rw [if_neg (by omega), show min (i : Int).toNat IntKind.i64.bits = i from by show min (i : Int).toNat 64 = i; omega]
 have e : (2 : Int) ^ i = ((2 ^ i : Nat) : Int) := by rw [Int.natCast_pow]; rfl
 rw [e, ← Int.ofNat_fdiv]; rfl
end
theorem and1 {n : Nat} (h : n < 2 ^ 63) : QU .and .i64 (n : Int) 1 = ((n % 2 : Nat) : Int) := by
 show IntKind.i64.wrap ((BitVec.ofInt 64 (n : Int) &&& BitVec.ofInt 64 ((1 : Nat) : Int)).toNat : Int) = _
 rw [BitVec.ofInt_natCast, BitVec.ofInt_natCast, BitVec.toNat_and, BitVec.toNat_ofNat, BitVec.toNat_ofNat, Nat.mod_eq_of_lt (Nat.lt_trans h (by decide)), Nat.mod_eq_of_lt (by decide : 1 < 2 ^ 64), show (1 : Nat) = 2 ^ 1 - 1 from rfl, Nat.and_two_pow_sub_one_eq_mod]
 exact Zbi _ (by have : n % 2 ^ 1 < 2 := Nat.mod_lt _ (by decide); omega)
theorem tb_is {s i : Nat} (hs : s < 4096) : (QU .and .i64 ((s / 2 ^ i : Nat) : Int) 1 == 1) = s.testBit i := by
 have h1 : s / 2 ^ i ≤ s := Nat.div_le_self _ _
 rw [and1 (by omega), Nat.testBit_eq_decide_div_mod_eq, Bool.eq_iff_iff, beq_iff_eq, decide_eq_true_eq]; omega
theorem andNot_less {s i : Nat} (hs : s < 4096) (hi : i ≤ 12) (h : s.testBit i = true) : QU .andNot .i64 (s : Int) ((2 ^ i : Nat) : Int) = ((less s i : Nat) : Int) := by
 have hl := JC h
 have hp := pow12 hi
 show IntKind.i64.wrap ((BitVec.ofInt 64 (s : Int) &&& ~~~(BitVec.ofInt 64 ((2 ^ i : Nat) : Int))).toNat : Int) = _
 have e : (BitVec.ofInt 64 (s : Int) &&& ~~~(BitVec.ofInt 64 ((2 ^ i : Nat) : Int))).toNat = less s i := by
  rw [BitVec.ofInt_natCast, BitVec.ofInt_natCast]
  apply Nat.eq_of_testBit_eq
  intro j
  rw [Zaz h]
  by_cases hj : j < 64
  ·have : (BitVec.ofNat 64 s &&& ~~~BitVec.ofNat 64 (2 ^ i)).getLsbD j = (s.testBit j && decide (j ≠ i)) := by
    rw [BitVec.getLsbD_and, BitVec.getLsbD_not, BitVec.getLsbD_ofNat, BitVec.getLsbD_ofNat, Nat.testBit_two_pow, decide_eq_true hj]
    by_cases e : j = i
    ·subst e; simp
    have : ¬ i = j := fun x => e x.symm
    simp [e, this]
   exact this
  have h1 : s.testBit j = false := Nat.testBit_lt_two_pow (Nat.lt_of_lt_of_le (show s < 2 ^ 12 from hs) (Nat.pow_le_pow_right (by decide) (by omega)))
  rw [h1, Bool.false_and]
  exact Nat.testBit_lt_two_pow (Nat.lt_of_lt_of_le (BitVec.isLt _) (Nat.pow_le_pow_right (by decide) (by omega)))
 rw [e]
 exact Zbi _ (by omega)
theorem way_start {rows : List (BitVec 64)} {most : BitVec 64} : (List.replicate (2 ^ rows.length) 0#64).set 0 (Z8 most 1) = Y7 rows.length (wU rows most 0) := by
 have h0 : List.replicate (2 ^ rows.length) 0#64 = Y7 rows.length fun _ => 0#64 := by
  unfold Y7
  rw [List.map_const', List.length_range]
 rw [h0]
 refine wayL_set ?_ fun s hs hne => ?_
 ·unfold wU; rw [wS_0]
 unfold wU; rw [wS_start hs, if_neg hne, satW_0]
theorem way_top {rows : List (BitVec 64)} {most : BitVec 64} {u : Nat} : Y7 rows.length (wU rows most u) = Y7 rows.length (wF rows most u (2 ^ rows.length - 1) 0) := JP fun s hs => by
 unfold wU wF; rw [if_neg (by omega)]; split
 ·rename_i h; subst h; rfl
 rfl
theorem way_down {rows : List (BitVec 64)} {most : BitVec 64} {u s : Nat} (hu : u < 64) (hs : 0 < s) : Y7 rows.length (wF rows most u s rows.length) = Y7 rows.length (wF rows most u (s - 1) 0) := JP fun s' hs' => by
 unfold wF
 by_cases h1 : s < s'
 ·rw [if_pos h1, if_pos (by omega)]
 by_cases h2 : s' = s
 ·subst h2; rw [if_neg h1, if_pos rfl, if_pos (by omega), wP_all hu]
 rw [if_neg h1, if_neg h2, if_neg (by omega)]
 by_cases h3 : s' = s - 1
 ·rw [if_pos h3, h3]; rfl
 rw [if_neg h3]
theorem way_end {rows : List (BitVec 64)} {most : BitVec 64} {u : Nat} : Y7 rows.length (wF rows most u 0 0) = Y7 rows.length (wU rows most (u + 1)) := JP fun s' _ => by
 unfold wF wU
 by_cases h : s' = 0
 ·subst h; rw [if_neg (by omega), if_pos rfl, wS_0]; show Z8 most (wS rows u 0) = _; rw [wS_0]
 rw [if_pos (by omega)]
theorem way_set {rows : List (BitVec 64)} {most : BitVec 64} {u s k : Nat} (hm : most.toNat ≤ 65536) (hs : s < 2 ^ rows.length) (h1 : s.testBit k = true) (h2 : (rows.getD k 0).getLsbD u = true) :
  (Y7 rows.length (wF rows most u s k)).set s (Z8 most (wP rows u s k + wS rows u (less s k))) = Y7 rows.length (wF rows most u s (k + 1)) := by
 refine wayL_set ?_ fun s' hs' hne => ?_
 ·unfold wF; rw [if_neg (by omega), if_pos rfl, wP, if_pos ⟨h1, h2⟩]
 unfold wF; rw [if_neg hne, if_neg hne]
theorem Qo {rows : List (BitVec 64)} {most : BitVec 64} {u s k : Nat} (h : ¬ (s.testBit k = true ∧ (rows.getD k 0).getLsbD u = true)) : wF rows most u s k = wF rows most u s (k + 1) := by
 funext s'
 unfold wF; rw [wP, if_neg h]
theorem way_at {rows : List (BitVec 64)} {most : BitVec 64} {u s k : Nat} (hs : s < 2 ^ rows.length) : (Y7 rows.length (wF rows most u s k)).getD s 0 = Z8 most (wP rows u s k) := by
 rw [Zb6 hs]; unfold wF; rw [if_neg (by omega), if_pos rfl]
theorem way_less {rows : List (BitVec 64)} {most : BitVec 64} {u s k i : Nat} (hs : s < 2 ^ rows.length) (h : s.testBit i = true) : (Y7 rows.length (wF rows most u s k)).getD (less s i) 0 = Z8 most (wS rows u (less s i)) := by
 have hl := JC h
 rw [Zb6 (by omega)]; unfold wF; rw [if_neg (by omega), if_neg (by omega)]
def coV (rows : List (BitVec 64)) (m : BitVec 64) : BitVec 64 := if rows.length ≤ 12 then Z8 m (cnT rows 0#64) else 0#64
theorem mCount_spec {x : SW} (H : Ze) (rows : List (BitVec 64)) (most : BitVec 64) (hl : rows.length ≤ 1000000) : F (psys x) 61 [fzW rows, iW most] H fun v G => v = iW (coV rows (Z8 most 65536)) ∧ G = H := by
 refine Zp Tryd.func61 rfl u77 rfl ?_
 refine Zc (Za (Lk u77 (.int .u64 0) ?_))
 refine Zd (Zb (Zc (Zc (Za (Lm u77 ?_)))))
 refine Zs rfl rfl rfl (by exact Zdg _ _) ?_
 rintro _ _ ⟨rfl, rfl⟩
 refine Le u77 ?_
 refine Lo u77 rfl ?_
 refine Zd (Zb (Zi _ rfl (fun hc1 => ?_) (fun hc1 => ?_)))
 ·try simp only [qB] at hc1
  refine Zc (Za (Lk u77 (.int .u64 0) ?_))
  refine Zd (Zb (Zj (Zl (W10 (.inr rfl) (Zf rfl rfl) ?_))))
  exact W5i
 try simp only [qB] at hc1
 refine Zh (Zb (Zc (Za ?_)))
 have hm : (Z8 most 65536).toNat ≤ 65536 := by rw [Ys]; omega
 have hp := pow12 (i := rows.length) (by omega)
 have hp0 : 0 < 2 ^ rows.length := Nat.two_pow_pos _
 refine Lm u77 ?_
 refine Lo u77 (Xg rfl ((congrArg (VVal.int .u64) (minW (a := most) (b := 65536#64))).trans rfl)) ?_
 refine La u77 ?_
 refine Zd (Zb (Zc (Za (Lm u77 ?_))))
 refine Lo u77 rfl ?_
 refine Lo u77 (v_shlI1 rfl rfl rfl (by omega)) ?_
 refine Lo u77 (Yz rfl rfl rfl rfl rfl (by decide) ⟨by omega, Int.le_refl _, by show ((2 ^ rows.length : Nat) : Int) * (8 : Nat) ≤ _; omega, by omega⟩) ?_
 refine ZcB (H' := H ++ [.cells ((List.replicate (2 ^ rows.length) 0#64).map iW) true]) (by show _ ++ [VBlk.cells (ZH [VVal.int .u64 0] _) true] = _; rw [rep_w]; rfl) ?_
 refine La u77 ?_
 refine Zd (Zb (Zc (Za (Lm u77 ?_))))
 refine Lm u77 ?_
 refine Lo u77 (Xg rfl ((congrArg (VVal.int .u64) (minW (a := 1#64) (b := (Z8 most 65536)))).trans (by rw [show Z8 1#64 (Z8 most 65536).toNat = Z8 (Z8 most 65536) 1 from by apply BitVec.eq_of_toNat_eq; rw [Ys, Ys (most := (Z8 most 65536)) (n := 1)]; exact Nat.min_comm _ _]))) ?_
 refine Lo u77 (W5j rfl rfl rfl rfl rfl rfl rfl) ?_
 refine Lo u77 (W5k rfl rfl rfl rfl rfl rfl rfl) ?_
 refine Zd (Zb (Zc (Zc (Za (Lo u77 (Z4 (VVal.int .i64 0) (.inl rfl) rfl) ?_)))))
 refine Zd (Zb (Zg (Zr (mk 77 151115727451828638449628) (env' := u77) rfl ?_)))
 refine Zw (fun (u : Nat) => 64 - u) (fun (u : Nat) => [(23, iI (u : Nat))]) (fun (u : Nat) G => (u ≤ 64) ∧ G = H ++ [.cells ((Y7 rows.length (wU rows (Z8 most 65536) u)).map iW) true]) 0 rfl ?_ ?_
 ·refine ⟨?_, rfl⟩
  exact Nat.zero_le _
 rintro u _ ⟨hu, rfl⟩
 refine ZL (env' := u77) rfl ?_
 refine Zc (Za (Lo u77 rfl ?_))
 refine Zd (Zb (Zc (Zi _ rfl (fun hc2 => ?_) (fun hc2 => ?_))))
 ·try simp only [qB] at hc2
  refine Zh (Zb (Zc (Zg (Zc (Za (Lm u77 ?_))))))
  refine La u77 ?_
  refine Zd (Zb (Zc (Za (Lm u77 ?_))))
  refine Lo u77 rfl ?_
  refine Lo u77 (Xg (v_subI rfl rfl rfl (by show -9223372036854775808 ≤ ((2 ^ rows.length : Nat) : Int) - 1 ∧ ((2 ^ rows.length : Nat) : Int) - 1 < 9223372036854775808; omega)) (congrArg iI (show ((2 ^ rows.length : Nat) : Int) - 1 = ((2 ^ rows.length - 1 : Nat) : Int) by omega))) ?_
  refine La u77 ?_
  refine Zd (Zb (Zg (Zr (mk 77 151115727451828638449436) (env' := u77) rfl ?_)))
  refine Zw (fun (s : Nat) => s) (fun (s : Nat) => [(7, iI (s : Nat))]) (fun (s : Nat) G => (s < 2 ^ rows.length) ∧ G = H ++ [.cells ((Y7 rows.length (wF rows (Z8 most 65536) u s 0)).map iW) true]) (2 ^ rows.length - 1) rfl ?_ ?_
  ·refine ⟨?_, (by rw [way_top])⟩
   omega
  rintro s _ ⟨hs, rfl⟩
  refine ZL (env' := u77) rfl ?_
  refine Zc (Zc (Za (Lm u77 ?_)))
  refine Lo u77 rfl ?_
  refine Zd (Zb (Zi _ rfl (fun hc3 => ?_) (fun hc3 => ?_)))
  ·try simp only [qB] at hc3
   refine Zh (Zb (Zc (Zg (Zc (Za (Lm u77 ?_))))))
   refine Lo u77 rfl ?_
   refine Lo u77 (Z4 (VVal.int .i64 0) (.inl rfl) rfl) ?_
   refine Zd (Zb (Zg (Zr (mk 77 151115727451768508907292) (env' := u77) rfl ?_)))
   refine Zw (fun (k : Nat) => rows.length - k) (fun (k : Nat) => [(35, iI (k : Nat))]) (fun (k : Nat) G => (k ≤ rows.length) ∧ G = H ++ [.cells ((Y7 rows.length (wF rows (Z8 most 65536) u s k)).map iW) true]) 0 rfl ?_ ?_
   ·refine ⟨?_, rfl⟩
    exact Nat.zero_le _
   rintro k _ ⟨hk, rfl⟩
   refine ZL (env' := u77) rfl ?_
   refine Zc (Za (Lo u77 rfl ?_))
   refine Zd (Zb (Zc (Zi _ rfl (fun hc4 => ?_) (fun hc4 => ?_))))
   ·try simp only [qB] at hc4
    refine Zh (Zb (Zc (Zg (Zc (Za (Lm u77 ?_))))))
    refine Lo u77 (W18 rfl rfl rfl rfl rfl rfl rfl) ?_
    refine Lo u77 (W5m rfl rfl rfl rfl) ?_
    refine La u77 ?_
    refine La u77 ?_
    refine Zd (Zb (Zc (Za (Lm u77 ?_))))
    refine Lm u77 ?_
    refine Lo u77 (v_shrI rfl rfl rfl (by omega)) ?_
    refine Lo u77 rfl ?_
    refine Lo u77 (QA (s.testBit k) rfl (tb_is (by omega))) ?_
    refine Lm u77 ?_
    refine ZB 45 (env1 := u77) (env2 := u77) rfl rfl rfl (fun hg5 => ?_) (fun hg5 => ?_)
    rotate_left
    ·try simp only [qB] at hg5
     refine Lf u77 ?_
     refine Lf u77 ?_
     refine Lf u77 ?_
     refine Lf u77 ?_
     refine Lf u77 ?_
     refine Lo u77 (ZC (VVal.bool false) rfl rfl rfl) ?_
     refine Zd (Zb (Yc rfl rfl ?_))
     refine Zh (Zq (Zb (Za (Lo u77 (W14 rfl rfl rfl) ?_))))
     refine Lm u77 ?_
     refine Zd (Zt (mk 77 151115727451768508907292) (env' := u77) rfl ⟨k + 1, ?_, rfl, ?_⟩)
     ·first | omega | (simp only []; omega)
     first | exact ⟨by omega, rfl⟩ | exact ⟨by omega, by rw [Qo (fun e => absurd e.1 (Yr (by assumption)))]⟩ | exact ⟨by omega, by rw [Qo (fun e => absurd (sh1.2 e.2) (by assumption))]⟩
    try simp only [qB] at hg5
    refine Lm u77 ?_
    refine Lm u77 ?_
    refine Lo u77 (Xd rfl rfl rfl XH4) ?_
    refine Lo u77 (Xs (b := 1#64) rfl rfl rfl) ?_
    refine Lo u77 rfl ?_
    refine Lo u77 (ZM rfl rfl rfl) ?_
    refine Zd (Zb (Zi _ rfl (fun hc6 => ?_) (fun hc6 => ?_)))
    ·try simp only [qB] at hc6
     refine ZK [0, 1, 2, 3, 4, 5, 6, 7, 8, 9, 10, 11, 12, 13, 14, 15, 16, 17] #[0, 0, 0, 0, 12, 28, 0, 0, 0, 256, 896, 1984, 4032, 8188, 0, 32764, 65535, 131071] XH3 XH3 XH3 ?_
     refine Om u77 ?_
     refine Om u77 ?_
     refine Om u77 ?_
     refine Om u77 ?_
     refine Oc u77 rfl (W18 rfl rfl rfl rfl rfl rfl rfl) ?_
     refine Ok u77 rfl (W5n rfl rfl rfl rfl) ?_
     refine Om u77 ?_
     refine Om u77 ?_
     refine Om u77 ?_
     refine Oc u77 rfl (v_shlI1 rfl rfl rfl (by omega)) ?_
     refine Oc u77 rfl (Xg rfl (congrArg (VVal.int .i64) (andNot_less (by omega) (by omega) (by assumption)))) ?_
     refine Oc u77 rfl (W5o rfl rfl rfl rfl rfl rfl rfl) ?_
     refine Ok u77 rfl (W5p rfl rfl rfl rfl) ?_
     refine Oc u77 rfl (XY rfl rfl rfl) ?_
     refine Om u77 ?_
     refine Oc u77 rfl (Xg rfl ((congrArg (VVal.int .u64) (by rw [show (Y7 rows.length (wF rows (Z8 most 65536) u s k)).getD (s : Int).toNat 0 = Z8 (Z8 most 65536) (wP rows u s k) from way_at hs, show (Y7 rows.length (wF rows (Z8 most 65536) u s k)).getD ((less s k : Nat) : Int).toNat 0 = Z8 (Z8 most 65536) (wS rows u (less s k)) from way_less hs (by assumption)]; exact sat_add hm) : _ = VVal.int .u64 ((Z8 (Z8 most 65536) (wP rows u s k + wS rows u (less s k))).toNat : Int)))) ?_
     refine Oc u77 rfl (W18 rfl rfl rfl rfl rfl rfl rfl) ?_
     refine Oo u77 .turn rfl (W5q rfl rfl rfl rfl rfl rfl rfl) ?_
     refine ZW [] XH3 (trivial) ?_
     refine Zq (Zb (Za (Lo u77 (W14 rfl rfl rfl) ?_)))
     refine Lm u77 ?_
     refine Zd (Zt (mk 77 151115727451768508907292) (env' := u77) rfl ⟨k + 1, ?_, rfl, ?_⟩)
     ·first | omega | (simp only []; omega)
     first | exact ⟨by omega, rfl⟩ | exact ⟨by omega, by rw [Qo (fun e => absurd e.1 (Yr (by assumption)))]⟩ | exact ⟨by omega, by rw [Qo (fun e => absurd (sh1.2 e.2) (by assumption))]⟩
    try simp only [qB] at hc6
    refine Zh (Zq (Zb (Za (Lo u77 (W14 rfl rfl rfl) ?_))))
    refine Lm u77 ?_
    refine Zd (Zt (mk 77 151115727451768508907292) (env' := u77) rfl ⟨k + 1, ?_, rfl, ?_⟩)
    ·first | omega | (simp only []; omega)
    first | exact ⟨by omega, rfl⟩ | exact ⟨by omega, by rw [Qo (fun e => absurd e.1 (Yr (by assumption)))]⟩ | exact ⟨by omega, by rw [Qo (fun e => absurd (sh1.2 e.2) (by assumption))]⟩
   try simp only [qB] at hc4
   refine Zz (ZA (Zu (Zy (Zq (Zb (Za (Lm u77 ?_)))))))
   refine Lo u77 (W1y rfl rfl rfl) ?_
   refine La u77 ?_
   refine Zd ?_
   obtain rfl : k = rows.length := by omega
   rw [show (s : Int) - 1 = ((s - 1 : Nat) : Int) by omega]
   refine Zt (mk 77 151115727451828638449436) (env' := u77) rfl ⟨(s - 1), ?_, rfl, ?_⟩
   ·first | omega | (simp only []; omega)
   exact ⟨by omega, by rw [way_down (by omega) (by omega)]⟩
  try simp only [qB] at hc3
  refine Zz (ZA (Zu (Zy (Zq (Zb (Za (Lo u77 (W14 rfl rfl rfl) ?_)))))))
  refine Lm u77 ?_
  refine Zd (Zt (mk 77 151115727451828638449628) (env' := u77) rfl ⟨u + 1, ?_, rfl, ?_⟩)
  ·first | omega | (simp only []; omega)
  exact ⟨by omega, by rw [← way_end, show s = 0 by omega]⟩
 try simp only [qB] at hc2
 refine Zz (ZA (Zu (Zy (Zb (Zc (Za (Lm u77 ?_)))))))
 refine Lm u77 ?_
 refine Lo u77 rfl ?_
 refine Lo u77 (Xg (v_subI rfl rfl rfl (by show -9223372036854775808 ≤ ((2 ^ rows.length : Nat) : Int) - 1 ∧ ((2 ^ rows.length : Nat) : Int) - 1 < 9223372036854775808; omega)) (congrArg iI (show ((2 ^ rows.length : Nat) : Int) - 1 = ((2 ^ rows.length - 1 : Nat) : Int) by omega))) ?_
 refine Lo u77 (W18 rfl rfl rfl rfl rfl rfl rfl) ?_
 refine Lo u77 (W5t rfl rfl rfl rfl) ?_
 refine La u77 ?_
 refine Zd (Zb (Zj (W10 (.inr rfl) (Zf rfl rfl) ?_)))
 exact W5i
end MM
open Go Go.V Go.RowKit
abbrev seB (w : BitVec 64) : VBlk := .cells [iW w] true
abbrev jN (u : Nat) : VVal := iI (u : Nat)
theorem Yr {b : Bool} (h : b = false) : ¬ b = true := by rw [h]; decide
theorem beq_nat {a b : Nat} : ((a : Int) == (b : Int)) = (a == b) := Bool.eq_iff_iff.2 (by rw [beq_iff_eq, beq_iff_eq]; omega)
theorem find_no' {pre : List Nat} {f : Nat → Bool} (h : ∀ v, v ∈ pre → f v = false) : pre.find? f = none := List.find?_eq_none.2 fun v hv => by rw [h v hv]; decide
theorem find_yes {pre post : List Nat} {c : Nat} {f : Nat → Bool} (h : ∀ v, v ∈ pre → f v = false) (hc : f c = true) : (pre ++ c :: post).find? f = some c := by
 rw [List.find?_append, find_no' h, List.find?_cons, hc]; rfl
theorem full0 {l : List (BitVec 64)} : Yk l 0#64 = true ↔ Mat l := by rw [fullB_iff, msk_0]
def szV (l : List (BitVec 64)) : Int := if l.length ≤ 12 then (szN l : Nat) else 0
def leV (rows : List (BitVec 64)) : VVal := if rows.length ≤ 12 ∧ Yk rows 0#64 = true then .tuple [fzN (lst rows 0#64), .bool true] else .tuple [fzN [], .bool false]
abbrev u69 {a0 a1 a2 a3 a4 a5 a6 a7 a8 a9 a10 a11 a12 a13 a14 a15 a16 a17 a18 a19 a20 a21 a22 a23 a24 a25 a26 a27 a28 a29 a30 a31 a32 a33 a34 a35 a36 a37 a38 a39 a40 a41 a42 a43 a44 a45 a46 a47 a48 a49 a50 a51 a52 a53 a54 a55 a56 a57 a58 a59 a60 a61 a62 a63 a64 a65 a66 a67 a68 : VVal} : VEnv := a0 :: a1 :: a2 :: a3 :: a4 :: a5 :: a6 :: a7 :: a8 :: a9 :: a10 :: a11 :: a12 :: a13 :: a14 :: a15 :: a16 :: a17 :: a18 :: a19 :: a20 :: a21 :: a22 :: a23 :: a24 :: a25 :: a26 :: a27 :: a28 :: a29 :: a30 :: a31 :: a32 :: a33 :: a34 :: a35 :: a36 :: a37 :: a38 :: a39 :: a40 :: a41 :: a42 :: a43 :: a44 :: a45 :: a46 :: a47 :: a48 :: a49 :: a50 :: a51 :: a52 :: a53 :: a54 :: a55 :: a56 :: a57 :: a58 :: a59 :: a60 :: a61 :: a62 :: a63 :: a64 :: a65 :: a66 :: a67 :: a68 :: []
theorem W5v {T : TypeId → Option VTy} {H : Ze} {op : Op} {ρ : Operand → VVal} {t : TypeId} {a : Operand} {y : VTy} {p v : VVal} (ho : op = .load t a) (ha : ρ a = p) (hy : T t = some y) (hd : Zk y.desc = false) (h : LdOk H p v := by first | exact .inl ⟨_, _, rfl, by first | exact Jj (α := BitVec 64) 0 (by omega) | exact XE (α := Int) 0 (by omega) | rfl⟩ | exact .inr ⟨_, _, _, _, rfl, by first | exact tr_q hqH | exact tr_p hpH hpq, by first | exact Jj (α := BitVec 64) 0 (by omega) | exact XE (α := Int) 0 (by omega) | rfl⟩) : vop T ρ H op = some (v, H) := Yv ho ha hy hd h
theorem W5x {T : TypeId → Option VTy} {H : Ze} {op : Op} {ρ : VEnv} {H' : Ze} {t : TypeId} {a : Operand} {i : Nat} {v : VVal} {y : VTy} {b off : Nat} {cs new : List VVal} (ho : op = .store t a (.tmp i)) (hv : ρ[i]? = some v) (ha : ρ.eval a = .ptr (some (b, off))) (hy : T t = some y) (hx : v.cells = some new) (hn : new.length = y.size) (h1 : new.all VVal.one = true) (hb : H[b]? = some (.cells cs true) := by first | exact tr_q hqH | exact tr_p hpH hpq) (hl : off + new.length ≤ cs.length := by exact XH38) (hH : H.set b (.cells (Zx cs off new) true) = H' := by exact tr_setq hqH) : vop T ρ.eval H op = some (.skip, H') := Z3 ho hv ha hy hx hn h1 hb hl hH
theorem W5y {T : TypeId → Option VTy} {H : Ze} {op : Op} {ρ : Operand → VVal} {t : TypeId} {a : Operand} {y : VTy} {p v : VVal} (ho : op = .load t a) (ha : ρ a = p) (hy : T t = some y) (hd : Zk y.desc = false) (h : LdOk H p v := by first | exact .inl ⟨_, _, rfl, by exact XE (α := Int) (l := s1.1) 0 (by omega)⟩ | exact .inr ⟨_, _, _, _, rfl, by first | exact tr_q hqH | exact tr_p hpH hpq, by exact XE (α := Int) (l := s1.1) 0 (by omega)⟩) : vop T ρ H op = some (v, H) := Yv ho ha hy hd h
theorem W5z {T : TypeId → Option VTy} {H : Ze} {op : Op} {ρ : VEnv} {H' : Ze} {t : TypeId} {a : Operand} {i : Nat} {v : VVal} {y : VTy} {b off : Nat} {cs new : List VVal} (ho : op = .store t a (.tmp i)) (hv : ρ[i]? = some v) (ha : ρ.eval a = .ptr (some (b, off))) (hy : T t = some y) (hx : v.cells = some new) (hn : new.length = y.size) (h1 : new.all VVal.one = true) (hb : H[b]? = some (.cells cs true) := by first | exact tr_q hqH | exact tr_p hpH hpq) (hl : off + new.length ≤ cs.length := by first | exact has_len (s := (s1.1, 0#64)) (show i < s1.1.length by omega) | exact has_len (s := (trn rows n k (s1.1, s1.2 ||| 1#64 <<< u)).2) (by rw [trn_len]; show i < s1.1.length; omega)) (hH : H.set b (.cells (Zx cs off new) true) = H' := by first | exact tr_setp hpH hpq (show i < s1.1.length by omega) | exact tr_setp hpH hpq (by rw [trn_len]; show i < s1.1.length; omega)) : vop T ρ.eval H op = some (.skip, H') := Z3 ho hv ha hy hx hn h1 hb hl hH
theorem W60 {S : V.Sys} {H : Ze} {fn : Func} {ex : Exit} {env : VEnv} {B L : Ze} {v : VVal} {R : VVal → Ze → Prop} (hx : ex = .normal ∨ ex = .ret) (hv : ZX S.C.T env (B ++ L) fn.results = some v) (h : R v B) (hB : BaseOk H B := by exact tr_base) (hu : v.under H.length = true := by exact XH49) : fnK S fn H R ex env (B ++ L) := Xk hx hv hB hu h
theorem W61 {P : Prop} (h : P := by first | (obtain rfl : u = 64 := by omega); exact ⟨by rw [hg]; rfl, by rw [hg]; rfl⟩ | exact ⟨by rw [hg, hf, if_pos (by omega)], by rw [hg, hf, if_pos (by omega)]; rfl⟩ | exact ⟨by rw [hg, hf, if_neg (by omega), if_pos (by assumption)], by rw [hg, hf, if_neg (by omega), if_pos (by assumption)]; rfl⟩) : P := h
abbrev haB (has : List Int) : VBlk := .cells (has.map iI) true
def trH (H : Ze) (p q : Nat) (s : HSt) : Ze := (H.set p (haB s.1)).set q (seB s.2)
section
variable {H L : Ze} {p q : Nat} {s : HSt}
theorem trH_len {n : Nat} (h : H.length = n) : (trH H p q s).length = n := by unfold trH; rw [List.length_set, List.length_set]; exact h
theorem trH_id {has : List Int} {w : BitVec 64} (hp : H[p]? = some (haB has)) (hq : H[q]? = some (seB w)) : trH H p q (has, w) = H := by
 unfold trH; rw [← YG hp, ← YG hq]
theorem tr_q (hq : q < H.length) : (trH H p q s ++ L)[q]? = some (seB s.2) := by
 unfold trH; exact Zn (List.getElem?_set_self (by rw [List.length_set]; exact hq))
theorem tr_p (hp : p < H.length) (hpq : p ≠ q) : (trH H p q s ++ L)[p]? = some (haB s.1) := by
 unfold trH; exact Zn (by rw [List.getElem?_set_ne (Ne.symm hpq)]; exact List.getElem?_set_self hp)
theorem tr_setq {w : BitVec 64} (hq : q < H.length) : (trH H p q s ++ L).set q (seB w) = trH H p q (s.1, w) ++ L := by
 rw [Yl (by rw [trH_len rfl]; exact hq)]; unfold trH; rw [List.set_set]
theorem tr_setp0 {k : VBlk} (hp : p < H.length) (hpq : p ≠ q) : (trH H p q s ++ L).set p k = (H.set p k).set q (seB s.2) ++ L := by
 rw [Yl (by rw [trH_len rfl]; exact hp)]; unfold trH
 rw [List.set_comm _ _ (Ne.symm hpq), List.set_set]
theorem splice_i {l : List Int} {k : Nat} {r : Int} (h : k < l.length) : Zx (l.map iI) (0 + k * 1) [iI r] = (l.set k r).map iI := by
 rw [show 0 + k * 1 = k by omega]
 unfold Zx
 rw [List.map_set, List.set_eq_take_append_cons_drop, if_pos XH31]; simp
theorem tr_setp {i : Nat} {r : Int} (hp : p < H.length) (hpq : p ≠ q) (hi : i < s.1.length) : (trH H p q s ++ L).set p (.cells (Zx (s.1.map iI) (0 + i * 1) [iI r]) true) = trH H p q (s.1.set i r, s.2) ++ L := by
 rw [splice_i hi, tr_setp0 hp hpq]; rfl
theorem tr_tr {t : HSt} (hp : p < H.length) (hq : q < H.length) (hpq : p ≠ q) : trH (trH H p q s ++ L) p q t = trH H p q t ++ L := by
 have : trH (trH H p q s ++ L) p q t = ((trH H p q s ++ L).set p (haB t.1)).set q (seB t.2) := rfl
 rw [this, tr_setp0 hp hpq, Yl (by simp; exact hq), List.set_set]; rfl
theorem tr_base : BaseOk H (trH H p q s) := BaseOk.set (BaseOk.set (BaseOk.refl _) _ (by show VVal.underL _ (s.1.map iI) = true; exact Xb _ _)) _ rfl
theorem has_len {i : Nat} {v : VVal} (h : i < s.1.length) : 0 + i * 1 + [v].length ≤ (s.1.map iI).length := by
 show 0 + i * 1 + 1 ≤ (s.1.map iI).length
 rw [List.length_map]; omega
end
theorem trn_len {rows : List (BitVec 64)} : ∀ {n i : Nat} {s : HSt}, (trn rows n i s).2.1.length = s.1.length := by
 have hL : ∀ (g : Nat → HSt → Bool × HSt), (∀ k s, (g k s).2.1.length = s.1.length) → ∀ (i : Nat) (l : List Nat) (s : HSt), (trL g rows i l s).2.1.length = s.1.length := by
  intro g hg i l
  induction l with
  | nil => intro s; rfl
  | cons u l ih =>
   intro s
   rw [trL]
   split
   ·exact ih s
   split
   ·simp
   split
   ·simp [hg]
   rw [ih, hg]
 intro n
 induction n with
 | zero => intro i s; rfl
 | succ n ih => intro i s; rw [trn]; exact hL _ (fun k s => ih) i _ s
theorem trn_sub {rows : List (BitVec 64)} : ∀ {n i : Nat} {s : HSt}, subW s.2 (trn rows n i s).2.2 := by
 have hL : ∀ (g : Nat → HSt → Bool × HSt), (∀ k s, subW s.2 (g k s).2.2) → ∀ (i : Nat) (l : List Nat) (s : HSt), (∀ u, u ∈ l → u < 64) → subW s.2 (trL g rows i l s).2.2 := by
  intro g hg i l
  induction l with
  | nil => intro s _ _ h; exact h
  | cons u l ih =>
   intro s hl
   have hu := hl u (List.mem_cons_self ..)
   have hl' : ∀ v, v ∈ l → v < 64 := fun v hv => hl v (List.mem_cons_of_mem _ hv)
   have h1 : subW s.2 (s.2 ||| 1#64 <<< u) := fun a ha => (or1 hu).2 (.inl ha)
   have h2 := hg (JH s.1 u) (s.1, s.2 ||| 1#64 <<< u)
   rw [trL]
   split
   ·exact ih s hl'
   split
   ·exact h1
   split
   ·exact fun a ha => h2 a (h1 a ha)
   exact fun a ha => ih _ hl' a (h2 a (h1 a ha))
 intro n
 induction n with
 | zero => intro i s _ h; exact h
 | succ n ih => intro i s; rw [trn]; exact hL _ (fun k s => ih) i _ s fun u hu => List.mem_range.1 hu
theorem sh_not0 {d : BitVec 64} {k : Nat} (h : ¬ d >>> k &&& 1#64 = 0#64) : d.getLsbD k = true := by rw [sh0] at h; simpa using h
theorem YY {g : Nat → HSt → Bool × HSt} {rows : List (BitVec 64)} {i u : Nat} {s : HSt} (hu : u < 64) : trL g rows i ((List.range 64).drop u) s = if (rows.getD i 0).getLsbD u = false ∨ s.2.getLsbD u = true then trL g rows i ((List.range 64).drop (u + 1)) s
  else if JH s.1 u = s.1.length then (true, (s.1.set i (u : Int), s.2 ||| 1#64 <<< u))
  else if (g (JH s.1 u) (s.1, s.2 ||| 1#64 <<< u)).1 = true then (true, ((g (JH s.1 u) (s.1, s.2 ||| 1#64 <<< u)).2.1.set i (u : Int), (g (JH s.1 u) (s.1, s.2 ||| 1#64 <<< u)).2.2))
  else trL g rows i ((List.range 64).drop (u + 1)) (g (JH s.1 u) (s.1, s.2 ||| 1#64 <<< u)).2 := by
 rw [List.drop_eq_getElem_cons (by simpa using hu), trL]; simp only [List.getElem_range]
theorem turn_in {x : SW} {p q n : Nat} {ex : Bool} {rows : List (BitVec 64)} (hpq : p ≠ q) (ih : ∀ (H : Ze) (i : Nat) (has : List Int) (S : BitVec 64), H[p]? = some (haB has) → H[q]? = some (seB S) → i < rows.length → has.length = rows.length → 64 - YA 64 S < n → F (psys x) 169 [fzW rows, .slice (some (p, 0)) rows.length rows.length ex 1, .ptr (some (q, 0)), iI (i : Nat)] H fun v G => v = .bool (trn rows n i (has, S)).1 ∧ G = trH H p q (trn rows n i (has, S)).2) (H L : Ze) (s : HSt) (hp : p < H.length) (hq : q < H.length) (i : Nat) (hi : i < rows.length) (hk : s.1.length = rows.length) (hm : 64 - YA 64 s.2 < n) :
  F (psys x) 169 [fzW rows, .slice (some (p, 0)) rows.length rows.length ex 1, .ptr (some (q, 0)), iI (i : Nat)] (trH H p q s ++ L) fun v G => v = .bool (trn rows n i s).1 ∧ G = trH H p q (trn rows n i s).2 ++ L := by
 have := ih (trH H p q s ++ L) i s.1 s.2 (tr_p hp hpq) (tr_q hq) hi hk hm
 rw [tr_tr hp hq hpq] at this
 exact this
theorem turn_s {x : SW} (p q n : Nat) (ex : Bool) (rows : List (BitVec 64)) (hpq : p ≠ q) (h62 : rows.length ≤ 1000000) (ih : ∀ (H : Ze) (i : Nat) (has : List Int) (S : BitVec 64), H[p]? = some (haB has) → H[q]? = some (seB S) → i < rows.length → has.length = rows.length → 64 - YA 64 S < n → F (psys x) 169 [fzW rows, .slice (some (p, 0)) rows.length rows.length ex 1, .ptr (some (q, 0)), iI (i : Nat)] H fun v G => v = .bool (trn rows n i (has, S)).1 ∧ G = trH H p q (trn rows n i (has, S)).2) (H : Ze) (i : Nat) (has : List Int) (S : BitVec 64) (hp : H[p]? = some (haB has)) (hq : H[q]? = some (seB S)) (hi : i < rows.length) (hhl : has.length = rows.length) (hm : 64 - YA 64 S < n + 1) : F (psys x) 169 [fzW rows, .slice (some (p, 0)) rows.length rows.length ex 1, .ptr (some (q, 0)), iI (i : Nat)] H fun v G => v = .bool (trn rows (n + 1) i (has, S)).1 ∧ G = trH H p q (trn rows (n + 1) i (has, S)).2 := by
 have hpH := ZG hp
 have hqH := ZG hq
 refine Zp Tryd.func169 rfl u69 rfl ?_
 refine Zc (Za (Lk u69 (.bool false) ?_))
 refine Zd (Zb (Zc (Zc (Za (Lk u69 (.int .i64 0) ?_)))))
 refine Zd (Zb (Zg (Zr (mk 69 590295810358705651184) (env' := u69) rfl ?_)))
 refine Zw (fun (⟨u, s1⟩ : Nat × HSt) => 64 - u) (fun (⟨u, s1⟩ : Nat × HSt) => [(9, iI (u : Nat))]) (fun (⟨u, s1⟩ : Nat × HSt) G => (u ≤ 64 ∧ s1.1.length = rows.length ∧ 64 - YA 64 s1.2 ≤ n ∧ trn rows (n + 1) i (has, S) = trL (trn rows n) rows i ((List.range 64).drop u) s1) ∧ G = trH H p q s1 ++ []) ⟨0, (has, S)⟩ rfl ?_ ?_
 ·refine ⟨?_, (by rw [trH_id hp hq])⟩
  exact ⟨Nat.zero_le _, hhl, by show 64 - YA 64 S ≤ n; omega, rfl⟩
 rintro ⟨u, s1⟩ _ ⟨⟨hu, hl1, hcm, hg⟩, rfl⟩
 refine ZL (env' := u69) rfl ?_
 have hil : i < s1.1.length := by omega
 refine Zc (Zc (Za (Lm u69 ?_)))
 refine Lo u69 rfl ?_
 refine Zd (Zb (Zi _ rfl (fun hc1 => ?_) (fun hc1 => ?_)))
 ·try simp only [qB] at hc1
  refine Zh (Zb (Zc (Zg (Zc (Zc (Za (Lm u69 ?_)))))))
  refine Lm u69 ?_
  refine Lo u69 (W18 rfl rfl rfl rfl rfl rfl rfl) ?_
  refine Lo u69 (W5v rfl rfl rfl rfl) ?_
  refine Lm u69 ?_
  refine Lo u69 (Xd rfl rfl rfl XH4) ?_
  refine Lo u69 (Xs (b := 1#64) rfl rfl rfl) ?_
  refine Lo u69 rfl ?_
  refine Lm u69 ?_
  refine ZB 23 (env1 := u69) (env2 := u69) rfl rfl rfl (fun hg2 => ?_) (fun hg2 => ?_)
  ·try simp only [qB] at hg2
   refine Lf u69 ?_
   refine Lf u69 ?_
   refine Lf u69 ?_
   refine Lf u69 ?_
   refine Lf u69 ?_
   refine Lf u69 ?_
   refine Lf u69 ?_
   refine Lo u69 (ZF (VVal.bool true) rfl rfl rfl) ?_
   refine Zd (Zb (ZN rfl rfl ?_))
   refine Zz (ZA (Zy (Zb (Za (Lm u69 ?_)))))
   refine Lo u69 (W14 rfl rfl rfl) ?_
   refine La u69 ?_
   refine Zd (Zt (mk 69 590295810358705651184) (env' := u69) rfl ⟨⟨u + 1, s1⟩, ?_, rfl, ?_⟩)
   ·first | omega | (simp only []; omega)
   first | exact ⟨⟨by omega, hl1, hcm, by rw [hg, YY (by omega), if_pos (.inl (sh0.1 (by assumption)))]⟩, rfl⟩ | exact ⟨⟨by omega, hl1, hcm, by rw [hg, YY (by omega), if_pos (.inr (sh1.1 (by assumption)))]⟩, rfl⟩ | exact ⟨⟨by omega, trn_len.trans hl1, XH11, by rw [hg, hf, if_neg (by omega), if_neg (Yr (by assumption))]⟩, rfl⟩
  try simp only [qB] at hg2
  refine Lm u69 ?_
  refine Lo u69 rfl ?_
  refine Lo u69 (W5v rfl rfl rfl rfl) ?_
  refine Lm u69 ?_
  refine Lo u69 (Xd rfl rfl rfl XH4) ?_
  refine Lo u69 (Xs (b := 1#64) rfl rfl rfl) ?_
  refine Lo u69 rfl ?_
  refine Lo u69 (ZY rfl rfl rfl) ?_
  refine Zd (Zb (Zi _ rfl (fun hc3 => ?_) (fun hc3 => ?_)))
  ·try simp only [qB] at hc3
   refine Zz (ZA (Zy (Zb (Za (Lm u69 ?_)))))
   refine Lo u69 (W14 rfl rfl rfl) ?_
   refine La u69 ?_
   refine Zd (Zt (mk 69 590295810358705651184) (env' := u69) rfl ⟨⟨u + 1, s1⟩, ?_, rfl, ?_⟩)
   ·first | omega | (simp only []; omega)
   first | exact ⟨⟨by omega, hl1, hcm, by rw [hg, YY (by omega), if_pos (.inl (sh0.1 (by assumption)))]⟩, rfl⟩ | exact ⟨⟨by omega, hl1, hcm, by rw [hg, YY (by omega), if_pos (.inr (sh1.1 (by assumption)))]⟩, rfl⟩ | exact ⟨⟨by omega, trn_len.trans hl1, XH11, by rw [hg, hf, if_neg (by omega), if_neg (Yr (by assumption))]⟩, rfl⟩
  try simp only [qB] at hc3
  refine Zh (Zb (Zc ?_))
  have hu64 : u < 64 := by omega
  have hbit : (rows.getD i 0).getLsbD u = true := sh_not0 (by assumption)
  have hseen : s1.2.getLsbD u = false := sh1n.1 (by assumption)
  have hcond : ¬ ((rows.getD i 0).getLsbD u = false ∨ s1.2.getLsbD u = true) := fun e => e.elim (fun h => by rw [hbit] at h; cases h) (fun h => by rw [hseen] at h; cases h)
  have hcg := Jt (s := s1.2) (t := s1.2 ||| 1#64 <<< u) (fun a ha => (or1 hu64).2 (.inl ha)) ⟨u, (or1 hu64).2 (.inr rfl), hseen⟩
  have hcl := ZbG (s1.2 ||| 1#64 <<< u)
  rw [YY hu64, if_neg hcond] at hg
  refine ZK [0, 1, 2, 3, 4, 5, 6, 7, 8] #[0, 0, 2, 6, 0, 16, 62, 127, 255] XH3 XH3 XH3 ?_
  refine Om u69 ?_
  refine Om u69 ?_
  refine Oc u69 rfl rfl ?_
  refine Ok u69 rfl (W5v rfl rfl rfl rfl) ?_
  refine Om u69 ?_
  refine Oc u69 rfl (Qh rfl rfl rfl XH4) ?_
  refine Oc u69 rfl (ZcG rfl rfl rfl) ?_
  refine Oc u69 rfl rfl ?_
  refine Oo u69 .turn rfl (W5x rfl rfl rfl rfl rfl rfl rfl) ?_
  refine ZW [] XH3 (trivial) ?_
  refine Zb (Zc (Za (Lk u69 (.int .i64 0) ?_)))
  refine Zd (Zb (Zc (Zg (Zr (mk 69 590295810358705650160) (env' := u69) rfl ?_))))
  refine Zw (fun (k : Nat) => rows.length - k) (fun (k : Nat) => [(10, iI (k : Nat))]) (fun (k : Nat) G => (k ≤ rows.length ∧ ∀ j, j < k → s1.1.getD j 0 ≠ (u : Int)) ∧ G = trH H p q (s1.1, s1.2 ||| 1#64 <<< u) ++ []) 0 rfl ?_ ?_
  ·refine ⟨?_, rfl⟩
   exact ⟨Nat.zero_le _, fun j h => by omega⟩
  rintro k _ ⟨⟨hk, hno⟩, rfl⟩
  refine ZL (env' := u69) rfl ?_
  refine Zc (Zc (Za (Lm u69 ?_)))
  refine Lm u69 ?_
  refine Lo u69 rfl ?_
  refine Lo u69 rfl ?_
  refine Lm u69 ?_
  refine ZB 44 (env1 := u69) (env2 := u69) rfl rfl rfl (fun hg4 => ?_) (fun hg4 => ?_)
  ·try simp only [qB] at hg4
   refine Lm u69 ?_
   refine Lm u69 ?_
   refine Lo u69 (W18 rfl rfl rfl rfl rfl rfl rfl) ?_
   refine Lo u69 (W5y rfl rfl rfl rfl) ?_
   refine Lm u69 ?_
   refine Lo u69 rfl ?_
   refine Lo u69 (ZM rfl rfl rfl) ?_
   refine Zd (Zb (Zi _ rfl (fun hc5 => ?_) (fun hc5 => ?_)))
   ·try simp only [qB] at hc5
    refine Zh (Zb (Zg (Za (Lm u69 ?_))))
    refine Lo u69 (W14 rfl rfl rfl) ?_
    refine La u69 ?_
    refine Zd (Zq (Zt (mk 69 590295810358705650160) (env' := u69) rfl ⟨k + 1, ?_, rfl, ?_⟩))
    ·first | omega | (simp only []; omega)
    exact ⟨⟨by omega, fun j hj => by by_cases e : j = k; (subst e; assumption); exact hno j (by omega)⟩, rfl⟩
   try simp only [qB] at hc5
   refine Zz (ZA (Zu (Zy (Zb (Zc ?_)))))
   have hf : JH s1.1 u = k := ZbE (by omega) hno (by first | exact .inr (by assumption) | exact .inl (by omega))
   refine Za (Lm u69 ?_)
   refine Lm u69 ?_
   refine Lo u69 rfl ?_
   refine Lo u69 rfl ?_
   refine Lm u69 ?_
   refine ZB 58 (env1 := u69) (env2 := u69) rfl rfl rfl (fun hg6 => ?_) (fun hg6 => ?_)
   ·try simp only [qB] at hg6
    refine Lf u69 ?_
    refine Lf u69 ?_
    refine Lf u69 ?_
    refine Lf u69 ?_
    refine Lf u69 ?_
    refine Lo u69 (ZF (VVal.bool true) rfl rfl rfl) ?_
    refine Zd (Zb (ZN rfl rfl ?_))
    refine Zc (Za (Lm u69 ?_))
    refine Lm u69 ?_
    refine Lm u69 ?_
    refine Lo u69 (W18 rfl rfl rfl rfl rfl rfl rfl) ?_
    refine Lo u69 (W5z rfl rfl rfl rfl rfl rfl rfl) ?_
    refine Zd (Zb (Zc (Za (Lk u69 (.bool true) ?_))))
    refine Zd (Zb (Zj (ZE (Zl (Ye (ZE (Zl (W60 (.inr rfl) (Zf rfl rfl) ?_))))))))
    exact W61
   try simp only [qB] at hg6
   refine Lm u69 ?_
   refine Lm u69 ?_
   refine Lm u69 ?_
   refine Lm u69 ?_
   refine Zs rfl rfl rfl XH33 ?_
   rintro _ _ ⟨rfl, rfl⟩
   refine Le u69 ?_
   refine Lo u69 (ZY rfl rfl rfl) ?_
   refine Zd (Zb (Zi _ rfl (fun hc7 => ?_) (fun hc7 => ?_)))
   ·try simp only [qB] at hc7
    refine Zc (Za (Lm u69 ?_))
    refine Lm u69 ?_
    refine Lm u69 ?_
    refine Lo u69 (W18 rfl rfl rfl rfl rfl rfl rfl) ?_
    refine Lo u69 (W5z rfl rfl rfl rfl rfl rfl rfl) ?_
    refine Zd (Zb (Zc (Za (Lk u69 (.bool true) ?_))))
    refine Zd (Zb (Zj (ZE (Zl (Ye (ZE (Zl (W60 (.inr rfl) (Zf rfl rfl) ?_))))))))
    exact W61
   try simp only [qB] at hc7
   refine Zh (Zq (Zb (Za (Lm u69 ?_))))
   refine Lo u69 (W14 rfl rfl rfl) ?_
   refine La u69 ?_
   refine Zd (Zt (mk 69 590295810358705651184) (env' := u69) rfl ⟨⟨u + 1, (trn rows n k (s1.1, s1.2 ||| 1#64 <<< u)).2⟩, ?_, rfl, ?_⟩)
   ·first | omega | (simp only []; omega)
   first | exact ⟨⟨by omega, hl1, hcm, by rw [hg, YY (by omega), if_pos (.inl (sh0.1 (by assumption)))]⟩, rfl⟩ | exact ⟨⟨by omega, hl1, hcm, by rw [hg, YY (by omega), if_pos (.inr (sh1.1 (by assumption)))]⟩, rfl⟩ | exact ⟨⟨by omega, trn_len.trans hl1, XH11, by rw [hg, hf, if_neg (by omega), if_neg (Yr (by assumption))]⟩, rfl⟩
  try simp only [qB] at hg4
  refine Lf u69 ?_
  refine Lf u69 ?_
  refine Lf u69 ?_
  refine Lf u69 ?_
  refine Lf u69 ?_
  refine Lf u69 ?_
  refine Lo u69 (ZC (VVal.bool false) rfl rfl rfl) ?_
  refine Zd (Zb (Yc rfl rfl ?_))
  refine Zz (ZA (Zu (Zy (Zb (Zc ?_)))))
  have hf : JH s1.1 u = k := ZbE (by omega) hno (by first | exact .inr (by assumption) | exact .inl (by omega))
  refine Za (Lm u69 ?_)
  refine Lm u69 ?_
  refine Lo u69 rfl ?_
  refine Lo u69 rfl ?_
  refine Lm u69 ?_
  refine ZB 58 (env1 := u69) (env2 := u69) rfl rfl rfl (fun hg8 => ?_) (fun hg8 => ?_)
  ·try simp only [qB] at hg8
   refine Lf u69 ?_
   refine Lf u69 ?_
   refine Lf u69 ?_
   refine Lf u69 ?_
   refine Lf u69 ?_
   refine Lo u69 (ZF (VVal.bool true) rfl rfl rfl) ?_
   refine Zd (Zb (ZN rfl rfl ?_))
   refine Zc (Za (Lm u69 ?_))
   refine Lm u69 ?_
   refine Lm u69 ?_
   refine Lo u69 (W18 rfl rfl rfl rfl rfl rfl rfl) ?_
   refine Lo u69 (W5z rfl rfl rfl rfl rfl rfl rfl) ?_
   refine Zd (Zb (Zc (Za (Lk u69 (.bool true) ?_))))
   refine Zd (Zb (Zj (ZE (Zl (Ye (ZE (Zl (W60 (.inr rfl) (Zf rfl rfl) ?_))))))))
   exact W61
  try simp only [qB] at hg8
  refine Lm u69 ?_
  refine Lm u69 ?_
  refine Lm u69 ?_
  refine Lm u69 ?_
  refine Zs rfl rfl rfl XH33 ?_
  rintro _ _ ⟨rfl, rfl⟩
  refine Le u69 ?_
  refine Lo u69 (ZY rfl rfl rfl) ?_
  refine Zd (Zb (Zi _ rfl (fun hc9 => ?_) (fun hc9 => ?_)))
  ·try simp only [qB] at hc9
   refine Zc (Za (Lm u69 ?_))
   refine Lm u69 ?_
   refine Lm u69 ?_
   refine Lo u69 (W18 rfl rfl rfl rfl rfl rfl rfl) ?_
   refine Lo u69 (W5z rfl rfl rfl rfl rfl rfl rfl) ?_
   refine Zd (Zb (Zc (Za (Lk u69 (.bool true) ?_))))
   refine Zd (Zb (Zj (ZE (Zl (Ye (ZE (Zl (W60 (.inr rfl) (Zf rfl rfl) ?_))))))))
   exact W61
  try simp only [qB] at hc9
  refine Zh (Zq (Zb (Za (Lm u69 ?_))))
  refine Lo u69 (W14 rfl rfl rfl) ?_
  refine La u69 ?_
  refine Zd (Zt (mk 69 590295810358705651184) (env' := u69) rfl ⟨⟨u + 1, (trn rows n k (s1.1, s1.2 ||| 1#64 <<< u)).2⟩, ?_, rfl, ?_⟩)
  ·first | omega | (simp only []; omega)
  first | exact ⟨⟨by omega, hl1, hcm, by rw [hg, YY (by omega), if_pos (.inl (sh0.1 (by assumption)))]⟩, rfl⟩ | exact ⟨⟨by omega, hl1, hcm, by rw [hg, YY (by omega), if_pos (.inr (sh1.1 (by assumption)))]⟩, rfl⟩ | exact ⟨⟨by omega, trn_len.trans hl1, XH11, by rw [hg, hf, if_neg (by omega), if_neg (Yr (by assumption))]⟩, rfl⟩
 try simp only [qB] at hc1
 refine Zz (ZA (Zu (Zy (Zb (Zc (Za (Lk u69 (.bool false) ?_)))))))
 refine Zd (Zb (Zj (W60 (.inr rfl) (Zf rfl rfl) ?_)))
 exact W61
abbrev u36 {a0 a1 a2 a3 a4 a5 a6 a7 a8 a9 a10 a11 a12 a13 a14 a15 a16 a17 a18 a19 a20 a21 a22 a23 a24 a25 a26 a27 a28 a29 a30 a31 a32 a33 a34 a35 : VVal} : VEnv := a0 :: a1 :: a2 :: a3 :: a4 :: a5 :: a6 :: a7 :: a8 :: a9 :: a10 :: a11 :: a12 :: a13 :: a14 :: a15 :: a16 :: a17 :: a18 :: a19 :: a20 :: a21 :: a22 :: a23 :: a24 :: a25 :: a26 :: a27 :: a28 :: a29 :: a30 :: a31 :: a32 :: a33 :: a34 :: a35 :: []
theorem W63 {P : Prop} (h : P := by first | exact ⟨by rw [szV, if_neg (by omega)], rfl⟩ | (obtain rfl : k = rows.length := by omega); exact ⟨by rw [szV, if_pos (by omega), rsz_all], rfl⟩) : P := h
theorem W66 {T : TypeId → Option VTy} {H : Ze} {op : Op} {ρ : Operand → VVal} {t ty : TypeId} {x y : Operand} {n m : Int} (ho : op = .binOp .add t x y ty) (hx : ρ x = .int .i64 n) (hy : ρ y = .int .i64 m) (h : -9223372036854775808 ≤ n + m ∧ n + m < 9223372036854775808 := by have := rsz_le (rows := rows) (k := k) (by omega); omega) : vop T ρ H op = some (.int .i64 (n + m), H) := Zab ho hx hy h
theorem W68 {P : Prop} (h : P := by first | exact ⟨by rw [full_sz, decide_eq_true (by omega), Bool.true_and, ← beq_nat]; rw [szV, if_pos (by omega)], rfl⟩ | exact ⟨by rw [decide_eq_false (by omega), Bool.false_and], rfl⟩) : P := h
theorem ZcX {x : SW} (p q : Nat) (ex : Bool) (rows : List (BitVec 64)) (hpq : p ≠ q) (h62 : rows.length ≤ 1000000) : ∀ (n : Nat) (H : Ze) (i : Nat) (has : List Int) (S : BitVec 64), H[p]? = some (haB has) → H[q]? = some (seB S) → i < rows.length → has.length = rows.length → 64 - YA 64 S < n → F (psys x) 169 [fzW rows, .slice (some (p, 0)) rows.length rows.length ex 1, .ptr (some (q, 0)), iI (i : Nat)] H fun v G => v = .bool (trn rows n i (has, S)).1 ∧ G = trH H p q (trn rows n i (has, S)).2
 | 0, _, _, _, _, _, _, _, _, h => absurd h (by omega)
 | n + 1, H, i, has, S, hp, hq, hi, hl, hm => turn_s p q n ex rows hpq h62 (fun H i has S a b c d e => ZcX p q ex rows hpq h62 n H i has S a b c d e) H i has S hp hq hi hl hm
theorem turn_at {x : SW} (H : Ze) (ex : Bool) (rows : List (BitVec 64)) (has : List Int) (i : Nat) (hi : i < rows.length) (hl : has.length = rows.length) (h62 : rows.length ≤ 1000000) : F (psys x) 169 [fzW rows, .slice (some (H.length + 0, 0)) rows.length rows.length ex 1, .ptr (some (H.length + 1, 0)), iI (i : Nat)] (H ++ [haB has, seB 0#64]) fun v G => v = .bool (trn rows 65 i (has, 0#64)).1 ∧ G = H ++ [haB (trn rows 65 i (has, 0#64)).2.1, seB (trn rows 65 i (has, 0#64)).2.2] := by
 have := ZcX (x := x) (H.length + 0) (H.length + 1) ex rows (by omega) h62 65 (H ++ [haB has, seB 0#64]) i has 0#64 (ZI rfl rfl) (ZI rfl rfl) hi hl (by rw [ZcA]; omega)
 unfold trH at this
 rw [ZO rfl, ZO rfl] at this
 exact this
theorem Zdc {n : Nat} {has : List Int} : (haB has).under n = true := Xb _ _
theorem Zc2 : ∀ {n : Nat}, ZH [VVal.int .i64 0] n = (List.replicate n (0 : Int)).map iI
 | 0 => rfl
 | n + 1 => by rw [ZH, Zc2, List.replicate_succ]; rfl
def ZcD (n k : Nat) : List Int := List.replicate k (-1) ++ List.replicate (n - k) 0
theorem iniT_len {n k : Nat} (h : k ≤ n) : (ZcD n k).length = n := by unfold ZcD; simp; omega
theorem iniT_set {n k : Nat} (h : k < n) : (ZcD n k).set k (-1) = ZcD n (k + 1) := by
 unfold ZcD
 rw [List.set_append_right _ _ (by simp), List.length_replicate, Nat.sub_self, show n - k = (n - (k + 1)) + 1 by omega, List.replicate_succ, List.set_cons_zero, List.replicate_succ', List.append_assoc]; rfl
theorem iniT_all {n : Nat} : ZcD n n = List.replicate n (-1) := by unfold ZcD; simp
theorem rsz_len {rows : List (BitVec 64)} {k : Nat} (h : k ≤ rows.length) : (rsz rows k).1.length = rows.length := (ZbA h).1.hl
theorem rsz_le {rows : List (BitVec 64)} {k : Nat} (h : k ≤ rows.length) : (rsz rows k).2 ≤ k := by rw [(ZbA h).2.1]; exact szO_le
theorem full_sz {rows : List (BitVec 64)} : Yk rows 0#64 = (szN rows == rows.length) := by unfold Yk; rw [msk_0]
theorem refSize_spec {x : SW} (H : Ze) (rows : List (BitVec 64)) (h62 : rows.length ≤ 1000000) : F (psys x) 161 [fzW rows] H fun v G => v = iI (szV rows) ∧ G = H := by
 refine Zp Tryd.func161 rfl u36 rfl ?_
 refine Zc (Za (Lk u36 (.int .i64 0) ?_))
 refine Zd (Zb (Zc (Zc (Za (Lm u36 ?_)))))
 refine Lo u36 rfl ?_
 refine Lo u36 rfl ?_
 refine Zd (Zb (Zi _ rfl (fun hc1 => ?_) (fun hc1 => ?_)))
 ·try simp only [qB] at hc1
  refine Zc (Za (Lk u36 (.int .i64 0) ?_))
  refine Zd (Zb (Zj (Zl (W55 (.inr rfl) (Zf rfl rfl) ?_))))
  exact W63
 try simp only [qB] at hc1
 refine Zh (Zb (Zc (Za (Lm u36 ?_))))
 refine Lo u36 rfl ?_
 refine Lo u36 (Yz rfl rfl rfl rfl rfl (by decide) ⟨by omega, Int.le_refl _, by show (rows.length : Int) * (8 : Nat) ≤ _; omega, by omega⟩) ?_
 refine La u36 ?_
 refine Zd (Zb (Zc (Zc (Za (Lk u36 (.int .i64 0) ?_)))))
 refine Zd (Zb (Zg (Zr (mk 36 68719476710) (env' := u36) rfl ?_)))
 refine Zw (fun (k : Nat) => rows.length - k) (fun (k : Nat) => [(4, iI (k : Nat))]) (fun (k : Nat) G => (k ≤ rows.length) ∧ G = H ++ [haB (ZcD rows.length k)]) 0 rfl ?_ ?_
 ·refine ⟨?_, (by show _ ++ [VBlk.cells (ZH [VVal.int .i64 0] _) true] = _; rw [Zc2]; rfl)⟩
  exact Nat.zero_le _
 rintro k _ ⟨hk, rfl⟩
 refine ZL (env' := u36) rfl ?_
 refine Zc (Zc (Za (Lm u36 ?_)))
 refine Lm u36 ?_
 refine Lo u36 rfl ?_
 refine Lo u36 rfl ?_
 refine Zd (Zb (Zi _ rfl (fun hc2 => ?_) (fun hc2 => ?_)))
 ·try simp only [qB] at hc2
  refine Zh (Zb (Zc (Zg (Za (Lm u36 ?_)))))
  refine Lm u36 ?_
  refine Lo u36 (W18 rfl rfl rfl rfl rfl rfl rfl) ?_
  refine Lo u36 (Ya (VVal.int .i64 (-1)) rfl rfl rfl rfl rfl rfl rfl XH0 (by first | exact has_len (s := (ZcD rows.length k, 0#64)) (by rw [iniT_len (by omega)]; omega)) (by exact (ZO rfl).trans (congrArg (fun c => H ++ [VBlk.cells c true]) (splice_i (l := ZcD rows.length k) (k := k) (r := -1) (by rw [iniT_len hk]; omega))))) ?_
  refine Zd (Zq (Zb (Za (Lm u36 ?_))))
  refine Lo u36 (W14 rfl rfl rfl) ?_
  refine La u36 ?_
  refine Zd ?_
  have hE : (ZcD rows.length k).set (k : Int).toNat (-1) = ZcD rows.length (k + 1) := iniT_set (by omega)
  refine Zt (mk 36 68719476710) (env' := u36) rfl ⟨k + 1, ?_, rfl, ?_⟩
  ·first | omega | (simp only []; omega)
  exact ⟨by omega, by rw [← hE]; try rfl⟩
 try simp only [qB] at hc2
 refine Zz (ZA (Zu (Zy (Zb (Zc (Za (Lk u36 (.int .i64 0) ?_)))))))
 refine Zd (Zb (Zc (Zc (Za (Lk u36 (.int .i64 0) ?_)))))
 refine Zd (Zb (Zg (Zr (mk 36 68719476630) (env' := u36) rfl ?_)))
 refine Zw (fun (k : Nat) => rows.length - k) (fun (k : Nat) => [(5, iI ((rsz rows k).2 : Nat)), (6, iI (k : Nat))]) (fun (k : Nat) G => (k ≤ rows.length) ∧ G = H ++ [haB (rsz rows k).1]) 0 rfl ?_ ?_
 ·refine ⟨?_, (by rw [show k = rows.length by omega, iniT_all]; rfl)⟩
  exact Nat.zero_le _
 rintro k _ ⟨hk, rfl⟩
 refine ZL (env' := u36) rfl ?_
 refine Zc (Zc (Za (Lm u36 ?_)))
 refine Lm u36 ?_
 refine Lo u36 rfl ?_
 refine Lo u36 rfl ?_
 refine Zd (Zb (Zi _ rfl (fun hc3 => ?_) (fun hc3 => ?_)))
 ·try simp only [qB] at hc3
  refine Zh (Zb (Zc (Zg (Zc (Za (Lo u36 (ZP rfl rfl) ?_))))))
  refine Lo u36 (Ya (VVal.int .u64 0) rfl rfl rfl rfl rfl rfl rfl XH0 XH5 XH1) ?_
  refine Zd (Zb (Zc (Za (Lm u36 ?_))))
  refine Lm u36 ?_
  refine Lm u36 ?_
  refine Zs rfl rfl rfl (by exact turn_at H _ rows (rsz rows k).1 k (by omega) (rsz_len (by omega)) h62) ?_
  rintro _ _ ⟨rfl, rfl⟩
  refine Le u36 ?_
  refine Zd (Zb (Zi _ rfl (fun hc4 => ?_) (fun hc4 => ?_)))
  ·try simp only [qB] at hc4
   refine Za (Lm u36 ?_)
   refine Lo u36 (W66 rfl rfl rfl) ?_
   refine La u36 ?_
   refine Zd (Zq (Zb (Za (Lm u36 ?_))))
   refine Lo u36 (W14 rfl rfl rfl) ?_
   refine La u36 ?_
   refine Zd ?_
   first
    | (have hE : (((rsz rows k).2 : Nat) : Int) + 1 = ((rsz rows (k + 1)).2 : Nat) := by rw [rsz, if_pos (by assumption)]; rfl); rw [hE]
    | (have hE : (rsz rows k).2 = (rsz rows (k + 1)).2 := by rw [rsz]; simp only; rw [if_neg (Yr (by assumption))]); rw [hE]
   refine JG (mk 36 68719476630) (env' := u36) rfl (Gh.dropTo (L := [haB (rsz rows (k + 1)).1]) (X := [seB _]) 1 rfl (BaseOk.refl _) XH15 (by simp [Zdc])) ⟨k + 1, ?_, rfl, ?_⟩
   ·first | omega | (simp only []; omega)
   exact ⟨by omega, rfl⟩
  try simp only [qB] at hc4
  refine Zh (Zq (Zb (Za (Lm u36 ?_))))
  refine Lo u36 (W14 rfl rfl rfl) ?_
  refine La u36 ?_
  refine Zd ?_
  first
   | (have hE : (((rsz rows k).2 : Nat) : Int) + 1 = ((rsz rows (k + 1)).2 : Nat) := by rw [rsz, if_pos (by assumption)]; rfl); rw [hE]
   | (have hE : (rsz rows k).2 = (rsz rows (k + 1)).2 := by rw [rsz]; simp only; rw [if_neg (Yr (by assumption))]); rw [hE]
  refine JG (mk 36 68719476630) (env' := u36) rfl (Gh.dropTo (L := [haB (rsz rows (k + 1)).1]) (X := [seB _]) 1 rfl (BaseOk.refl _) XH15 (by simp [Zdc])) ⟨k + 1, ?_, rfl, ?_⟩
  ·first | omega | (simp only []; omega)
  exact ⟨by omega, rfl⟩
 try simp only [qB] at hc3
 refine Zz (ZA (Zu (Zy (Zb (Zc (Za (Lm u36 ?_)))))))
 refine La u36 ?_
 refine Zd (Zb (Zj (W55 (.inr rfl) (Zf rfl rfl) ?_)))
 exact W63
theorem Zam {x : SW} (H : Ze) (rows : List (BitVec 64)) (h62 : rows.length ≤ 1000000) : F (psys x) 139 [fzW rows] H fun v G => v = .bool (decide (rows.length ≤ 12) && Yk rows 0#64) ∧ G = H := by
 refine Zp Tryd.func139 rfl u13 rfl ?_
 refine Zc (Za (Lk u13 (.bool false) ?_))
 refine Zd (Zb (Zc (Za (Lm u13 ?_))))
 refine Lo u13 rfl ?_
 refine Lo u13 rfl ?_
 refine Lm u13 ?_
 refine ZB 6 (env1 := u13) (env2 := u13) rfl rfl rfl (fun hg1 => ?_) (fun hg1 => ?_)
 ·try simp only [qB] at hg1
  refine Lm u13 ?_
  refine Zs rfl rfl rfl (by exact refSize_spec _ _ h62) ?_
  rintro _ _ ⟨rfl, rfl⟩
  refine Le u13 ?_
  refine Lm u13 ?_
  refine Lo u13 rfl ?_
  refine Lo u13 rfl ?_
  refine Lo u13 (ZM rfl rfl rfl) ?_
  refine La u13 ?_
  refine Zd (Zb (Zj (W10 (.inr rfl) (Zf rfl rfl) ?_)))
  exact W68
 try simp only [qB] at hg1
 refine Lf u13 ?_
 refine Lf u13 ?_
 refine Lf u13 ?_
 refine Lf u13 ?_
 refine Lf u13 ?_
 refine Lo u13 (ZC (VVal.bool false) rfl rfl rfl) ?_
 refine La u13 ?_
 refine Zd (Zb (Zj (W10 (.inr rfl) (Zf rfl rfl) ?_)))
 exact W68
theorem W6c {S : V.Sys} {H : Ze} {fn : Func} {ex : Exit} {env : VEnv} {B L : Ze} {v : VVal} {R : VVal → Ze → Prop} (hx : ex = .normal ∨ ex = .ret) (hv : ZX S.C.T env (B ++ L) fn.results = some v) (h : R v B) (hB : BaseOk H B := by exact XH41) (hu : v.under H.length = true := by first | rfl | simp [VVal.under, VVal.underL, XU, *]) : fnK S fn H R ex env (B ++ L) := Xk hx hv hB hu h
theorem W6d {P : Prop} (h : P := by first | exact ⟨by rw [leV, if_neg (fun e => by rw [decide_eq_true e.1, e.2] at hc1; cases hc1)]; rfl, rfl⟩ | (obtain rfl : r = [] := List.eq_nil_of_length_eq_zero (by omega)); exact ⟨by rw [leV, if_pos hc1, hlst]; simp [lst], rfl⟩) : P := h
theorem W6e {T : TypeId → Option VTy} {H : Ze} {op : Op} {ρ : Operand → VVal} {t : TypeId} {a : Operand} {y : VTy} {p v : VVal} (ho : op = .load t a) (ha : ρ a = p) (hy : T t = some y) (hd : Zk y.desc = false) (h : LdOk H p v := by first | exact .inl ⟨_, _, rfl, by first | exact Jj (α := BitVec 64) (n := 0) 0 (by omega) | rfl⟩ | exact .inr ⟨_, _, _, _, rfl, XH35, by first | exact Jj (α := BitVec 64) (n := 0) 0 (by omega) | rfl⟩) : vop T ρ H op = some (v, H) := Yv ho ha hy hd h
def gvT (rows : List (BitVec 64)) (t : BitVec 64) (i : Nat) : List (BitVec 64) := msk ((rows.take i).drop 1) t
theorem gvT_1 {rows : List (BitVec 64)} {t : BitVec 64} : gvT rows t 1 = [] := by
 unfold gvT
 cases rows <;> rfl
theorem gvT_succ {rows : List (BitVec 64)} {t : BitVec 64} {i : Nat} (h1 : 1 ≤ i) (h : i < rows.length) : gvT rows t (i + 1) = gvT rows t i ++ [rows.getD (i : Int).toNat 0 &&& ~~~t] := by
 unfold gvT msk
 rw [List.take_succ_eq_append_getElem h, List.drop_append_of_le_length (by rw [List.length_take]; omega), List.map_append, Int.toNat_natCast, List.getD_eq_getElem?_getD, List.getElem?_eq_getElem h]; rfl
theorem gvT_all {rows : List (BitVec 64)} {t : BitVec 64} {i : Nat} (h : rows.length ≤ i) : gvT rows t i = msk (rows.drop 1) t := by
 unfold gvT; rw [List.take_of_length_le h]
theorem ZaY {l : List (BitVec 64)} {s t : BitVec 64} : Yk (msk l s) t = Yk l (s ||| t) := by unfold Yk; rw [msk_msk, Yg]
theorem msk_w {w s t : BitVec 64} : (w &&& ~~~s) &&& ~~~t = w &&& ~~~(s ||| t) := YF fun i hi => by
 simp only [BitVec.getLsbD_and, BitVec.getLsbD_not, BitVec.getLsbD_or, hi, decide_true, Bool.true_and, Bool.not_or, Bool.and_assoc]
theorem lst_msk : ∀ {l : List (BitVec 64)} {s t : BitVec 64}, lst (msk l s) t = lst l (s ||| t)
 | [], s, t => rfl
 | w :: l, s, t => by
  show lst ((w &&& ~~~s) :: msk l s) t = _
  rw [lst, lst, msk_w]
  simp only [ZaY, BitVec.or_assoc, lst_msk]
theorem z_not (w : BitVec 64) : w &&& ~~~0#64 = w := YF fun i hi => by rw [BitVec.getLsbD_and, BitVec.getLsbD_not, BitVec.getLsbD_zero, decide_eq_true hi]; simp
theorem lst_first {w : BitVec 64} {l : List (BitVec 64)} {u : Nat} (hu : u < 64) (h1 : w.getLsbD u = true) (h2 : Yk (msk l (1#64 <<< u)) 0#64 = true) (h3 : ∀ v, v < u → w.getLsbD v = true → Yk (msk l (1#64 <<< v)) 0#64 = false) : lst (w :: l) 0#64 = u :: lst (msk l (1#64 <<< u)) 0#64 := by
 have hor : ∀ v : Nat, 0#64 ||| 1#64 <<< v = 1#64 <<< v ||| 0#64 := fun v => by simp
 have hx : pl w 0 = (List.range u).filter w.getLsbD ++ u :: pl w (u + 1) := by
  have e1 : pl w 0 = (List.range u).filter w.getLsbD ++ pl w u := by
   unfold pl
   rw [show (64 : Nat) - 0 = u + (64 - u) by omega, List.range_eq_range', List.range'_append_1 |>.symm, List.filter_append, Nat.zero_add]
  rw [e1, QL w u, if_pos hu, if_pos h1]
 rw [lst, z_not, hx, find_yes (c := u) (fun v hv => ?_) (by rw [hor, ← ZaY]; exact h2)]
 ·simp only
  rw [hor, lst_msk]
 have hv := List.mem_filter.1 hv
 rw [hor, ← ZaY]; exact h3 v (List.mem_range.1 hv.1) hv.2
theorem first_ex {w : BitVec 64} {l : List (BitVec 64)} (h : Yk (w :: l) 0#64 = true) : ∃ u, u < 64 ∧ w.getLsbD u = true ∧ Yk (msk l (1#64 <<< u)) 0#64 = true := by
 obtain ⟨u, h1, h2⟩ := mat_cons.1 (full0.1 h)
 exact ⟨u, BitVec.lt_of_getLsbD h1, h1, full0.2 h2⟩
theorem LV.appW {h : Nat} {X : Ze} {v : VVal} {l : List (BitVec 64)} {w : BitVec 64} {n : Nat} (r : LV h 1 X v (l.map iW ++ [iW w]) n) : LV h 1 X v ((l ++ [w]).map iW) n := by rw [List.map_append]; exact r
theorem LV.appN {h : Nat} {X : Ze} {v : VVal} {l : List Nat} {u : Nat} {n : Nat} (r : LV h 1 X v (l.map jN ++ [jN u]) n) : LV h 1 X v ((l ++ [u]).map jN) n := by rw [List.map_append]; exact r
theorem Zb0 {x : SW} (H : Ze) (rows : List (BitVec 64)) (u : Nat) (h62 : rows.length ≤ 1000000) : F (psys x) 140 [fzW rows, iI (u : Nat)] H fun v G => v = fzW (msk (rows.drop 1) (1#64 <<< u)) ∧ G = H := by
 refine Zp Tryd.func140 rfl u24 rfl ?_
 refine Zc (Za (Lk u24 (.slice none 0 0 true 0) ?_))
 refine Zd (Zb (Zc (Za (Lk u24 (.slice none 0 0 true 0) ?_))))
 refine Zd (Zb (Zc (Zc (Za (Lk u24 (.int .i64 1) ?_)))))
 refine Zd (Zb (Zg (Zr (mk 24 16777116) (env' := u24) rfl ?_)))
 refine Zw (fun (⟨i, lv⟩ : Nat × VVal) => rows.length - i) (fun (⟨i, lv⟩ : Nat × VVal) => [(5, lv), (6, iI (i : Nat))]) (fun (⟨i, lv⟩ : Nat × VVal) G => (1 ≤ i ∧ (i ≤ rows.length ∨ i = 1)) ∧ ∃ X, G = H ++ X ∧ LV H.length 1 X lv ((gvT rows (1#64 <<< u) i).map iW) (i - 1)) ⟨1, _⟩ rfl ?_ ?_
 ·refine ⟨?_, ⟨_, rfl, by rw [gvT_1]; exact LV.nil _ _ _⟩⟩
  exact ⟨Nat.le_refl _, .inr rfl⟩
 rintro ⟨i, lv⟩ _ ⟨⟨hi1, hi2⟩, ⟨X, rfl, hl⟩⟩
 refine ZL (env' := u24) rfl ?_
 refine Zc (Zc (Za (Lm u24 ?_)))
 refine Lm u24 ?_
 refine Lo u24 rfl ?_
 refine Lo u24 rfl ?_
 refine Zd (Zb (Zi _ rfl (fun hc1 => ?_) (fun hc1 => ?_)))
 ·try simp only [qB] at hc1
  refine Zh (Zb (Zc (Zg (ZK [0, 1, 2, 3, 4, 5, 6, 7, 8, 9, 10] #[0, 0, 0, 6, 14, 0, 32, 126, 254, 511, 1023] XH3 XH3 XH3 ?_))))
  refine Om u24 ?_
  refine Om u24 ?_
  refine Om u24 ?_
  refine Oc u24 rfl (W18 rfl rfl rfl rfl rfl rfl rfl) ?_
  refine Ok u24 rfl (W12 rfl rfl rfl rfl) ?_
  refine Om u24 ?_
  refine Oc u24 rfl (Qh rfl rfl rfl XH4) ?_
  refine Oc u24 rfl (Qj rfl rfl rfl) ?_
  refine Oo u24 .grow rfl (Zv rfl rfl (by decide) rfl) ?_
  refine O_opX .turn rfl rfl rfl (Jx rfl rfl rfl rfl rfl rfl rfl hl rfl rfl (by decide) (by show (i - 1 + 1) * 8 ≤ _ ∧ i - 1 + 1 ≤ _; omega) (by decide)) rfl rfl ?_
  rintro _ _ ⟨Y1, rfl, rfl, hY1, hY2, hY3⟩
  refine Zbr (env' := u24) rfl ?_
  refine Oc u24 rfl (Yo (.inr rfl) rfl) ?_
  refine ZW [] XH3 (trivial) ?_
  refine Zq (Zb (Za (Lm u24 ?_)))
  refine Lo u24 (W14 rfl rfl rfl) ?_
  refine La u24 ?_
  refine Zd (Zt (mk 24 16777116) (env' := u24) rfl ⟨⟨i + 1, _⟩, ?_, rfl, ?_⟩)
  ·first | omega | (simp only []; omega)
  exact ⟨⟨by omega, .inl (by omega)⟩, _, rfl, by rw [gvT_succ hi1 (by omega), show i + 1 - 1 = i - 1 + 1 by omega]; exact LV.appW hY3⟩
 try simp only [qB] at hc1
 refine Zz (ZA (Zu (Zy (Zb (Zc (Za (Lm u24 ?_)))))))
 refine La u24 ?_
 refine Zd (Zb (Zj (Zbm (.inr rfl) (Zf rfl rfl) (Gh.ansLV (BaseOk.refl _) hl (Yu _ _)) ?_)))
 have hE := gvT_all (rows := rows) (t := 1#64 <<< u) (i := i) (by omega)
 have hlen : (gvT rows (1#64 <<< u) i).length = i - 1 := by unfold gvT; rw [Yg, List.length_drop, List.length_take]; omega
 refine ⟨?_, rfl⟩
 rw [← hE]
 show _ = VVal.fsl ((gvT rows (1#64 <<< u) i).map iW) (gvT rows (1#64 <<< u) i).length 1 false
 rw [hlen]
theorem refFull_12 {x : SW} (H : Ze) (rows : List (BitVec 64)) (h : rows.length ≤ 12) : F (psys x) 139 [fzW rows] H fun v G => v = .bool (Yk rows 0#64) ∧ G = H := by
 have := Zam (x := x) H rows (by omega)
 rw [decide_eq_true h, Bool.true_and] at this; exact this
theorem getD_tail {l : List (BitVec 64)} (h : 0 < l.length) : ∃ w m, l = w :: m := by
 cases l with
 | nil => simp at h
 | cons w m => exact ⟨w, m, rfl⟩
theorem ZcM {x : SW} (H : Ze) (rows : List (BitVec 64)) (h62 : rows.length ≤ 1000000) : F (psys x) 151 [fzW rows] H fun v G => v = leV rows ∧ G = H := by
 refine Zp Tryd.func151 rfl u36 rfl ?_
 refine Zc (Za (Lk u36 (.slice none 0 0 true 0) ?_))
 refine Lk u36 (.bool false) ?_
 refine Zd (Zb (Zc (Zc (Za (Lm u36 ?_)))))
 refine Zs rfl rfl rfl (by exact Zam _ rows h62) ?_
 rintro _ _ ⟨rfl, rfl⟩
 refine Le u36 ?_
 refine Lo u36 rfl ?_
 refine Zd (Zb (Zi _ rfl (fun hc1 => ?_) (fun hc1 => ?_)))
 ·try simp only [qB] at hc1
  refine Zc (Za (Lk u36 (.slice none 0 0 true 0) ?_))
  refine Lk u36 (.bool false) ?_
  refine Zd (Zb (Ym (Gh.freezeNil 2 (es' := 1) rfl rfl) ?_))
  refine Zj (Zl (W6c (.inr rfl) (Yy rfl rfl rfl) ?_))
  exact W6d
 try simp only [qB] at hc1
 refine Zh (Zb (Zc (Za (Lk u36 (.slice none 0 0 true 0) ?_))))
 refine Zd (Zb (Zc (Zg (Zr (mk 36 68719476718) (env' := u36) rfl ?_))))
 refine Zw (fun (⟨r, ds, lv⟩ : List (BitVec 64) × List Nat × VVal) => r.length) (fun (⟨r, ds, lv⟩ : List (BitVec 64) × List Nat × VVal) => [(0, fzW r), (4, lv)]) (fun (⟨r, ds, lv⟩ : List (BitVec 64) × List Nat × VVal) G => (Yk r 0#64 = true ∧ r.length ≤ 12 ∧ ds.length + r.length = rows.length ∧ lst rows 0#64 = ds ++ lst r 0#64) ∧ ∃ X, G = H ++ X ∧ LV H.length 1 X lv (ds.map jN) ds.length) ⟨rows, [], _⟩ rfl ?_ ?_
 ·refine ⟨?_, ⟨_, rfl, LV.nil _ _ _⟩⟩
  exact ⟨hc1.2, hc1.1, by simp, by simp⟩
 rintro ⟨r, ds, lv⟩ _ ⟨⟨hfr, hr12, hdl, hlst⟩, ⟨X, rfl, hl⟩⟩
 refine ZL (env' := u36) rfl ?_
 refine Zc (Zc (Za (Lm u36 ?_)))
 refine Lo u36 rfl ?_
 refine Lo u36 rfl ?_
 refine Zd (Zb (Zi _ rfl (fun hc2 => ?_) (fun hc2 => ?_)))
 ·try simp only [qB] at hc2
  refine Zh (Zb (Zg (Zc ?_)))
  obtain ⟨w, m, rfl⟩ := getD_tail (l := r) (by omega)
  obtain ⟨u0, hu0, hw0, hf0⟩ := first_ex hfr
  refine Za (Lk u36 (.int .i64 0) ?_)
  refine Zd (Zb (Zc (Zg (Zr (mk 36 68719476686) (env' := u36) rfl ?_))))
  refine Zw (fun (u : Nat) => 64 - u) (fun (u : Nat) => [(5, iI (u : Nat))]) (fun (u : Nat) G => (u ≤ u0 ∧ ∀ v, v < u → w.getLsbD v = true → Yk (msk m (1#64 <<< v)) 0#64 = false) ∧ G = H ++ X) 0 rfl ?_ ?_
  ·refine ⟨?_, rfl⟩
   exact ⟨Nat.zero_le _, fun v h => by omega⟩
  rintro u _ ⟨⟨hu, hno⟩, rfl⟩
  refine ZL (env' := u36) rfl ?_
  refine Zc (Zc (Za (Lm u36 ?_)))
  refine Lo u36 (W18 rfl rfl rfl rfl rfl rfl rfl) ?_
  refine Lo u36 (W6e rfl rfl rfl rfl) ?_
  refine Lm u36 ?_
  refine Lo u36 (Xd rfl rfl rfl XH4) ?_
  refine Lo u36 (Xs (b := 1#64) rfl rfl rfl) ?_
  refine Lo u36 rfl ?_
  refine Lm u36 ?_
  refine ZB 19 (env1 := u36) (env2 := u36) rfl rfl rfl (fun hg3 => ?_) (fun hg3 => ?_)
  ·try simp only [qB] at hg3
   refine Lf u36 ?_
   refine Lf u36 ?_
   refine Lf u36 ?_
   refine Lf u36 ?_
   refine Lf u36 ?_
   refine Lo u36 (ZF (VVal.bool true) rfl rfl rfl) ?_
   refine Zd (Zb (ZN rfl rfl ?_))
   refine Zh (Zb (Zg (Za (Lm u36 ?_))))
   refine Lo u36 (W14 rfl rfl rfl) ?_
   refine La u36 ?_
   refine Zd (Zq (Zt (mk 36 68719476686) (env' := u36) rfl ⟨u + 1, ?_, rfl, ?_⟩))
   ·first | omega | (simp only []; omega)
   first | exact ⟨⟨Nat.lt_of_le_of_ne hu (fun e => by subst e; rw [sh0.1 (by assumption)] at hw0; cases hw0), fun v hv hb => by by_cases e : v = u; (subst e; rw [sh0.1 (by assumption)] at hb; cases hb); exact hno v (by omega) hb⟩, rfl⟩ | exact ⟨⟨Nat.lt_of_le_of_ne hu (fun e => by subst e; exact absurd hf0 (Yr (by assumption))), fun v hv hb => by by_cases e : v = u; (subst e; assumption); exact hno v (by omega) hb⟩, rfl⟩
  try simp only [qB] at hg3
  refine Lm u36 ?_
  refine Lm u36 ?_
  refine Zs rfl rfl rfl (by exact Zb0 _ (w :: m) u (Nat.le_trans (show (w :: m).length ≤ 12 from hr12) (by decide))) ?_
  rintro _ _ ⟨rfl, rfl⟩
  refine Le u36 ?_
  refine Zs rfl rfl rfl (by exact refFull_12 _ (msk m (1#64 <<< u)) (by rw [Yg]; simp only [List.length_cons] at hr12; omega)) ?_
  rintro _ _ ⟨rfl, rfl⟩
  refine Le u36 ?_
  refine Lo u36 rfl ?_
  refine Lo u36 (ZY rfl rfl rfl) ?_
  refine Zd (Zb (Zi _ rfl (fun hc4 => ?_) (fun hc4 => ?_)))
  ·try simp only [qB] at hc4
   refine Zh (Zb (Zg (Za (Lm u36 ?_))))
   refine Lo u36 (W14 rfl rfl rfl) ?_
   refine La u36 ?_
   refine Zd (Zq (Zt (mk 36 68719476686) (env' := u36) rfl ⟨u + 1, ?_, rfl, ?_⟩))
   ·first | omega | (simp only []; omega)
   first | exact ⟨⟨Nat.lt_of_le_of_ne hu (fun e => by subst e; rw [sh0.1 (by assumption)] at hw0; cases hw0), fun v hv hb => by by_cases e : v = u; (subst e; rw [sh0.1 (by assumption)] at hb; cases hb); exact hno v (by omega) hb⟩, rfl⟩ | exact ⟨⟨Nat.lt_of_le_of_ne hu (fun e => by subst e; exact absurd hf0 (Yr (by assumption))), fun v hv hb => by by_cases e : v = u; (subst e; assumption); exact hno v (by omega) hb⟩, rfl⟩
  try simp only [qB] at hc4
  refine Zz (ZA (Zu (Zy (Zb (Zc ?_)))))
  have hbit : w.getLsbD u = true := sh_not0 (by assumption)
  have hfu : Yk (msk m (1#64 <<< u)) 0#64 = true := by assumption
  simp only [List.length_cons] at hr12 hdl
  refine Za (Lm u36 ?_)
  refine Lm u36 ?_
  refine Lo u36 (Zv rfl rfl (by decide) rfl) ?_
  refine X7 rfl rfl (Jx rfl rfl rfl rfl rfl rfl rfl hl rfl rfl (by decide) (by show (ds.length + 1) * 8 ≤ _ ∧ ds.length + 1 ≤ _; omega) (by decide)) ?_
  rintro _ _ ⟨Y1, rfl, rfl, hY1, hY2, hY3⟩
  refine Le u36 ?_
  refine La u36 ?_
  refine Zd (Zb (Za (Lm u36 ?_)))
  refine Lm u36 ?_
  refine Zs rfl rfl rfl (by exact Zb0 _ (w :: m) u (Nat.le_trans (show (w :: m).length ≤ 12 from hr12) (by decide))) ?_
  rintro _ _ ⟨rfl, rfl⟩
  refine Le u36 ?_
  refine La u36 ?_
  refine Zd (Zq (Zt (mk 36 68719476718) (env' := u36) rfl ⟨⟨msk m (1#64 <<< u), ds ++ [u], _⟩, ?_, rfl, ?_⟩))
  ·show (msk m (1#64 <<< u)).length < (w :: m).length; rw [Yg]; simp
  exact ⟨⟨hfu, by rw [Yg]; omega, by rw [List.length_append, Yg]; show ds.length + 1 + m.length = _; omega, hlst.trans ((congrArg (ds ++ ·) (lst_first (by omega) hbit hfu hno)).trans (by simp))⟩, _, rfl, by rw [List.length_append]; exact LV.appN hY3⟩
 try simp only [qB] at hc2
 refine Zz (ZA (Zu (Zy (Zb (Zc (Za (Lm u36 ?_)))))))
 refine La u36 ?_
 refine Lk u36 (.bool true) ?_
 refine Zd (Zb (B_ghLV (env' := u36) 2 hl rfl rfl fun X2 _ _ => ?_))
 refine Zj (W6c (.inr rfl) (Yy rfl rfl rfl) ?_)
 exact W6d
namespace MM
end MM
open Go Go.V Go.RowKit
abbrev u38 {a0 a1 a2 a3 a4 a5 a6 a7 a8 a9 a10 a11 a12 a13 a14 a15 a16 a17 a18 a19 a20 a21 a22 a23 a24 a25 a26 a27 a28 a29 a30 a31 a32 a33 a34 a35 a36 a37 : VVal} : VEnv := a0 :: a1 :: a2 :: a3 :: a4 :: a5 :: a6 :: a7 :: a8 :: a9 :: a10 :: a11 :: a12 :: a13 :: a14 :: a15 :: a16 :: a17 :: a18 :: a19 :: a20 :: a21 :: a22 :: a23 :: a24 :: a25 :: a26 :: a27 :: a28 :: a29 :: a30 :: a31 :: a32 :: a33 :: a34 :: a35 :: a36 :: a37 :: []
abbrev u39 {a0 a1 a2 a3 a4 a5 a6 a7 a8 a9 a10 a11 a12 a13 a14 a15 a16 a17 a18 a19 a20 a21 a22 a23 a24 a25 a26 a27 a28 a29 a30 a31 a32 a33 a34 a35 a36 a37 a38 : VVal} : VEnv := a0 :: a1 :: a2 :: a3 :: a4 :: a5 :: a6 :: a7 :: a8 :: a9 :: a10 :: a11 :: a12 :: a13 :: a14 :: a15 :: a16 :: a17 :: a18 :: a19 :: a20 :: a21 :: a22 :: a23 :: a24 :: a25 :: a26 :: a27 :: a28 :: a29 :: a30 :: a31 :: a32 :: a33 :: a34 :: a35 :: a36 :: a37 :: a38 :: []
theorem W6i {P : Prop} (h : P := by first | exact ⟨by rw [myBR_f g hi (by assumption), beq_d], rfl⟩ | exact ⟨by rw [myBR_w g hi (by omega), decide_eq_false (by omega)]; rfl, rfl⟩ | exact ⟨by rw [myBR_w g hi (by omega), decide_eq_true (by omega), Bool.true_and]; exact congrArg VVal.bool bit_eq, rfl⟩) : P := h
theorem W6j {P : Prop} (h : P := by first | exact ⟨rfl, rfl⟩ | (exfalso; omega)) : P := h
theorem W6k {T : TypeId → Option VTy} {H : Ze} {op : Op} {ρ : Operand → VVal} {t : TypeId} {a : Operand} {y : VTy} {p v : VVal} (ho : op = .load t a) (ha : ρ a = p) (hy : T t = some y) (hd : Zk y.desc = false) (h : LdOk H p v := by exact XH50) : vop T ρ H op = some (v, H) := Yv ho ha hy hd h
abbrev noR (p : Pb) : Pb := (p.users, p.who, p.fixed, [], ())
theorem noR_good {p : Pb} (g : Go.V.Good p) : Go.V.Good (noR p) := ⟨g.n12, g.u64, Nat.zero_le _, g.u0, g.fx, g.ok, fun r h => by cases h⟩
theorem noR_n12 {p : Pb} (g : Go.V.Good (noR p)) : p.who.length ≤ 12 := g.n12
theorem noR_u64 {p : Pb} (g : Go.V.Good (noR p)) : p.users ≤ 64 := g.u64
theorem noR_u0 {p : Pb} (g : Go.V.Good (noR p)) : 0 ≤ p.users := g.u0
theorem noR_fx {p : Pb} (g : Go.V.Good (noR p)) : p.fixed.length = p.who.length := g.fx
theorem myBR_f {p : Pb} (g : Go.V.Good (noR p)) {i : Nat} {u : Int} (hi : i < p.who.length) (h : 0 ≤ p.fixed.getD i 0) : myB p i u = decide (u = p.fixed.getD i 0) := myB_f (p := noR p) g hi h
theorem myBR_w {p : Pb} (g : Go.V.Good (noR p)) {i : Nat} {u : Int} (hi : i < p.who.length) (h : p.fixed.getD i 0 < 0) : myB p i u = (decide (0 ≤ u ∧ u < p.users) && (p.who.getD i 0).getLsbD u.toNat) := myB_w (p := noR p) g hi h
theorem May_R {x : SW} (H : Ze) (p : Pb) (g : Go.V.Good (noR p)) (i : Nat) (hi : i < p.who.length) (u : Int) : F (psys x) 50 [.agg (pbB p), iI (i : Nat), iI u] H fun v G => v = .bool (myB p i u) ∧ G = H := by
 have g5 := noR_fx g
 refine Zp Tryd.func50 rfl u39 rfl ?_
 refine Zc (Za (Lo u39 (ZJ rfl rfl rfl) ?_))
 refine Lk u39 (.bool false) ?_
 refine Zd (Zb (Zc (Zc (Za (Lo u39 rfl ?_)))))
 refine Lo u39 (W2r rfl rfl rfl rfl) ?_
 refine Lm u39 ?_
 refine Lo u39 (W18 rfl rfl rfl rfl rfl rfl rfl) ?_
 refine Lo u39 (W2r rfl rfl rfl rfl) ?_
 refine Lo u39 rfl ?_
 refine Zd (Zb (Zi _ rfl (fun hc1 => ?_) (fun hc1 => ?_)))
 ·try simp only [qB, qN] at hc1
  refine Zc (Za (Lm u39 ?_))
  refine Lo u39 rfl ?_
  refine Lo u39 (W2r rfl rfl rfl rfl) ?_
  refine Lm u39 ?_
  refine Lo u39 (W18 rfl rfl rfl rfl rfl rfl rfl) ?_
  refine Lo u39 (W2r rfl rfl rfl rfl) ?_
  refine Lo u39 rfl ?_
  refine La u39 ?_
  refine Zd (Zb (Zj (Zl (W10 (.inr rfl) (Zf rfl rfl) ?_))))
  exact W6i
 try simp only [qB, qN] at hc1
 refine Zh (Zb (Zc (Za (Lm u39 ?_))))
 refine Lo u39 rfl ?_
 refine Lm u39 ?_
 refine ZB 22 (env1 := u39) (env2 := u39) rfl rfl rfl (fun hg2 => ?_) (fun hg2 => ?_)
 ·try simp only [qB, qN] at hg2
  refine Lm u39 ?_
  refine Lo u39 rfl ?_
  refine Lo u39 (W2r rfl rfl rfl rfl) ?_
  refine Lo u39 rfl ?_
  refine Lo u39 (ZM rfl rfl rfl) ?_
  refine Lm u39 ?_
  refine ZB 28 (env1 := u39) (env2 := u39) rfl rfl rfl (fun hg3 => ?_) (fun hg3 => ?_)
  ·try simp only [qB, qN] at hg3
   refine Lo u39 rfl ?_
   refine Lo u39 (W2r rfl rfl rfl rfl) ?_
   refine Lm u39 ?_
   refine Lo u39 (W18 rfl rfl rfl rfl rfl rfl rfl) ?_
   refine Lo u39 (W2r rfl rfl rfl rfl) ?_
   refine Lm u39 ?_
   refine Lo u39 (Xd rfl rfl rfl XH4) ?_
   refine Lo u39 (Xs (b := 1#64) rfl rfl rfl) ?_
   refine Lo u39 rfl ?_
   refine Lo u39 (ZM rfl rfl rfl) ?_
   refine La u39 ?_
   refine Zd (Zb (Zj (W10 (.inr rfl) (Zf rfl rfl) ?_)))
   exact W6i
  try simp only [qB, qN] at hg3
  refine Lf u39 ?_
  refine Lf u39 ?_
  refine Lf u39 ?_
  refine Lf u39 ?_
  refine Lf u39 ?_
  refine Lf u39 ?_
  refine Lf u39 ?_
  refine Lf u39 ?_
  refine Lf u39 ?_
  refine Lo u39 (ZC (VVal.bool false) rfl rfl rfl) ?_
  refine La u39 ?_
  refine Zd (Zb (Zj (W10 (.inr rfl) (Zf rfl rfl) ?_)))
  exact W6i
 try simp only [qB, qN] at hg2
 refine Lf u39 ?_
 refine Lf u39 ?_
 refine Lf u39 ?_
 refine Lf u39 ?_
 refine Lo u39 (ZC (VVal.bool false) rfl rfl rfl) ?_
 refine Lm u39 ?_
 refine Lf u39 ?_
 refine Lf u39 ?_
 refine Lf u39 ?_
 refine Lf u39 ?_
 refine Lf u39 ?_
 refine Lf u39 ?_
 refine Lf u39 ?_
 refine Lf u39 ?_
 refine Lf u39 ?_
 refine Lo u39 (ZC (VVal.bool false) rfl rfl rfl) ?_
 refine La u39 ?_
 refine Zd (Zb (Zj (W10 (.inr rfl) (Zf rfl rfl) ?_)))
 exact W6i
theorem May_spec {x : SW} (H : Ze) (p : Pb) (g : Go.V.Good p) (i : Nat) (hi : i < p.who.length) (u : Int) : F (psys x) 50 [.agg (pbB p), iI (i : Nat), iI u] H fun v G => v = .bool (myB p i u) ∧ G = H := May_R H p (noR_good g) i hi u
theorem Xz {a : List Nat} {k : Nat} : szP a (k + 1) = if a.getD k 0 = szP a k then szP a k + 1 else szP a k := rfl
theorem Zb5 {x : SW} (H : Ze) (a : List Nat) (ha : Pat a) (hl : a.length ≤ 12) : F (psys x) 142 [fzN a] H fun v G => v = .bool true ∧ G = H := by
 refine Zp Tryd.func142 rfl u38 rfl ?_
 refine Zc (Za (Lk u38 (.bool false) ?_))
 refine Zd (Zb (Zc (Zc (Za (Lm u38 ?_)))))
 refine Lo u38 rfl ?_
 refine Lo u38 rfl ?_
 refine Zd (Zb (Zi _ rfl (fun hc1 => ?_) (fun hc1 => ?_)))
 ·try simp only [qB, qN] at hc1
  refine Zc (Za (Lk u38 (.bool false) ?_))
  refine Zd (Zb (Zj (Zl (W10 (.inr rfl) (Zf rfl rfl) ?_))))
  exact W6j
 try simp only [qB, qN] at hc1
 refine Zh (Zb (Zc (Za (Lo u38 (Z4 (VVal.int .i64 (-1)) (.inr rfl) rfl) ?_))))
 refine Zd (Zb (Zc (Zc (Za (Lk u38 (.int .i64 0) ?_)))))
 refine Zd (Zb (Zg (Zr (mk 38 274877906918) (env' := u38) rfl ?_)))
 refine Zw (fun (k : Nat) => a.length - k) (fun (k : Nat) => [(3, iI (((szP a k : Nat) : Int) - 1)), (4, iI (k : Nat))]) (fun (k : Nat) G => (k ≤ a.length) ∧ G = H ++ []) 0 rfl ?_ ?_
 ·refine ⟨?_, rfl⟩
  exact Nat.zero_le _
 rintro k _ ⟨hk, rfl⟩
 refine ZL (env' := u38) rfl ?_
 refine Zc (Zc (Za (Lm u38 ?_)))
 refine Lm u38 ?_
 refine Lo u38 rfl ?_
 refine Lo u38 rfl ?_
 refine Zd (Zb (Zi _ rfl (fun hc2 => ?_) (fun hc2 => ?_)))
 ·try simp only [qB, qN] at hc2
  refine Zh (Zb (Zc (Zg (Zc (Zc ?_)))))
  have hpk := ha k (by omega)
  have hz := @YH a k
  refine Za (Lm u38 ?_)
  refine Lm u38 ?_
  refine Lo u38 (W18 rfl rfl rfl rfl rfl rfl rfl) ?_
  refine Lo u38 (W6k rfl rfl rfl rfl) ?_
  refine Lo u38 rfl ?_
  refine Lm u38 ?_
  refine ZB 19 (env1 := u38) (env2 := u38) rfl rfl rfl (fun hg3 => ?_) (fun hg3 => ?_)
  ·try simp only [qB, qN] at hg3
   refine Lf u38 ?_
   refine Lf u38 ?_
   refine Lf u38 ?_
   refine Lf u38 ?_
   refine Lf u38 ?_
   refine Lf u38 ?_
   refine Lf u38 ?_
   refine Lo u38 (ZF (VVal.bool true) rfl rfl rfl) ?_
   refine Zd (Zb (ZN rfl rfl ?_))
   refine Zc (Za (Lk u38 (.bool false) ?_))
   refine Zd (Zb (Zj (Zl (ZE (Zl (Ye (ZE (Zl (W10 (.inr rfl) (Zf rfl rfl) ?_)))))))))
   exact W6j
  try simp only [qB, qN] at hg3
  refine Lm u38 ?_
  refine Lm u38 ?_
  refine Lo u38 (W18 rfl rfl rfl rfl rfl rfl rfl) ?_
  refine Lo u38 (W6k rfl rfl rfl rfl) ?_
  refine Lm u38 ?_
  refine Lo u38 (W14 rfl rfl rfl) ?_
  refine Lo u38 rfl ?_
  refine Lo u38 (ZY rfl rfl rfl) ?_
  refine Zd (Zb (Zi _ rfl (fun hc4 => ?_) (fun hc4 => ?_)))
  ·try simp only [qB, qN] at hc4
   refine Zc (Za (Lk u38 (.bool false) ?_))
   refine Zd (Zb (Zj (Zl (ZE (Zl (Ye (ZE (Zl (W10 (.inr rfl) (Zf rfl rfl) ?_)))))))))
   exact W6j
  try simp only [qB, qN] at hc4
  refine Zh (Zb (Zc (Za (Lm u38 ?_))))
  refine Lm u38 ?_
  refine Lo u38 (W18 rfl rfl rfl rfl rfl rfl rfl) ?_
  refine Lo u38 (W6k rfl rfl rfl rfl) ?_
  refine Lm u38 ?_
  refine Lo u38 rfl ?_
  refine Zd (Zb (Zi _ rfl (fun hc5 => ?_) (fun hc5 => ?_)))
  ·try simp only [qB, qN] at hc5
   refine Za (Lm u38 ?_)
   refine Lm u38 ?_
   refine Lo u38 (W18 rfl rfl rfl rfl rfl rfl rfl) ?_
   refine Lo u38 (W6k rfl rfl rfl rfl) ?_
   refine La u38 ?_
   refine Zd (Zq (Zb (Za (Lm u38 ?_))))
   refine Lo u38 (W14 rfl rfl rfl) ?_
   refine La u38 ?_
   refine Zd ?_
   first
    | (have hE : ((a.getD k 0 : Nat) : Int) = ((szP a (k + 1) : Nat) : Int) - 1 := by rw [Xz, if_pos (by omega)]; omega); rw [hE]
    | (have hE : szP a k = szP a (k + 1) := by rw [Xz, if_neg (by omega)]); rw [hE]
   refine Zt (mk 38 274877906918) (env' := u38) rfl ⟨k + 1, ?_, rfl, ?_⟩
   ·first | omega | (simp only []; omega)
   exact ⟨by omega, rfl⟩
  try simp only [qB, qN] at hc5
  refine Zh (Zq (Zb (Za (Lm u38 ?_))))
  refine Lo u38 (W14 rfl rfl rfl) ?_
  refine La u38 ?_
  refine Zd ?_
  first
   | (have hE : ((a.getD k 0 : Nat) : Int) = ((szP a (k + 1) : Nat) : Int) - 1 := by rw [Xz, if_pos (by omega)]; omega); rw [hE]
   | (have hE : szP a k = szP a (k + 1) := by rw [Xz, if_neg (by omega)]); rw [hE]
  refine Zt (mk 38 274877906918) (env' := u38) rfl ⟨k + 1, ?_, rfl, ?_⟩
  ·first | omega | (simp only []; omega)
  exact ⟨by omega, rfl⟩
 try simp only [qB, qN] at hc2
 refine Zz (ZA (Zu (Zy (Zb (Zc (Za (Lk u38 (.bool true) ?_)))))))
 refine Zd (Zb (Zj (W10 (.inr rfl) (Zf rfl rfl) ?_)))
 exact W6j
theorem top_spec {x : SW} (H : Ze) (a : List Nat) (ha : Pat a) (hl : a.length ≤ 12) : F (psys x) 143 [fzN a] H fun v G => v = iI (((szP a a.length : Nat) : Int) - 1) ∧ G = H := by
 refine Zp Tryd.func143 rfl u22 rfl ?_
 refine Zc (Za (Lk u22 (.int .i64 0) ?_))
 refine Zd (Zb (Zc (Za (Lo u22 (Z4 (VVal.int .i64 (-1)) (.inr rfl) rfl) ?_))))
 refine Zd (Zb (Zc (Zc (Za (Lk u22 (.int .i64 0) ?_)))))
 refine Zd (Zb (Zg (Zr (mk 22 4194278) (env' := u22) rfl ?_)))
 refine Zw (fun (k : Nat) => a.length - k) (fun (k : Nat) => [(3, iI (((szP a k : Nat) : Int) - 1)), (4, iI (k : Nat))]) (fun (k : Nat) G => (k ≤ a.length) ∧ G = H ++ []) 0 rfl ?_ ?_
 ·refine ⟨?_, rfl⟩
  exact Nat.zero_le _
 rintro k _ ⟨hk, rfl⟩
 refine ZL (env' := u22) rfl ?_
 refine Zc (Zc (Za (Lm u22 ?_)))
 refine Lm u22 ?_
 refine Lo u22 rfl ?_
 refine Lo u22 rfl ?_
 refine Zd (Zb (Zi _ rfl (fun hc1 => ?_) (fun hc1 => ?_)))
 ·try simp only [qB, qN] at hc1
  refine Zh (Zb (Zc (Zg (Zc ?_))))
  have hpk := ha k (by omega)
  have hz := @YH a k
  refine Za (Lm u22 ?_)
  refine Lm u22 ?_
  refine Lo u22 (W18 rfl rfl rfl rfl rfl rfl rfl) ?_
  refine Lo u22 (W6k rfl rfl rfl rfl) ?_
  refine Lm u22 ?_
  refine Lo u22 rfl ?_
  refine Zd (Zb (Zi _ rfl (fun hc2 => ?_) (fun hc2 => ?_)))
  ·try simp only [qB, qN] at hc2
   refine Za (Lm u22 ?_)
   refine Lm u22 ?_
   refine Lo u22 (W18 rfl rfl rfl rfl rfl rfl rfl) ?_
   refine Lo u22 (W6k rfl rfl rfl rfl) ?_
   refine La u22 ?_
   refine Zd (Zq (Zb (Za (Lm u22 ?_))))
   refine Lo u22 (W14 rfl rfl rfl) ?_
   refine La u22 ?_
   refine Zd ?_
   first
    | (have hE : ((a.getD k 0 : Nat) : Int) = ((szP a (k + 1) : Nat) : Int) - 1 := by rw [Xz, if_pos (by omega)]; omega); rw [hE]
    | (have hE : szP a k = szP a (k + 1) := by rw [Xz, if_neg (by omega)]); rw [hE]
   refine Zt (mk 22 4194278) (env' := u22) rfl ⟨k + 1, ?_, rfl, ?_⟩
   ·first | omega | (simp only []; omega)
   exact ⟨by omega, rfl⟩
  try simp only [qB, qN] at hc2
  refine Zh (Zq (Zb (Za (Lm u22 ?_))))
  refine Lo u22 (W14 rfl rfl rfl) ?_
  refine La u22 ?_
  refine Zd ?_
  first
   | (have hE : ((a.getD k 0 : Nat) : Int) = ((szP a (k + 1) : Nat) : Int) - 1 := by rw [Xz, if_pos (by omega)]; omega); rw [hE]
   | (have hE : szP a k = szP a (k + 1) := by rw [Xz, if_neg (by omega)]); rw [hE]
  refine Zt (mk 22 4194278) (env' := u22) rfl ⟨k + 1, ?_, rfl, ?_⟩
  ·first | omega | (simp only []; omega)
  exact ⟨by omega, rfl⟩
 try simp only [qB, qN] at hc1
 refine Zz (ZA (Zu (Zy (Zb (Zc (Za (Lm u22 ?_)))))))
 refine La u22 ?_
 refine Zd (Zb (Zj (W10 (.inr rfl) (Zf rfl rfl) ?_)))
 obtain rfl : k = a.length := by omega
 exact ⟨rfl, rfl⟩
theorem Size_spec {x : SW} (H : Ze) (a : List Nat) (ha : Pat a) (hl : a.length ≤ 12) : F (psys x) 109 [fzN a] H fun v G => v = iI (szP a a.length : Nat) ∧ G = H := by
 have hz := @YH a a.length
 refine Zp Tryd.func109 rfl u9 rfl ?_
 refine Zc (Za (Lk u9 (.int .i64 0) ?_))
 refine Zd (Zb (Zc (Zc (Za (Lm u9 ?_)))))
 refine Zs rfl rfl rfl (by exact Zb5 _ _ ha hl) ?_
 rintro _ _ ⟨rfl, rfl⟩
 refine Le u9 ?_
 refine Lo u9 rfl ?_
 refine Zd (Zb (Yc rfl rfl ?_))
 refine Zh (Zb (Zc (Za (Lm u9 ?_))))
 refine Zs rfl rfl rfl (by exact top_spec _ _ ha hl) ?_
 rintro _ _ ⟨rfl, rfl⟩
 refine Le u9 ?_
 refine Lo u9 (Xg (Zab rfl rfl rfl (by omega)) (show iI ((((szP a a.length : Nat) : Int) - 1) + 1) = iI (szP a a.length : Nat) by congr 1; omega)) ?_
 refine La u9 ?_
 refine Zd (Zb (Zj (W10 (.inr rfl) (Zf rfl rfl) ?_)))
 exact ⟨rfl, rfl⟩
def bkK (a : List Nat) (b k : Nat) : List Nat := (List.range k).filter fun i => a.getD i 0 == b
abbrev bkL (a : List Nat) (b : Nat) : List Nat := bkK a b a.length
theorem bkK_yes {a : List Nat} {b k : Nat} (h : a.getD k 0 = b) : bkK a b (k + 1) = bkK a b k ++ [k] := by
 unfold bkK; rw [List.range_succ, List.filter_append, List.filter_cons, if_pos (by rw [h]; exact beq_self_eq_true b)]; rfl
theorem bkK_no {a : List Nat} {b k : Nat} (h : ¬ a.getD k 0 = b) : bkK a b (k + 1) = bkK a b k := by
 unfold bkK; rw [List.range_succ, List.filter_append, List.filter_cons, if_neg (by simpa using h)]; simp
theorem bkK_len {a : List Nat} {b k : Nat} : (bkK a b k).length ≤ k := by
 unfold bkK; exact Nat.le_trans (List.length_filter_le _ _) (by simp)
theorem bkL_mem {a : List Nat} {b i : Nat} : i ∈ bkL a b ↔ i < a.length ∧ a.getD i 0 = b := by
 unfold bkL bkK; rw [List.mem_filter, List.mem_range, beq_iff_eq]
abbrev bkC (a : List Nat) (b : Nat) : List VVal := (List.range b).map fun c => fzN (bkL a c)
theorem bkC_succ {a : List Nat} {b : Nat} : bkC a (b + 1) = bkC a b ++ [fzN (bkL a b)] := by
 show (List.range (b + 1)).map _ = _; rw [List.range_succ, List.map_append]; rfl
theorem bkC_get {a : List Nat} {b i : Nat} (h : i < b) : (bkC a b)[((i : Nat) : Int).toNat * 1]? = some (fzN (bkL a i)) := by
 rw [Int.toNat_natCast, Nat.mul_one]; simp [h]
theorem LV.pushN {h : Nat} {X : Ze} {v : VVal} {l : List Nat} {w : Nat} (r : LV h 1 X v (rcN l ++ [iI (w : Nat)]) (l.length + 1)) : LV h 1 X v (rcN (l ++ [w])) (l ++ [w]).length := by rw [Zcc, List.length_append]; exact r
theorem Blocks_spec {x : SW} (H : Ze) (a : List Nat) (ha : Pat a) (hl : a.length ≤ 12) : F (psys x) 141 [fzN a] H fun v G => v = .fsl (bkC a (szP a a.length)) (szP a a.length) 1 false ∧ G = H := by
 have hz := @YH a a.length
 refine Zp Tryd.func141 rfl u38 rfl ?_
 refine Zc (Za (Lk u38 (.slice none 0 0 true 0) ?_))
 refine Zd (Zb (Zc (Za (Lk u38 (.slice none 0 0 true 0) ?_))))
 refine Zd (Zb (Zc (Zc (Za (Lm u38 ?_)))))
 refine Zs rfl rfl rfl (by exact Zb5 _ _ ha hl) ?_
 rintro _ _ ⟨rfl, rfl⟩
 refine Le u38 ?_
 refine Lo u38 rfl ?_
 refine Zd (Zb (Yc rfl rfl ?_))
 refine Zh (Zb (Zc (Zc (Za (Lk u38 (.int .i64 0) ?_)))))
 refine Zd (Zb (Zg (Zr (mk 38 274877906918) (env' := u38) rfl ?_)))
 refine Zw (fun (⟨b, lv⟩ : Nat × VVal) => szP a a.length - b) (fun (⟨b, lv⟩ : Nat × VVal) => [(3, lv), (4, iI (b : Nat))]) (fun (⟨b, lv⟩ : Nat × VVal) G => (b ≤ szP a a.length) ∧ ∃ X, G = H ++ X ∧ LV H.length 1 X lv (bkC a b) b) ⟨0, _⟩ rfl ?_ ?_
 ·refine ⟨?_, ⟨_, rfl, LV.nil _ _ _⟩⟩
  exact Nat.zero_le _
 rintro ⟨b, lv⟩ _ ⟨hb, ⟨X, rfl, hlv⟩⟩
 refine ZL (env' := u38) rfl ?_
 refine Zc (Zc (Za (Lm u38 ?_)))
 refine Lm u38 ?_
 refine Zs rfl rfl rfl (by exact top_spec _ _ ha hl) ?_
 rintro _ _ ⟨rfl, rfl⟩
 refine Le u38 ?_
 refine Lo u38 rfl ?_
 refine Zd (Zb (Zi _ rfl (fun hc1 => ?_) (fun hc1 => ?_)))
 ·try simp only [qB, qN] at hc1
  refine Zh (Zb (Zc (Zg (Zc (Za (Lk u38 (.slice none 0 0 true 0) ?_))))))
  refine Zd (Zb (Zc (Zc (Za (Lk u38 (.int .i64 0) ?_)))))
  refine Zd (Zb (Zg (Zr (mk 38 274877906822) (env' := u38) rfl ?_)))
  refine Zw (fun (⟨k, ov⟩ : Nat × VVal) => a.length - k) (fun (⟨k, ov⟩ : Nat × VVal) => [(5, ov), (6, iI (k : Nat))]) (fun (⟨k, ov⟩ : Nat × VVal) G => (k ≤ a.length) ∧ ∃ X, G = H ++ X ∧ LV H.length 1 X lv (bkC a b) b ∧ LV H.length 1 X ov (rcN (bkK a b k)) (bkK a b k).length ∧ Dj lv ov) ⟨0, _⟩ rfl ?_ ?_
  ·refine ⟨?_, ⟨X, rfl, hlv, LV.nil _ _ _, Dj.nil _⟩⟩
   exact Nat.zero_le _
  rintro ⟨k, ov⟩ _ ⟨hk, ⟨X, rfl, hlv, hov, hd⟩⟩
  refine ZL (env' := u38) rfl ?_
  refine Zc (Zc (Za (Lm u38 ?_)))
  refine Lm u38 ?_
  refine Lo u38 rfl ?_
  refine Lo u38 rfl ?_
  refine Zd (Zb (Zi _ rfl (fun hc2 => ?_) (fun hc2 => ?_)))
  ·try simp only [qB, qN] at hc2
   refine Zh (Zb (Zc (Zg (Zc (Za (Lm u38 ?_))))))
   refine Lm u38 ?_
   refine Lo u38 (W18 rfl rfl rfl rfl rfl rfl rfl) ?_
   refine Lo u38 (W6k rfl rfl rfl rfl) ?_
   refine Lm u38 ?_
   refine Lo u38 rfl ?_
   refine Zd (Zb (Zi _ rfl (fun hc3 => ?_) (fun hc3 => ?_)))
   ·try simp only [qB, qN] at hc3
    refine Za (Lm u38 ?_)
    refine Lm u38 ?_
    refine Lo u38 (Zv rfl rfl (by decide) rfl) ?_
    refine X7 rfl rfl (Jx rfl rfl rfl rfl rfl rfl rfl hov rfl rfl (by decide) (by have := @bkK_len a b k; show (_ + 1) * 8 ≤ _ ∧ _ + 1 ≤ _; omega) (by decide)) ?_
    rintro _ _ ⟨Y1, rfl, rfl, hY1, hY2, hY3⟩
    refine Le u38 ?_
    refine La u38 ?_
    refine Zd (Zq (Zb (Za (Lm u38 ?_))))
    refine Lo u38 (W14 rfl rfl rfl) ?_
    refine La u38 ?_
    refine Zd (Zt (mk 38 274877906822) (env' := u38) rfl ⟨⟨k + 1, _⟩, ?_, rfl, ?_⟩)
    ·first | omega | (simp only []; omega)
    first | exact ⟨by omega, _, rfl, LV.keepN hY3 hlv hd hY2, by rw [bkK_yes (by omega)]; exact LV.pushN hY3, LV.djN hY3 hlv⟩ | exact ⟨by omega, _, rfl, hlv, by rw [bkK_no (by omega)]; exact hov, hd⟩
   try simp only [qB, qN] at hc3
   refine Zh (Zq (Zb (Za (Lm u38 ?_))))
   refine Lo u38 (W14 rfl rfl rfl) ?_
   refine La u38 ?_
   refine Zd (Zt (mk 38 274877906822) (env' := u38) rfl ⟨⟨k + 1, _⟩, ?_, rfl, ?_⟩)
   ·first | omega | (simp only []; omega)
   first | exact ⟨by omega, _, rfl, LV.keepN hY3 hlv hd hY2, by rw [bkK_yes (by omega)]; exact LV.pushN hY3, LV.djN hY3 hlv⟩ | exact ⟨by omega, _, rfl, hlv, by rw [bkK_no (by omega)]; exact hov, hd⟩
  try simp only [qB, qN] at hc2
  refine Zz (ZA (Zu (Zy (Zb ?_))))
  obtain rfl : k = a.length := by omega
  refine B_ghLV (env' := u38) 5 hov rfl rfl fun X4 hX4 hF4 => ?_
  have hlv := LV.keep hlv hd hF4
  refine Za (Lm u38 ?_)
  refine Lm u38 ?_
  refine Lo u38 (Zv rfl rfl (by decide) rfl) ?_
  refine X7 rfl rfl (Jx rfl rfl rfl rfl rfl rfl rfl hlv rfl rfl (by decide) (by show (b + 1) * 24 ≤ _ ∧ b + 1 ≤ _; omega) (by decide)) ?_
  rintro _ _ ⟨Y1, rfl, rfl, hY1, hY2, hY3⟩
  refine Le u38 ?_
  refine La u38 ?_
  refine Zd (Zq (Zb (Za (Lm u38 ?_))))
  refine Lo u38 (W14 rfl rfl rfl) ?_
  refine La u38 ?_
  refine Zd (Zt (mk 38 274877906918) (env' := u38) rfl ⟨⟨b + 1, _⟩, ?_, rfl, ?_⟩)
  ·first | omega | (simp only []; omega)
  exact ⟨by omega, _, rfl, by rw [bkC_succ]; exact hY3⟩
 try simp only [qB, qN] at hc1
 refine Zz (ZA (Zu (Zy (Zb (Zc (Za (Lm u38 ?_)))))))
 refine La u38 ?_
 refine Zd (Zb (Zj (Zbm (.inr rfl) (Zf rfl rfl) (Gh.ansLV (BaseOk.refl _) hlv (VVal.underL_map (f := fun c => fzN (bkL a c)) fun c => XU _ _)) ?_)))
 obtain rfl : b = szP a a.length := by omega
 exact ⟨rfl, rfl⟩
abbrev u58 {a0 a1 a2 a3 a4 a5 a6 a7 a8 a9 a10 a11 a12 a13 a14 a15 a16 a17 a18 a19 a20 a21 a22 a23 a24 a25 a26 a27 a28 a29 a30 a31 a32 a33 a34 a35 a36 a37 a38 a39 a40 a41 a42 a43 a44 a45 a46 a47 a48 a49 a50 a51 a52 a53 a54 a55 a56 a57 : VVal} : VEnv := a0 :: a1 :: a2 :: a3 :: a4 :: a5 :: a6 :: a7 :: a8 :: a9 :: a10 :: a11 :: a12 :: a13 :: a14 :: a15 :: a16 :: a17 :: a18 :: a19 :: a20 :: a21 :: a22 :: a23 :: a24 :: a25 :: a26 :: a27 :: a28 :: a29 :: a30 :: a31 :: a32 :: a33 :: a34 :: a35 :: a36 :: a37 :: a38 :: a39 :: a40 :: a41 :: a42 :: a43 :: a44 :: a45 :: a46 :: a47 :: a48 :: a49 :: a50 :: a51 :: a52 :: a53 :: a54 :: a55 :: a56 :: a57 :: []
theorem W6m {T : TypeId → Option VTy} {H : Ze} {op : Op} {ρ : Operand → VVal} {t : TypeId} {a : Operand} {y : VTy} {p v : VVal} (ho : op = .load t a) (ha : ρ a = p) (hy : T t = some y) (hd : Zk y.desc = false) (h : LdOk H p v := by exact XH47) : vop T ρ H op = some (v, H) := Yv ho ha hy hd h
theorem W6o {T : TypeId → Option VTy} {H : Ze} {op : Op} {ρ : Operand → VVal} {t : TypeId} {a : Operand} {y : VTy} {p : VVal} {n : Nat} {vs : List VVal} (ho : op = .load t a) (ha : ρ a = p) (hy : T t = some y) (hd : Zk y.desc = true) (hn : y.size = n) (h : XF H p n vs := by exact XH47) : vop T ρ H op = some (.agg vs, H) := XI ho ha hy hd hn h
theorem W6t {P : Prop} (h : P := by first | exact ⟨by rw [erlA_no (k := k) (by omega) (by assumption)], rfl⟩ | exact ⟨by rw [erlA_all (by omega) hall], rfl⟩) : P := h
theorem myB_lt {p : Pb} {i u : Nat} (g : Go.V.Good p) (hi : i < p.who.length) (h : (wrd p i).getLsbD u = true) : u < p.users.toNat := by
 have h1 : myB p i (u : Nat) = true := myB_nat.2 h
 have g4 := g.u0
 by_cases hf : 0 ≤ p.fixed.getD i 0
 ·rw [myB_f g hi hf, decide_eq_true_eq] at h1
  have := (okW_in g hi).1; omega
 rw [myB_w g hi (by omega), Bool.and_eq_true, decide_eq_true_eq] at h1; omega
abbrev rwP (p : Pb) (a : List Nat) (i : Nat) : Nat → Bool := fun u => (bkL a i).all fun j => myB p j (u : Nat)
theorem row_is {p : Pb} {a : List Nat} {i : Nat} (g : Go.V.Good p) (ha : Pat a) (hl : a.length = p.who.length) (hi : i < szP a a.length) : wdP (rwP p a i) p.users.toNat = (Z6 (wsP p) a a.length).getD i 0 := by
 refine YF fun v hv => ?_
 rw [Zbw hv, Bool.eq_iff_iff, Bool.and_eq_true, decide_eq_true_eq, ZaK ha hi, List.all_eq_true]
 constructor
 ·rintro ⟨_, h⟩ j hj e
  have := h j (bkL_mem.2 ⟨hj, e⟩)
  rw [myB_nat] at this
  rw [ZaE (by omega)]; exact this
 intro h
 refine ⟨?_, fun j hj => ?_⟩
 ·obtain ⟨j, hj, e⟩ := pat_onto ha hi
  have := h j hj e
  rw [ZaE (by omega)] at this
  exact myB_lt g (by omega) this
 obtain ⟨h1, h2⟩ := bkL_mem.1 hj
 have := h j h1 h2
 rw [ZaE (by omega)] at this
 exact myB_nat.2 this
theorem Jv {l : List Nat} {k : Nat} {f : Nat → Bool} (h : k < l.length) : (l.take (k + 1)).all f = ((l.take k).all f && f (l.getD k 0)) := by
 rw [Yf (d := 0) h, List.all_append, List.all_cons, List.all_nil, Bool.and_true]
theorem bkL_at {a : List Nat} {b k : Nat} (h : k < (bkL a b).length) : (bkL a b).getD k 0 < a.length := by
 have : (bkL a b).getD k 0 ∈ bkL a b := by rw [List.getD_eq_getElem?_getD, List.getElem?_eq_getElem h]; simp
 exact (bkL_mem.1 this).1
theorem rowR_is {p : Pb} (g : Go.V.Good (noR p)) {a : List Nat} {i : Nat} (ha : Pat a) (hl : a.length = p.who.length) (hi : i < szP a a.length) : wdP (rwP p a i) p.users.toNat = (Z6 (wsP p) a a.length).getD i 0 := row_is (p := noR p) g ha hl hi
theorem Rows_R {x : SW} (H : Ze) (p : Pb) (g : Go.V.Good (noR p)) (a : List Nat) (ha : Pat a) (hl : a.length = p.who.length) : F (psys x) 108 [.agg (pbB p), fzN a] H fun v G => v = fzW (Z6 (wsP p) a a.length) ∧ G = H := by
 have g1 := noR_n12 g; have g2 := noR_u64 g; have g4 := noR_u0 g
 have hz := @YH a a.length
 have hbl := @YB (wsP p) a a.length
 refine Zp Tryd.func108 rfl u58 rfl ?_
 refine Zc (Za (Lo u58 (ZJ rfl rfl rfl) ?_))
 refine Lk u58 (.slice none 0 0 true 0) ?_
 refine Zd (Zb (Zc (Ym (Gh.freezePtrL (cs := pbB p) 2 0 rfl rfl rfl) ?_)))
 refine Za (Lk u58 (.slice none 0 0 true 0) ?_)
 refine Zd (Zb (Zc (Za (Lm u58 ?_))))
 refine Zs rfl rfl rfl (by exact Blocks_spec _ a ha (by omega)) ?_
 rintro _ _ ⟨rfl, rfl⟩
 refine Le u58 ?_
 refine La u58 ?_
 refine Zd (Zb (Zc (Zc (Za (Lk u58 (.int .i64 0) ?_)))))
 refine Zd (Zb (Zg (Zr (mk 58 288230376151711515) (env' := u58) rfl ?_)))
 refine Zw (fun (⟨i, lv⟩ : Nat × VVal) => szP a a.length - i) (fun (⟨i, lv⟩ : Nat × VVal) => [(5, lv), (7, iI (i : Nat))]) (fun (⟨i, lv⟩ : Nat × VVal) G => (i ≤ szP a a.length) ∧ ∃ X, G = H ++ X ∧ LV H.length 1 X lv (((Z6 (wsP p) a a.length).take i).map iW) ((Z6 (wsP p) a a.length).take i).length) ⟨0, _⟩ rfl ?_ ?_
 ·refine ⟨?_, ⟨_, rfl, LV.nil _ _ _⟩⟩
  exact Nat.zero_le _
 rintro ⟨i, lv⟩ _ ⟨hi, ⟨X, rfl, hlv⟩⟩
 refine ZL (env' := u58) rfl ?_
 refine Zc (Zc (Za (Lm u58 ?_)))
 refine Lm u58 ?_
 refine Lo u58 rfl ?_
 refine Lo u58 rfl ?_
 refine Zd (Zb (Zi _ rfl (fun hc1 => ?_) (fun hc1 => ?_)))
 ·try simp only [qB, qN] at hc1
  refine Zh (Zb (Zc (Zg (Zc (Za (Lk u58 (.int .u64 0) ?_))))))
  refine Zd (Zb (Zc (Zc (Za (Lk u58 (.int .i64 0) ?_)))))
  refine Zd (Zb (Zg (Zr (mk 58 288230376151710747) (env' := u58) rfl ?_)))
  refine Zw (fun (u : Nat) => p.users.toNat - u) (fun (u : Nat) => [(8, iW (wdP (rwP p a i) u)), (9, iI (u : Nat))]) (fun (u : Nat) G => (u ≤ p.users.toNat) ∧ G = H ++ X) 0 (by rw [show wdP (rwP p a i) 0 = 0#64 from wdP_0 _]; rfl) ?_ ?_
  ·refine ⟨?_, rfl⟩
   exact Nat.zero_le _
  rintro u _ ⟨hu, rfl⟩
  refine ZL (env' := u58) rfl ?_
  refine Zc (Zc (Za (Lm u58 ?_)))
  refine Lo u58 rfl ?_
  refine Lo u58 (W6m rfl rfl rfl rfl) ?_
  refine Lo u58 rfl ?_
  refine Zd (Zb (Zi _ rfl (fun hc2 => ?_) (fun hc2 => ?_)))
  ·try simp only [qB, qN] at hc2
   refine Zh (Zb (Zc (Zg (Zc (Za (Lk u58 (.bool true) ?_))))))
   refine Zd (Zb (Zc (Zc (Za (Lk u58 (.int .i64 0) ?_)))))
   refine Zd (Zb (Zg (Zr (mk 58 288230376151707675) (env' := u58) rfl ?_)))
   refine Zw (fun (⟨k, okb⟩ : Nat × Bool) => (bkL a i).length - k) (fun (⟨k, okb⟩ : Nat × Bool) => [(10, .bool okb), (11, iI (k : Nat))]) (fun (⟨k, okb⟩ : Nat × Bool) G => (k ≤ (bkL a i).length ∧ okb = ((bkL a i).take k).all fun j => myB p j (u : Nat)) ∧ G = H ++ X) ⟨0, true⟩ rfl ?_ ?_
   ·refine ⟨?_, rfl⟩
    exact ⟨Nat.zero_le _, rfl⟩
   rintro ⟨k, okb⟩ _ ⟨⟨hk, hok⟩, rfl⟩
   refine ZL (env' := u58) rfl ?_
   refine Zc (Zc ?_)
   have hbk : (bkL a i).length ≤ a.length := bkK_len
   refine Za (Lm u58 ?_)
   refine Lm u58 ?_
   refine Lm u58 ?_
   refine Lo u58 (W18 rfl rfl rfl rfl rfl rfl rfl) ?_
   refine Lo u58 (W6m rfl rfl rfl rfl) ?_
   refine Lo u58 rfl ?_
   refine Lo u58 rfl ?_
   refine Zd (Zb (Zi _ rfl (fun hc3 => ?_) (fun hc3 => ?_)))
   ·try simp only [qB, qN] at hc3
    refine Zh (Zb (Zc (Zg (ZK [0, 1, 2, 3, 4, 5, 6, 7, 8, 9, 10, 11, 12, 13] #[0, 1, 3, 3, 3, 27, 59, 3, 251, 507, 3, 2047, 4095, 8191] XH3 XH3 XH3 ?_))))
    refine Om u58 ?_
    refine Om u58 ?_
    refine Xi 36 (env1 := u58) (env2 := u58) rfl rfl rfl (fun hg4 => ?_) (fun hg4 => ?_)
    ·try simp only [qB, qN] at hg4
     refine Ok u58 rfl (W6o rfl rfl rfl rfl rfl) ?_
     refine Om u58 ?_
     refine Om u58 ?_
     refine Oc u58 rfl (W18 rfl rfl rfl rfl rfl rfl rfl) ?_
     refine Ok u58 rfl (W6m rfl rfl rfl rfl) ?_
     refine Om u58 ?_
     refine Oc u58 rfl (W18 rfl rfl rfl rfl rfl rfl rfl) ?_
     refine Ok u58 rfl (W6m rfl rfl rfl rfl) ?_
     refine Om u58 ?_
     refine Yd (env' := u58) rfl rfl rfl rfl rfl (by exact May_R _ p g ((bkL a i).getD k 0) (by have := bkL_at (a := a) (b := i) (k := k) (by omega); omega) (u : Nat)) XH8 rfl rfl ?_
     refine Oc u58 rfl (ZM rfl rfl rfl) ?_
     refine Oc u58 rfl (Yo (.inr rfl) rfl) ?_
     refine ZW [] XH3 (trivial) ?_
     refine Zq (Zb (Za (Lm u58 ?_)))
     refine Lo u58 (W14 rfl rfl rfl) ?_
     refine La u58 ?_
     refine Zd (Zt (mk 58 288230376151707675) (env' := u58) rfl ⟨⟨k + 1, _⟩, ?_, rfl, ?_⟩)
     ·first | omega | (simp only []; omega)
     first | exact ⟨⟨by omega, by rw [Jv (by omega), ← hok, (show okb = true by assumption), Bool.true_and]⟩, rfl⟩ | exact ⟨⟨by omega, by rw [Jv (by omega), ← hok, (show okb = false by simp_all), Bool.false_and]⟩, rfl⟩
    try simp only [qB, qN] at hg4
    refine Of u58 rfl ?_
    refine Of u58 rfl ?_
    refine Of u58 rfl ?_
    refine Of u58 rfl ?_
    refine Of u58 rfl ?_
    refine Of u58 rfl ?_
    refine Of u58 rfl ?_
    refine Of u58 rfl ?_
    refine Of u58 rfl ?_
    refine Of u58 rfl ?_
    refine Oc u58 rfl (ZC (VVal.bool false) rfl rfl rfl) ?_
    refine Oc u58 rfl (Yo (.inr rfl) rfl) ?_
    refine ZW [] XH3 (trivial) ?_
    refine Zq (Zb (Za (Lm u58 ?_)))
    refine Lo u58 (W14 rfl rfl rfl) ?_
    refine La u58 ?_
    refine Zd (Zt (mk 58 288230376151707675) (env' := u58) rfl ⟨⟨k + 1, _⟩, ?_, rfl, ?_⟩)
    ·first | omega | (simp only []; omega)
    first | exact ⟨⟨by omega, by rw [Jv (by omega), ← hok, (show okb = true by assumption), Bool.true_and]⟩, rfl⟩ | exact ⟨⟨by omega, by rw [Jv (by omega), ← hok, (show okb = false by simp_all), Bool.false_and]⟩, rfl⟩
   try simp only [qB, qN] at hc3
   refine Zz (ZA (Zu (Zy (Zb (Zc (Za (Lm u58 ?_)))))))
   refine Zd (Zb (Zi _ rfl (fun hc5 => ?_) (fun hc5 => ?_)))
   ·try simp only [qB, qN] at hc5
    refine Za (Lm u58 ?_)
    refine Lm u58 ?_
    refine Lo u58 (Qh rfl rfl rfl XH4) ?_
    refine Lo u58 (ZcG rfl rfl rfl) ?_
    refine La u58 ?_
    refine Zd (Zq (Zb (Za (Lm u58 ?_))))
    refine Lo u58 (W14 rfl rfl rfl) ?_
    refine La u58 ?_
    refine Zd ?_
    obtain rfl : k = (bkL a i).length := by omega
    rw [List.take_length] at hok
    first
     | (have hE : (wdP (rwP p a i) u) ||| 1#64 <<< (u : Int).toNat = wdP (rwP p a i) (u + 1) := wdP_yes (hok.symm.trans (by assumption))); rw [hE]
     | (have hE : (wdP (rwP p a i) u) = wdP (rwP p a i) (u + 1) := wdP_no (hok.symm.trans (by assumption))); rw [hE]
    refine Zt (mk 58 288230376151710747) (env' := u58) rfl ⟨u + 1, ?_, rfl, ?_⟩
    ·first | omega | (simp only []; omega)
    exact ⟨by omega, rfl⟩
   try simp only [qB, qN] at hc5
   refine Zh (Zq (Zb (Za (Lm u58 ?_))))
   refine Lo u58 (W14 rfl rfl rfl) ?_
   refine La u58 ?_
   refine Zd ?_
   obtain rfl : k = (bkL a i).length := by omega
   rw [List.take_length] at hok
   first
    | (have hE : (wdP (rwP p a i) u) ||| 1#64 <<< (u : Int).toNat = wdP (rwP p a i) (u + 1) := wdP_yes (hok.symm.trans (by assumption))); rw [hE]
    | (have hE : (wdP (rwP p a i) u) = wdP (rwP p a i) (u + 1) := wdP_no (hok.symm.trans (by assumption))); rw [hE]
   refine Zt (mk 58 288230376151710747) (env' := u58) rfl ⟨u + 1, ?_, rfl, ?_⟩
   ·first | omega | (simp only []; omega)
   exact ⟨by omega, rfl⟩
  try simp only [qB, qN] at hc2
  refine Zz (ZA (Zu (Zy (Zb ?_))))
  obtain rfl : u = p.users.toNat := by omega
  rw [rowR_is g ha hl (by omega)]
  refine Za (Lm u58 ?_)
  refine Lm u58 ?_
  refine Lo u58 (Zv rfl rfl (by decide) rfl) ?_
  refine X7 rfl rfl (Jx rfl rfl rfl rfl rfl rfl rfl hlv rfl rfl (by decide) XH22 (by decide)) ?_
  rintro _ _ ⟨Y1, rfl, rfl, hY1, hY2, hY3⟩
  refine Le u58 ?_
  refine La u58 ?_
  refine Zd (Zq (Zb (Za (Lm u58 ?_))))
  refine Lo u58 (W14 rfl rfl rfl) ?_
  refine La u58 ?_
  refine Zd (Zt (mk 58 288230376151711515) (env' := u58) rfl ⟨⟨i + 1, _⟩, ?_, rfl, ?_⟩)
  ·first | omega | (simp only []; omega)
  exact ⟨by omega, _, rfl, by rw [Yf (d := 0) (by omega)]; exact LV.pushW hY3⟩
 try simp only [qB, qN] at hc1
 refine Zz (ZA (Zu (Zy (Zb (Zc (Za (Lm u58 ?_)))))))
 refine La u58 ?_
 refine Zd (Zb (Zj (Zbm (.inr rfl) (Zf rfl rfl) (Gh.ansLV (BaseOk.refl _) hlv (Yu _ _)) ?_)))
 rw [List.take_of_length_le (by omega)]
 exact ⟨rfl, rfl⟩
theorem Rows_spec {x : SW} (H : Ze) (p : Pb) (g : Go.V.Good p) (a : List Nat) (ha : Pat a) (hl : a.length = p.who.length) : F (psys x) 108 [.agg (pbB p), fzN a] H fun v G => v = fzW (Z6 (wsP p) a a.length) ∧ G = H := Rows_R H p (noR_good g) a ha hl
theorem fEarlyN {x : SW} (H : Ze) (r : Rul) (n : Int) (a : List Nat) (hl : r.steps.length ≤ 1000000) : F (psys x) 138 [.agg (rlB r), iI n, fzN a] H fun v G => v = .bool (erl r n (zI a)) ∧ G = H := by
 rw [fzN_is]; exact fEarly_spec H r n (zI a) hl
theorem erlA_no {n : Nat} {rs : List Rul} {a : List Nat} {k : Nat} (hk : k < rs.length) (h : erl (rs.getD k r0) n (zI a) = false) : ZaP n rs a = false := all_bad (f := fun r => erl r n (zI a)) hk h
theorem erlA_all {n : Nat} {rs : List Rul} {a : List Nat} {k : Nat} (hk : rs.length ≤ k) (h : (rs.take k).all (fun r => erl r n (zI a)) = true) : ZaP n rs a = true := Zco hk h
theorem Zb2 {x : SW} (H : Ze) (p : Pb) (hp : PbL p) (a : List Nat) : F (psys x) 165 [.agg (pbB p), fzN a] H fun v G => v = .bool (ZaP p.who.length p.rules a) ∧ G = H := by
 have h1 := hp.w; have h3 := hp.r; have h4 := hp.s
 refine Zp Tryd.func165 rfl u24 rfl ?_
 refine Zc (Za (Lo u24 (ZJ rfl rfl rfl) ?_))
 refine Lk u24 (.bool false) ?_
 refine Zd (Zb (Zc (Zc (Ym (Gh.freezePtrL (cs := pbB p) 2 0 rfl rfl rfl) ?_))))
 refine Za (Lk u24 (.int .i64 0) ?_)
 refine Zd (Zb (Zg (Zr (mk 24 16777177) (env' := u24) rfl ?_)))
 refine Zw (fun (k : Nat) => p.rules.length - k) (fun (k : Nat) => [(5, iI (k : Nat))]) (fun (k : Nat) G => (k ≤ p.rules.length ∧ (p.rules.take k).all (fun r => erl r p.who.length (zI a)) = true) ∧ G = H ++ [.dead]) 0 rfl ?_ ?_
 ·refine ⟨?_, rfl⟩
  exact ⟨Nat.zero_le _, rfl⟩
 rintro k _ ⟨⟨hk, hall⟩, rfl⟩
 refine ZL (env' := u24) rfl ?_
 refine Zc (Zc (Za (Lm u24 ?_)))
 refine Lo u24 rfl ?_
 refine Lo u24 (W2r rfl rfl rfl rfl) ?_
 refine Lo u24 rfl ?_
 refine Lo u24 rfl ?_
 refine Zd (Zb (Zi _ rfl (fun hc1 => ?_) (fun hc1 => ?_)))
 ·try simp only [qB, qN] at hc1
  refine Zh (Zb (Zc (Zg (Zc (ZK [0, 1, 2, 3, 4, 5, 6, 7, 8, 9, 10] #[0, 1, 0, 7, 15, 0, 32, 96, 0, 511, 1023] XH3 XH3 XH3 ?_)))))
  refine Oc u24 rfl rfl ?_
  refine Ok u24 rfl (W2r rfl rfl rfl rfl) ?_
  refine Om u24 ?_
  refine Oc u24 rfl (W18 rfl rfl rfl rfl rfl rfl rfl) ?_
  refine Ok u24 rfl (W2p rfl rfl rfl rfl rfl) ?_
  refine Oc u24 rfl rfl ?_
  refine Ok u24 rfl (W2r rfl rfl rfl rfl) ?_
  refine Ok u24 rfl (rfl) ?_
  refine Om u24 ?_
  refine Yd (env' := u24) rfl rfl rfl rfl rfl (by exact fEarlyN _ _ _ _ (h4 _ (Y3 (by omega)))) XH8 rfl rfl ?_
  refine Oc u24 rfl rfl ?_
  refine ZW [] XH3 (trivial) ?_
  refine Zb (Zi _ rfl (fun hc2 => ?_) (fun hc2 => ?_))
  ·try simp only [qB, qN] at hc2
   refine Zc (Za (Lk u24 (.bool false) ?_))
   refine Zd (Zb (Zj (ZE (Zl (Ye (ZE (Zl (W10 (.inr rfl) (Zf rfl rfl) ?_))))))))
   exact W6t
  try simp only [qB, qN] at hc2
  refine Zh (Zq (Zb (Za (Lm u24 ?_))))
  refine Lo u24 (W14 rfl rfl rfl) ?_
  refine La u24 ?_
  refine Zd (Zt (mk 24 16777177) (env' := u24) rfl ⟨k + 1, ?_, rfl, ?_⟩)
  ·first | omega | (simp only []; omega)
  exact ⟨⟨by omega, all_step (by omega) hall (by assumption)⟩, rfl⟩
 try simp only [qB, qN] at hc1
 refine Zz (ZA (Zu (Zy (Zb (Zc (Za (Lk u24 (.bool true) ?_)))))))
 refine Zd (Zb (Zj (W10 (.inr rfl) (Zf rfl rfl) ?_)))
 exact W6t
abbrev u11 {a0 a1 a2 a3 a4 a5 a6 a7 a8 a9 a10 : VVal} : VEnv := a0 :: a1 :: a2 :: a3 :: a4 :: a5 :: a6 :: a7 :: a8 :: a9 :: a10 :: []
theorem W6u {T : TypeId → Option VTy} {H : Ze} {op : Op} {ρ : Operand → VVal} {t : TypeId} {a : Operand} {y : VTy} {p : VVal} {n : Nat} {vs : List VVal} (ho : op = .load t a) (ha : ρ a = p) (hy : T t = some y) (hd : Zk y.desc = true) (hn : y.size = n) (h : XF H p n vs := by exact XH50) : vop T ρ H op = some (.agg vs, H) := XI ho ha hy hd hn h
theorem W6v {S : V.Sys} {H : Ze} {fn : Func} {ex : Exit} {env : VEnv} {B L : Ze} {v : VVal} {R : VVal → Ze → Prop} (hx : ex = .normal ∨ ex = .ret) (hv : ZX S.C.T env (B ++ L) fn.results = some v) (h : R v B) (hB : BaseOk H B := by exact XH41) (hu : v.under H.length = true := by first | rfl | exact (show ((fzN (plN a l)).under H.length && (true && true)) = true by rw [show (fzN (plN a l)).under H.length = true from XU _ _]; rfl)) : fnK S fn H R ex env (B ++ L) := Xk hx hv hB hu h
theorem W6w {P : Prop} (h : P := by first | exact ⟨by rw [srF_0 hey, h7]; show _ = VVal.tuple [fzN (plN a l), .bool true]; rw [fzN_pl]; rfl, rfl⟩ | exact ⟨by rw [srF_0 hey, h6 (by assumption)]; rfl, rfl⟩ | exact ⟨by rw [srF_e (by rw [ZT]; assumption)]; rfl, rfl⟩) : P := h
theorem W6z {T : TypeId → Option VTy} {H : Ze} {op : Op} {ρ : VEnv} {H' : Ze} {t : TypeId} {a : Operand} {i : Nat} {v : VVal} {y : VTy} {b off : Nat} {cs new : List VVal} (ho : op = .store t a (.tmp i)) (hv : ρ[i]? = some v) (ha : ρ.eval a = .ptr (some (b, off))) (hy : T t = some y) (hx : v.cells = some new) (hn : new.length = y.size) (h1 : new.all VVal.one = true) (hb : H[b]? = some (.cells cs true) := by exact XH35) (hl : off + new.length ≤ cs.length := by show 0 + k * 1 + 1 ≤ _; rw [List.length_map, plK_len (by omega)]; omega) (hH : H.set b (.cells (Zx cs off new) true) = H' := by exact (ZO rfl).trans (by show _ ++ [VBlk.dead, VBlk.cells (Zx (rcN (plK a l k)) (0 + k * 1) [iI ((l.getD (a.getD k 0) 0 : Nat) : Int)]) true] = _; rw [spl_N (by rw [plK_len (by omega)]; omega)])) : vop T ρ.eval H op = some (.skip, H') := Z3 ho hv ha hy hx hn h1 hb hl hH
theorem W71 {S : V.Sys} {H : Ze} {fn : Func} {ex : Exit} {env : VEnv} {B L : Ze} {v : VVal} {R : VVal → Ze → Prop} (hx : ex = .normal ∨ ex = .ret) (hv : ZX S.C.T env (B ++ L) fn.results = some v) (h : R v B) (hB : BaseOk H B := by exact XH41) (hu : v.under H.length = true := by first | rfl | exact (show ((fzN l).under H.length && (true && true)) = true by rw [show (fzN l).under H.length = true from XU _ _]; rfl)) : fnK S fn H R ex env (B ++ L) := Xk hx hv hB hu h
theorem W72 {P : Prop} (h : P := by first | exact ⟨by rw [srF_R hey, hsr, srR_yes (by omega) (h5 rfl)]; rfl, rfl⟩ | exact ⟨by rw [srF_R hey, hsr, srR_end (by omega)]; rfl, rfl⟩ | exact ⟨by rw [srF_e (by rw [ZT]; assumption)]; rfl, rfl⟩) : P := h
theorem W73 {T : TypeId → Option VTy} {H : Ze} {op : Op} {ρ : Operand → VVal} {t : TypeId} {a : Operand} {y : VTy} {p : VVal} {n : Nat} {vs : List VVal} (ho : op = .load t a) (ha : ρ a = p) (hy : T t = some y) (hd : Zk y.desc = true) (hn : y.size = n) (h : XF H p n vs := by first | exact .inl ⟨_, _, rfl, by rfl⟩ | exact .inr ⟨_, _, _, _, rfl, XH35, by rfl⟩) : vop T ρ H op = some (.agg vs, H) := XI ho ha hy hd hn h
theorem W74 {P : Prop} (h : P := by first | exact ⟨he.symm, rfl⟩ | exact ⟨by rw [show leA p = none from if_neg (by assumption)]; rfl, rfl⟩) : P := h
theorem search_in {x : SW} {H Z : Ze} {pv : VVal} {a : List Nat} {b i n c : Nat} {o : Option (List Nat)} (hZ : Z[i]? = some (.cells (rcN (a ++ [b])) true)) (h : F (psys x) 147 [pv, fzN (a ++ [b])] (H ++ Z.set i .dead) fun v G => v = leT o ∧ G = H ++ Z.set i .dead) (hn : n = a.length + 1) (hc : c = n) : F (psys x) 147 [pv, .slice (some (H.length + i, 0)) n c false 1] (H ++ Z) fun v G => v = leT o ∧ G = H ++ Z.set i .dead := by
 subst hc; subst hn
 exact F.pre (Gh.freezeL (H := H) (l := rcN (a ++ [b])) (vs' := [pv, fzN (a ++ [b])]) 1 i rfl hZ (Yn (by simp)) (Nat.le_refl _) (by simp)) h
theorem leV_o {ws : List (BitVec 64)} {a : List Nat} (h : (Z6 ws a a.length).length ≤ 12) : ∃ l ok, leV (Z6 ws a a.length) = .tuple [fzN l, .bool ok] ∧ (ok = true → plO ws a = some (plN a l) ∧ l.length = (Z6 ws a a.length).length) ∧ (ok = false → plO ws a = none) := by
 unfold leV plO
 by_cases hf : Yk (Z6 ws a a.length) 0#64 = true
 ·rw [if_pos ⟨h, hf⟩, if_pos hf]
  refine ⟨_, true, rfl, fun _ => ⟨rfl, ?_⟩, fun e => (by cases e)⟩
  have := (lst_ok (fullB_iff.1 hf)).len
  rwa [Yg] at this
 rw [if_neg (fun e => hf e.2), if_neg hf]
 exact ⟨[], false, rfl, fun e => (by cases e), fun _ => rfl⟩
theorem search_0 {x : SW} (p : Pb) (hp : PbL p) (g : Go.V.Good p) (H : Ze) (a : List Nat) (ha : Pat a) (hl : a.length = p.who.length) : F (psys x) 147 [.agg (pbB p), fzN a] H fun v G => v = leT (srF (wsP p) p.rules 0 a) ∧ G = H := by
 have h1 := hp.w
 have g1 := g.n12
 have hz := @YH a a.length
 have hbl := @YB (wsP p) a a.length
 refine Zp Tryd.func147 rfl u73 rfl ?_
 refine Zc (Za (Lo u73 (ZJ rfl rfl rfl) ?_))
 refine Lk u73 (.slice none 0 0 true 0) ?_
 refine Lk u73 (.bool false) ?_
 refine Zd (Zb (Zc (Zc (Ym (Gh.freezePtrL (cs := pbB p) 2 0 rfl rfl rfl) ?_))))
 refine Za (Lo u73 (W6u rfl rfl rfl rfl rfl) ?_)
 refine Lm u73 ?_
 refine Zs rfl rfl rfl (by exact Zb2 _ p hp a) ?_
 rintro _ _ ⟨rfl, rfl⟩
 refine Le u73 ?_
 refine Lo u73 rfl ?_
 refine Zd (Zb (Zi _ rfl (fun hc1 => ?_) (fun hc1 => ?_)))
 ·try simp only [qB, qN] at hc1
  refine Zc (Za (Lk u73 (.slice none 0 0 true 0) ?_))
  refine Lk u73 (.bool false) ?_
  refine Zd (Zb (Ym (Gh.freezeNil 4 (es' := 1) rfl rfl) ?_))
  refine Zj (Zl (W6v (.inr rfl) (Yy rfl rfl rfl) ?_))
  exact W6w
 try simp only [qB, qN] at hc1
 refine Zh (Zb (Zc (Zc ?_)))
 have hey : ZaP (wsP p).length p.rules a = true := by rw [ZT]; assumption
 refine Za (Lm u73 ?_)
 refine Lo u73 rfl ?_
 refine Lo u73 rfl ?_
 refine Lo u73 (W6k rfl rfl rfl rfl) ?_
 refine Lo u73 rfl ?_
 refine Lo u73 (QA true rfl (by rw [hl]; simp)) ?_
 refine Zd (Zb (ZN rfl rfl ?_))
 refine Zc (Za (Lo u73 (W6u rfl rfl rfl rfl rfl) ?_))
 refine Lm u73 ?_
 refine Zs rfl rfl rfl (by exact Rows_spec _ p g a ha (by omega)) ?_
 rintro _ _ ⟨rfl, rfl⟩
 refine Le u73 ?_
 refine Zs rfl rfl rfl (by exact ZcM _ (Z6 (wsP p) a a.length) (by omega)) ?_
 rintro v _ ⟨hv, rfl⟩; obtain ⟨l, ok, he, h5, h6⟩ := leV_o (ws := wsP p) (a := a) (by omega); rw [he] at hv; subst hv
 refine Le u73 ?_
 refine Lm u73 ?_
 refine Lo u73 rfl ?_
 refine Lo u73 rfl ?_
 refine La u73 ?_
 refine La u73 ?_
 refine Zd (Zb (Zc (Zc (Za (Lm u73 ?_)))))
 refine Lo u73 rfl ?_
 refine Zd (Zb (Zi _ rfl (fun hc2 => ?_) (fun hc2 => ?_)))
 ·try simp only [qB, qN] at hc2
  refine Zc (Za (Lk u73 (.slice none 0 0 true 0) ?_))
  refine Lk u73 (.bool false) ?_
  refine Zd (Zb (Ym (Gh.freezeNil 4 (es' := 1) rfl rfl) ?_))
  refine Zj (Zl (Zl (W6v (.inr rfl) (Yy rfl rfl rfl) ?_)))
  exact W6w
 try simp only [qB, qN] at hc2
 refine Zh (Zb (Zc ?_))
 have hok : ok = true := by assumption
 obtain ⟨h7, h8⟩ := h5 hok
 refine Za (Lm u73 ?_)
 refine Lo u73 rfl ?_
 refine Lo u73 (Yz rfl rfl rfl rfl rfl (by decide) ⟨by omega, Int.le_refl _, by show (a.length : Int) * (8 : Nat) ≤ _; omega, by omega⟩) ?_
 refine La u73 ?_
 refine Zd (Zb (Zc (Zc (Za (Lk u73 (.int .i64 0) ?_)))))
 refine Zd (Zb (Zg (Zr (mk 73 9444732965739290426557) (env' := u73) rfl ?_)))
 refine Zw (fun (k : Nat) => a.length - k) (fun (k : Nat) => [(9, iI (k : Nat))]) (fun (k : Nat) G => (k ≤ a.length) ∧ G = H ++ [.dead, .cells (rcN (plK a l k)) true]) 0 rfl ?_ ?_
 ·refine ⟨?_, (by rw [show plK a l 0 = List.replicate a.length 0 from rfl, ← rep_rc]; rfl)⟩
  exact Nat.zero_le _
 rintro k _ ⟨hk9, rfl⟩
 refine ZL (env' := u73) rfl ?_
 refine Zc (Zc (Za (Lm u73 ?_)))
 refine Lm u73 ?_
 refine Lo u73 rfl ?_
 refine Lo u73 rfl ?_
 refine Zd (Zb (Zi _ rfl (fun hc3 => ?_) (fun hc3 => ?_)))
 ·try simp only [qB, qN] at hc3
  refine Zh (Zb (Zc (Zg ?_)))
  have hlt := Pat.lt ha (Nat.le_refl a.length) (i := k) (by omega)
  refine Za (Lm u73 ?_)
  refine Lm u73 ?_
  refine Lm u73 ?_
  refine Lm u73 ?_
  refine Lm u73 ?_
  refine Lo u73 (W18 rfl rfl rfl rfl rfl rfl rfl) ?_
  refine Lo u73 (W6k rfl rfl rfl rfl) ?_
  refine Lo u73 (W18 rfl rfl rfl rfl rfl rfl rfl) ?_
  refine Lo u73 (W6k rfl rfl rfl rfl) ?_
  refine Lo u73 (W18 rfl rfl rfl rfl rfl rfl rfl) ?_
  refine Lo u73 (W6z rfl rfl rfl rfl rfl rfl rfl) ?_
  refine Zd (Zq (Zb (Za (Lm u73 ?_))))
  refine Lo u73 (W14 rfl rfl rfl) ?_
  refine La u73 ?_
  refine Zd (Zt (mk 73 9444732965739290426557) (env' := u73) rfl ⟨k + 1, ?_, rfl, ?_⟩)
  ·first | omega | (simp only []; omega)
  exact ⟨by omega, by rw [plK_step (by omega)]⟩
 try simp only [qB, qN] at hc3
 refine Zz (ZA (Zu (Zy (Zb (Zc (Za (Lm u73 ?_)))))))
 refine La u73 ?_
 refine Lk u73 (.bool true) ?_
 refine Zd (Zb ?_)
 obtain rfl : k = a.length := by omega
 rw [plK_all]
 refine Ym (Gh.freezeL (l := rcN (plN a l)) 4 1 rfl rfl (Yn (by rw [List.length_map, Qc]; rfl)) (Nat.le_refl _) rfl) ?_
 refine Zj (Zl (W6v (.inr rfl) (Yy rfl rfl rfl) ?_))
 exact W6w
theorem search_s {x : SW} (p : Pb) (hp : PbL p) (g : Go.V.Good p) (M : Nat) (ih : ∀ (H : Ze) (a : List Nat), Pat a → a.length + M = p.who.length → F (psys x) 147 [.agg (pbB p), fzN a] H (fun v G => v = leT (srF (wsP p) p.rules M a) ∧ G = H)) (H : Ze) (a : List Nat) (ha : Pat a) (hl : a.length + (M + 1) = p.who.length) : F (psys x) 147 [.agg (pbB p), fzN a] H fun v G => v = leT (srF (wsP p) p.rules (M + 1) a) ∧ G = H := by
 have h1 := hp.w
 have g1 := g.n12
 have hz := @YH a a.length
 have hbl := @YB (wsP p) a a.length
 refine Zp Tryd.func147 rfl u73 rfl ?_
 refine Zc (Za (Lo u73 (ZJ rfl rfl rfl) ?_))
 refine Lk u73 (.slice none 0 0 true 0) ?_
 refine Lk u73 (.bool false) ?_
 refine Zd (Zb (Zc (Zc (Ym (Gh.freezePtrL (cs := pbB p) 2 0 rfl rfl rfl) ?_))))
 refine Za (Lo u73 (W6u rfl rfl rfl rfl rfl) ?_)
 refine Lm u73 ?_
 refine Zs rfl rfl rfl (by exact Zb2 _ p hp a) ?_
 rintro _ _ ⟨rfl, rfl⟩
 refine Le u73 ?_
 refine Lo u73 rfl ?_
 refine Zd (Zb (Zi _ rfl (fun hc1 => ?_) (fun hc1 => ?_)))
 ·try simp only [qB, qN] at hc1
  refine Zc (Za (Lk u73 (.slice none 0 0 true 0) ?_))
  refine Lk u73 (.bool false) ?_
  refine Zd (Zb (Ym (Gh.freezeNil 4 (es' := 1) rfl rfl) ?_))
  refine Zj (Zl (W71 (.inr rfl) (Yy rfl rfl rfl) ?_))
  exact W72
 try simp only [qB, qN] at hc1
 refine Zh (Zb (Zc (Zc ?_)))
 have hey : ZaP (wsP p).length p.rules a = true := by rw [ZT]; assumption
 refine Za (Lm u73 ?_)
 refine Lo u73 rfl ?_
 refine Lo u73 rfl ?_
 refine Lo u73 (W6k rfl rfl rfl rfl) ?_
 refine Lo u73 rfl ?_
 refine Lo u73 (QA false rfl (by simp; omega)) ?_
 refine Zd (Zb (Yc rfl rfl ?_))
 refine Zh (Zb (Zc (Zc (Za (Lk u73 (.int .i64 0) ?_)))))
 refine Zd (Zb (Zg (Zr (mk 73 9444732965739290426361) (env' := u73) rfl ?_)))
 refine Zw (fun (b : Nat) => szP a a.length + 1 - b) (fun (b : Nat) => [(10, iI (b : Nat))]) (fun (b : Nat) G => (b ≤ szP a a.length + 1 ∧ srR (wsP p) p.rules M a 0 = srR (wsP p) p.rules M a b) ∧ ∃ X, G = H ++ X) 0 rfl ?_ ?_
 ·refine ⟨?_, ⟨_, rfl⟩⟩
  exact ⟨Nat.zero_le _, rfl⟩
 rintro b _ ⟨⟨hb, hsr⟩, ⟨X, rfl⟩⟩
 refine ZL (env' := u73) rfl ?_
 refine Zc (Zc (Za (Lm u73 ?_)))
 refine Lm u73 ?_
 refine Zs rfl rfl rfl (by exact Size_spec _ a ha (by omega)) ?_
 rintro _ _ ⟨rfl, rfl⟩
 refine Le u73 ?_
 refine Lo u73 rfl ?_
 refine Zd (Zb (Zi _ rfl (fun hc2 => ?_) (fun hc2 => ?_)))
 ·try simp only [qB, qN] at hc2
  refine Zh (Zb (Zc (Zg (Zc (Za (Lk u73 (.slice none 0 0 true 0) ?_))))))
  refine Zd (Zb (Zc (Za (Lm u73 ?_))))
  refine Lm u73 ?_
  refine X7 rfl rfl (v_cpN rfl rfl rfl rfl rfl rfl rfl rfl (by show a.length * 8 ≤ _ ∧ _; omega)) ?_
  rintro w _ ⟨Z, rfl, hcp⟩
  refine Le u73 ?_
  refine La u73 ?_
  refine Zd (Zb (Zc (B_drawP #[0, 0, 0, 4, 14, 31, 63, 127, 127, 255, 1023] XH3 ?_)))
  refine P_seg [0, 1, 2, 3, 4] (bef := #[0, 0, 0, 4, 14, 31, 63, 127, 127, 255, 1023]) XH3 XH3 XH3 ?_
  refine Yb (env' := u73) (x := .look _ _) rfl rfl rfl (W6u rfl rfl rfl rfl rfl) rfl rfl rfl ?_
  refine Om u73 ?_
  refine Om u73 ?_
  refine Oo u73 .grow rfl (Zv rfl rfl (by decide) rfl) ?_
  refine O_opXI (fun _ G => .turn _ G) rfl rfl rfl (v_cpApp rfl rfl rfl rfl rfl rfl rfl rfl hcp (by show (a.length + 1) * 8 ≤ _ ∧ _; omega)) (fun _ _ => rfl) ?_
  rintro _ _ ⟨Z2, i, rfl, rfl, hZ2⟩
  refine Zbr (env' := u73) rfl ?_
  refine ZW [_] (by rfl) (And.intro (And.intro (W6u rfl rfl rfl rfl rfl) (W6u rfl rfl rfl rfl rfl)) trivial) ?_
  refine P_call 5 (bef := #[0, 0, 0, 4, 14, 31, 63, 127, 127, 255, 1023]) XH3 XH3 rfl rfl rfl rfl (by exact search_in hZ2 (ih _ (a ++ [b]) (Qz ha (by omega)) (by simp; omega)) rfl rfl) ?_
  rintro v _ ⟨hv, rfl⟩; obtain ⟨l, ok, he, h5, h6⟩ := leT_eq (srF (wsP p) p.rules M (a ++ [b])); rw [he] at hv; subst hv
  refine P_env (env' := u73) rfl ?_
  refine P_seg [6, 7, 8, 9, 10] (bef := #[0, 0, 0, 4, 14, 31, 63, 127, 127, 255, 1023]) XH3 XH3 XH3 ?_
  refine Om u73 ?_
  refine Oc u73 rfl rfl ?_
  refine Oc u73 rfl rfl ?_
  refine Oc u73 rfl (Yo (.inr rfl) rfl) ?_
  refine Oc u73 rfl (Yo (.inr rfl) rfl) ?_
  refine ZW [] XH3 (trivial) ?_
  refine P_end XH3 ?_
  refine Zb (Zc (Za (Lm u73 ?_)))
  refine Zd (Zb (Zi _ rfl (fun hc3 => ?_) (fun hc3 => ?_)))
  ·try simp only [qB, qN] at hc3
   have hok : ok = true := by assumption
   subst hok
   refine Zc (Za (Lm u73 ?_))
   refine La u73 ?_
   refine Lk u73 (.bool true) ?_
   refine Zd (Zb (Zj (ZE (Zl (Ye (ZE (Zl (W71 (.inr rfl) (Yy rfl rfl rfl) ?_))))))))
   exact W72
  try simp only [qB, qN] at hc3
  have hok : ok = false := by assumption
  subst hok
  refine Zh (Zq (Zb (Za (Lm u73 ?_))))
  refine Lo u73 (W14 rfl rfl rfl) ?_
  refine La u73 ?_
  refine Zd (Zt (mk 73 9444732965739290426361) (env' := u73) rfl ⟨b + 1, ?_, rfl, ?_⟩)
  ·first | omega | (simp only []; omega)
  exact ⟨⟨by omega, hsr.trans (srR_no (by omega) (h6 rfl).2)⟩, _, rfl⟩
 try simp only [qB, qN] at hc2
 refine Zz (ZA (Zu (Zy (Zb (Zc (Za (Lk u73 (.slice none 0 0 true 0) ?_)))))))
 refine Lk u73 (.bool false) ?_
 refine Zd (Zb (Ym (Gh.freezeNil 4 (es' := 1) rfl rfl) ?_))
 refine Zj (W71 (.inr rfl) (Yy rfl rfl rfl) ?_)
 exact W72
theorem Za8 {x : SW} (p : Pb) (hp : PbL p) (g : Go.V.Good p) : ∀ (M : Nat) (H : Ze) (a : List Nat), Pat a → a.length + M = p.who.length → F (psys x) 147 [.agg (pbB p), fzN a] H (fun v G => v = leT (srF (wsP p) p.rules M a) ∧ G = H)
 | 0, H, a, ha, hl => search_0 p hp g H a ha hl
 | M + 1, H, a, ha, hl => search_s p hp g M (fun H a b c => Za8 p hp g M H a b c) H a ha hl
theorem search_top {x : SW} (p : Pb) (hp : PbL p) (g : Go.V.Good p) (H : Ze) : F (psys x) 147 [.agg (pbB p), niS] H (fun v G => ∃ l ok, v = .tuple [fzN l, .bool ok] ∧ leT (leA p) = .tuple [fzN l, .bool ok] ∧ G = H) := by
 refine F.pre (Gh.freezeNil (vs' := [.agg (pbB p), fzN []]) 1 rfl rfl) ?_
 refine (Za8 p hp g p.who.length H [] Qg (Nat.zero_add _)).mono ?_
 rintro v G ⟨rfl, rfl⟩
 have h1 := srF_fd (u := p.users.toNat) (ws := wsP p) (rs := p.rules) fun r hr => by rw [ZT]; exact g.ru r hr
 have h2 : leA p = srF (wsP p) p.rules p.who.length [] := by
  unfold leA
  rw [if_pos (pck_good.2 g)]
  unfold Y8
  rw [← ZT, h1]
 rw [← h2]
 obtain ⟨l, ok, he, _, _⟩ := leT_eq (leA p)
 exact ⟨l, ok, he, he, rfl⟩
theorem fLeast_spec {x : SW} (H : Ze) (p : Pb) (hp : PbL p) : F (psys x) 115 [.agg (pbB p)] H fun v G => v = leT (leA p) ∧ G = H := by
 refine Zp Tryd.func115 rfl u11 rfl ?_
 refine Zc (Za (Lo u11 (ZJ rfl rfl rfl) ?_))
 refine Lk u11 (.slice none 0 0 true 0) ?_
 refine Lk u11 (.bool false) ?_
 refine Zd (Zb (Zc (Zc (Ym (Gh.freezePtrL (cs := pbB p) 1 0 rfl rfl rfl) ?_))))
 refine Za (Lo u11 (W73 rfl rfl rfl rfl rfl) ?_)
 refine Zs rfl rfl rfl (by exact QE _ _ hp) ?_
 rintro _ _ ⟨rfl, rfl⟩
 refine Le u11 ?_
 refine Lo u11 rfl ?_
 refine Zd (Zb (Zi _ rfl (fun hc1 => ?_) (fun hc1 => ?_)))
 ·try simp only [qB] at hc1
  refine Zc (Za (Lk u11 (.slice none 0 0 true 0) ?_))
  refine Lk u11 (.bool false) ?_
  refine Zd (Zb (Ym (Gh.freezeNil 2 (es' := 1) rfl rfl) ?_))
  refine Zj (Zl (W71 (.inr rfl) (Yy rfl rfl rfl) ?_))
  exact W74
 try simp only [qB] at hc1
 refine Zh (Zb (Zc ?_))
 have g : Go.V.Good p := pck_good.1 (by assumption)
 refine Za (Lo u11 (W73 rfl rfl rfl rfl rfl) ?_)
 refine Zs rfl rfl rfl (by exact search_top p hp g _) ?_
 rintro _ _ ⟨l, ok, rfl, he, rfl⟩
 refine Le u11 ?_
 refine Lo u11 rfl ?_
 refine Lo u11 rfl ?_
 refine La u11 ?_
 refine La u11 ?_
 refine Zd (Zb (Zj (W71 (.inr rfl) (Yy rfl rfl rfl) ?_)))
 exact W74
theorem fCan_spec {x : SW} (H : Ze) (p : Pb) (hp : PbL p) : F (psys x) 68 [.agg (pbB p)] H fun v G => v = .bool (leA p).isSome ∧ G = H := by
 refine Zp Tryd.func68 rfl u11 rfl ?_
 refine Zc (Za (Lo u11 (ZJ rfl rfl rfl) ?_))
 refine Lk u11 (.bool false) ?_
 refine Zd (Zb (Zc (Za (Lo u11 (W11 rfl rfl rfl rfl rfl) ?_))))
 refine Zs rfl rfl rfl (by exact fLeast_spec _ p hp) ?_
 rintro v _ ⟨hv, rfl⟩; obtain ⟨l, ok, he, h1, h2⟩ := leT_eq (leA p); have hok := leT_ok he; rw [he] at hv; subst hv; subst hok
 refine Le u11 ?_
 refine Lm u11 ?_
 refine Lo u11 rfl ?_
 refine Lo u11 rfl ?_
 refine La u11 ?_
 refine La u11 ?_
 refine Zd (Zb (Zc (Za (Lm u11 ?_))))
 refine La u11 ?_
 refine Zd (Zb (Zj (W10 (.inr rfl) (Zf rfl rfl) ?_)))
 exact ⟨rfl, rfl⟩
def sumP (p : Pb) : Nat := ((ptP p).map (cnA (wsP p))).sum
theorem W7a {T : TypeId → Option VTy} {H : Ze} {op : Op} {ρ : Operand → VVal} {t : TypeId} {a : Operand} {y : VTy} {p v : VVal} (ho : op = .load t a) (ha : ρ a = p) (hy : T t = some y) (hd : Zk y.desc = false) (h : LdOk H p v := by first | exact .inl ⟨_, _, rfl, XH36⟩ | exact .inr ⟨_, _, _, _, rfl, by first | exact Zn (ZI rfl rfl) | exact ZI rfl rfl | exact ZcR rfl rfl, XH36⟩) : vop T ρ H op = some (v, H) := Yv ho ha hy hd h
theorem W7c {P : Prop} (h : P := by first | exact ⟨congrArg iW (by rw [hI]; rfl), rfl⟩ | exact ⟨congrArg iW (by rw [hX1, satW_full hX1 hX2]), rfl⟩) : P := h
theorem QL {ws : List (BitVec 64)} {a : List Nat} {most : BitVec 64} {s : Nat} (h : (Z6 ws a a.length).length ≤ 12) : Z8 (Z8 most 65536) s + MM.coV (Z6 ws a a.length) (Z8 ((Z8 most 65536) - Z8 (Z8 most 65536) s) 65536) = Z8 (Z8 most 65536) (s + cnA ws a) := by
 unfold MM.coV
 rw [if_pos h]
 exact sat_more (by rw [Ys]; omega)
theorem sum_split {f : List Nat → Nat} {l pre post : List (List Nat)} {a : List Nat} (h : l = pre ++ a :: post) : ((pre ++ [a]).map f).sum = (pre.map f).sum + f a ∧ ((pre ++ [a]).map f).sum ≤ (l.map f).sum := by
 subst h
 simp only [List.map_append, List.sum_append, List.map_cons, List.sum_cons, List.map_nil, List.sum_nil]
 omega
theorem Za6 {x : SW} (H : Ze) (p : Pb) (hp : PbL p) (most : BitVec 64) : F (psys x) 24 [.agg (pbB p), iW most] H fun v G => v = iW (Z8 (Z8 most 65536) (sumP p)) ∧ G = H := by
 refine Zp Tryd.func24 rfl u25 rfl ?_
 refine Zc (Za (Lo u25 (ZJ rfl rfl rfl) ?_))
 refine Lo u25 (ZJ rfl rfl rfl) ?_
 refine Lk u25 (.int .u64 0) ?_
 refine Zd (Zb (Zc (Ym (Gh.freezePtrL (cs := pbB p) 2 0 rfl rfl rfl) ?_)))
 refine Za (Lo u25 (W12 rfl rfl rfl rfl) ?_)
 refine Lo u25 (Xg rfl ((congrArg (VVal.int .u64) (MM.minW (a := most) (b := 65536#64))).trans rfl)) ?_
 refine Lo u25 (W13 rfl rfl rfl rfl rfl rfl rfl) ?_
 refine Zd (Zb (Zc (Za (Lo u25 (ZP rfl rfl) ?_))))
 refine Lo u25 (Ya (VVal.int .u64 0) rfl rfl rfl rfl rfl rfl rfl XH0 XH5 XH1) ?_
 refine Zd (Zb (Zc (Zc (Za (Lo u25 (W11 rfl rfl rfl rfl rfl) ?_)))))
 refine Zs rfl rfl rfl (by exact Qk _ p) ?_
 rintro _ _ ⟨rfl, rfl⟩
 refine Le u25 ?_
 refine Zd (Zb (Zg (Zr (mk 25 33552343) (env' := u25) rfl ?_)))
 refine Jh (fvP p) 2 (fun _ => rfl) (ptP p) (fun l0 h => by cases h) rfl (fun l9 G9 K9 hI9 => XT l9 p hp G9 K9 hI9) (σ := Nat) (fun k s => H ++ [.dead, .cells [iW (Z8 most 65536)] true, .cells [iW (Z8 (Z8 most 65536) s)] true, k]) 0 (fun k => by rw [List.append_assoc]; show _ = H ++ [.dead, .cells [iW (Z8 most 65536)] true, .cells [iW (Z8 (Z8 most 65536) 0)] true, k]; rw [satW_0]; rfl) (fun k s => by simp) (fun k s => by rw [show (H ++ _ : Ze).length = H.length + 3 by simp]; exact ZI rfl rfl) (fun k k1 s => by rw [show (H ++ _ : Ze).length = H.length + 3 by simp]; exact ZO rfl) (fun pre s => s = (pre.map (cnA (wsP p))).sum) ?_ (fun j pre c s => (j = Code.exit 0 ∧ (Z8 (Z8 most 65536) s = (Z8 most 65536) ∧ s ≤ sumP p))) rfl ?_ ?_ ?_
 ·rfl
 ·intro pre c post s hx hI Lp kr kb hkr hkb
  try dsimp only at hI ⊢
  have hc9 : c ∈ ptP p := by rw [hx]; simp
  obtain ⟨h0, hpc, hcl, _, _⟩ := Qb hc9
  have g1 := (pck_good.1 h0).n12
  have hbl := @YB (wsP p) c c.length
  have hz := @YH c c.length
  obtain ⟨hs1, hs2⟩ := sum_split (f := cnA (wsP p)) hx
  refine ZL (env' := u25) rfl ?_
  refine Za (La u25 ?_)
  refine Zd (⟨rfl, s, rfl, ?_⟩)
  try dsimp only
  refine Zg (Zc (ZK [0, 1, 2, 3, 4, 5, 6, 7] #[0, 0, 0, 0, 12, 30, 63, 127] XH3 XH3 XH3 ?_))
  refine Yb (env' := u25) (x := .look _ _) rfl rfl rfl (W12 rfl rfl rfl rfl) rfl rfl rfl ?_
  refine Om u25 ?_
  refine Ok u25 rfl (W12 rfl rfl rfl rfl) ?_
  refine Ok u25 rfl (W12 rfl rfl rfl rfl) ?_
  refine Oc u25 rfl (v_subW rfl rfl rfl) ?_
  refine Yd (env' := u25) rfl rfl rfl rfl rfl (by exact MM.mCount_spec _ (Z6 (wsP p) c c.length) ((Z8 most 65536) - Z8 (Z8 most 65536) s) (by omega)) XH8 rfl rfl ?_
  refine Oc u25 rfl (Xg (XY rfl rfl rfl) (congrArg iW (QL (s := s) (a := c) (ws := wsP p) (most := most) (by omega)))) ?_
  refine Oo u25 .turn rfl (W13 rfl rfl rfl rfl rfl rfl rfl) ?_
  refine Jz [(0, 5)] XH3 (And.intro ⟨_, _, _, _, ⟨(gA (gA (gA (gA (gA (gA (gA (gL XH3)))))))), (gA (gA (gL XH3))), And.intro (W12 rfl rfl rfl rfl) (W12 rfl rfl rfl rfl)⟩⟩ (trivial)) ?_
  refine Zb (Zc (Za (Lo u25 (W12 rfl rfl rfl rfl) ?_)))
  refine Lo u25 (W12 rfl rfl rfl rfl) ?_
  refine Lo u25 rfl ?_
  refine Zd (Zb (Zi _ rfl (fun hc1 => ?_) (fun hc1 => ?_)))
  ·try simp only [qB, qN] at hc1
   refine Zz (K_blkO rfl ?_)
   refine ⟨s + cnA (wsP p) c, [], (by simp; rfl), .inr ⟨Code.exit 0, rfl, ⟨rfl, ?_⟩⟩⟩
   exact ⟨hc1, by rw [hI, ← hs1]; exact hs2⟩
  try simp only [qB, qN] at hc1
  refine Zh (Zq (⟨s + cnA (wsP p) c, [], (by simp; rfl), .inl ⟨rfl, ?_⟩⟩))
  rw [hs1, hI]
 ·intro s k hk hI J9
  try dsimp only at hI ⊢
  refine Zq (Zb (Zc ?_))
  try refine YS (List.append_assoc _ _ _) ?_
  refine Za (Lo u25 (W7a rfl rfl rfl rfl) ?_)
  refine La u25 ?_
  refine Zd (Zb (Zj (W10 (.inr rfl) (Zf rfl rfl) ?_)))
  exact W7c
 rintro j pre c post s k hk hx (⟨rfl, ⟨hX1, hX2⟩⟩) J9
 try dsimp only
 skip
 refine J_exit (Zy (Zb (Zc ?_)))
 try refine YS (List.append_assoc _ _ _) ?_
 refine Za (Lo u25 (W7a rfl rfl rfl rfl) ?_)
 refine La u25 ?_
 refine Zd (Zb (Zj (W10 (.inr rfl) (Zf rfl rfl) ?_)))
 exact W7c
end Go.Proofs.YtccgigdjkghieaaDoor.VT
