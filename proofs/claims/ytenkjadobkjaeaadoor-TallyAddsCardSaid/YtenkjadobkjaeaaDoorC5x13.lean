/- Proved: Rows.TallyAddsCardSaid, the statement TallyAdds with its card, of the given program at the commit; no conditions beyond those in the statement. -/
import Derived.Test.YtenkjadobkjaeaaDoorC5x12
set_option autoImplicit false
set_option linter.unusedVariables false
set_option linter.unusedSimpArgs false
set_option maxHeartbeats 4000000
set_option maxRecDepth 100000
namespace Go.Proofs.YtenkjadobkjaeaaDoor.VT
open Go Go.V Go.RowKit
abbrev u51 {a0 a1 a2 a3 a4 a5 a6 a7 a8 a9 a10 a11 a12 a13 a14 a15 a16 a17 a18 a19 a20 a21 a22 a23 a24 a25 a26 a27 a28 a29 a30 a31 a32 a33 a34 a35 a36 a37 a38 a39 a40 a41 a42 a43 a44 a45 a46 a47 a48 a49 a50 : VVal} : VEnv := a0 :: a1 :: a2 :: a3 :: a4 :: a5 :: a6 :: a7 :: a8 :: a9 :: a10 :: a11 :: a12 :: a13 :: a14 :: a15 :: a16 :: a17 :: a18 :: a19 :: a20 :: a21 :: a22 :: a23 :: a24 :: a25 :: a26 :: a27 :: a28 :: a29 :: a30 :: a31 :: a32 :: a33 :: a34 :: a35 :: a36 :: a37 :: a38 :: a39 :: a40 :: a41 :: a42 :: a43 :: a44 :: a45 :: a46 :: a47 :: a48 :: a49 :: a50 :: []
theorem W2p {T : TypeId → Option VTy} {H : Zd} {op : Op} {ρ : Operand → VVal} {t : TypeId} {a : Operand} {y : VTy} {p v : VVal} (ho : op = .load t a) (ha : ρ a = p) (hy : T t = some y) (hd : Zj y.desc = false) (h : LdOk H p v := by first | exact .inl ⟨_, _, rfl, by first | exact fget0 (α := BitVec 64) 0 (by rw [mkT_len]; omega) | rfl⟩ | exact .inr ⟨_, _, _, _, rfl, XH36, by first | exact fget0 (α := BitVec 64) 0 (by rw [mkT_len]; omega) | rfl⟩) : vop T ρ H op = some (v, H) := v_ld ho ha hy hd h
theorem W2r {T : TypeId → Option VTy} {H : Zd} {op : Op} {ρ : VEnv} {H' : Zd} {t : TypeId} {a : Operand} {i : Nat} {v : VVal} {y : VTy} {b off : Nat} {cs new : List VVal} (ho : op = .store t a (.tmp i)) (hv : ρ[i]? = some v) (ha : ρ.eval a = .ptr (some (b, off))) (hy : T t = some y) (hx : v.cells = some new) (hn : new.length = y.size) (h1 : new.all VVal.one = true) (hb : H[b]? = some (.cells cs true) := by exact XH36) (hl : off + new.length ≤ cs.length := by show 0 + (k : Int).toNat * 1 + 1 ≤ _; rw [List.length_map, mkT_len]; omega) (hH : H.set b (.cells (Zu cs off new) true) = H' := by exact (ZG rfl).trans (by show H ++ [VBlk.cells (Zu (List.map iW (mkT l t k)) (0 + (k : Int).toNat * 1) [_]) true, _] = _; rw [spl_w (by rw [mkT_len]; omega)])) : vop T ρ.eval H op = some (.skip, H') := Z4 ho hv ha hy hx hn h1 hb hl hH
theorem W2t {S : V.Sys} {H : Zd} {fn : Func} {ex : Exit} {env : VEnv} {B L : Zd} {v : VVal} {R : VVal → Zd → Prop} (hx : ex = .normal ∨ ex = .ret) (hv : Z0 S.C.T env (B ++ L) fn.results = some v) (h : R v B) (hB : BaseOk H B := by exact BaseOk.set (BaseOk.refl _) _ rfl) (hu : v.under H.length = true := by first | rfl | simp [VVal.under, VVal.underL, *]) : fnK S fn H R ex env (B ++ L) := YE hx hv hB hu h
theorem W2u {P : Prop} (h : P := by first | exact ⟨by rw [(full_no (by omega) hz (by assumption)).1], by rw [show fuG l t = ⟨0, 0, edN (msk l t) (k + 1)⟩ from congrArg (Gz.mk 0 0) (full_no (by omega) hz (by assumption)).2]⟩ | (obtain rfl : k = l.length := by omega); exact ⟨by rw [full_yes hz], rfl⟩) : P := h
theorem hgrow_spec {x : SW} (p q y : Nat) (rows : List (BitVec 64)) (h62 : rows.length < 4611686018427387904) : ∀ (n : Nat) (H : Zd) (row : Int) (O : List Int) (S : BitVec 64) (g : Gz), Apart3 H p q y → H[p]? = some (hmB y rows O) → H[q]? = some (hsB S) → H[y]? = some (gaB (gw g S)) → 0 ≤ row → row < rows.length → Gok rows O → 64 - Yu 64 S < n → F (psys x) 119 [.ptr (some (p, 0)), iI row, .ptr (some (q, 0))] H fun v G => v = .bool (grw rows n row (O, S)).1 ∧ G = htH H p q y rows (grw rows n row (O, S)).2 (gw g (grw rows n row (O, S)).2.2)
  | 0, _, _, _, _, _, _, _, _, _, _, _, _, h => absurd h (by omega)
  | n + 1, H, row, O, S, g, a, hp, hq, hs, h0, h1, hO, hm => hgrow_s p q y n rows (fun H row O S g a b c d e f h i => hgrow_spec p q y rows h62 n H row O S g a b c d e f h i) H a row O S g hp hq hs h0 h1 hO hm h62
theorem gw_0 (g : Gz) : gw g 0#64 = g := by unfold gw; rw [come_0]; rfl
theorem gw_ed {rows : List (BitVec 64)} {k : Nat} {g : Gz} (h : (szO rows k).2 = k) : gw (g + ⟨0, 0, edN rows k⟩) (grw rows 65 k ((szO rows k).1, 0#64)).2.2 = g + ⟨0, 0, edN rows (k + 1)⟩ := by
  rw [edN_yes h]; exact Gz.ext' rfl rfl (Nat.add_assoc _ _ _)
theorem hgrow_at {x : SW} {H : Zd} {y p q : Nat} (hp : p = H.length + 1) (hq : q = H.length + 2) (g : Gz) (hy : y < H.length) (rows : List (BitVec 64)) (O : List Int) (row : Int) (h0 : 0 ≤ row) (h1 : row < rows.length) (hO : Gok rows O) (h62 : rows.length < 4611686018427387904) : F (psys x) 119 [.ptr (some (p, 0)), iI row, .ptr (some (q, 0))] (H.set y (gaB g) ++ [.dead, hmB y rows O, hsB 0#64]) fun v G => v = .bool (grw rows 65 row (O, 0#64)).1 ∧ G = H.set y (gaB (gw g (grw rows 65 row (O, 0#64)).2.2)) ++ [.dead, hmB y rows (grw rows 65 row (O, 0#64)).2.1, hsB (grw rows 65 row (O, 0#64)).2.2] := by
  subst hp hq
  have := hgrow_spec (x := x) (H.length + 1) (H.length + 2) y rows h62 65 (H.set y (gaB g) ++ [.dead, hmB y rows O, hsB 0#64]) row O 0#64 g ⟨by simp, by simp, by simp; omega, by omega, by omega, by omega⟩ (Zz (List.length_set) rfl) (Zz (List.length_set) rfl) (by rw [gw_0]; exact get_out (List.getElem?_set_self hy)) h0 h1 hO (by rw [come_0]; omega)
  unfold htH at this
  rw [ZG (List.length_set), ZG (List.length_set), Yo (by rw [List.length_set]; exact hy), List.set_set] at this
  exact this
theorem hmB_under {n y : Nat} {rows : List (BitVec 64)} {O : List Int} (h : y < n) : (hmB y rows O).under n = true := by
  show VVal.underL n (fzW rows :: (O.map iI ++ [.ptr (some (y, 0))])) = true
  have h1 : VVal.underL n (O.map iI ++ [.ptr (some (y, 0))]) = true := VVal.underL_app (VVal.underL_map fun _ => rfl) (by simp [VVal.underL, VVal.under, h])
  simp only [VVal.underL, h1, Bool.and_true]
  exact VVal.underL_map fun _ => rfl
theorem wApp_c {l : List (BitVec 64)} : Zp (l.map iW) 0 (l.length * 1) = some (l.map iW) := by
  unfold Zp; rw [if_pos XH17, List.drop_zero, List.take_of_length_le XH17]
theorem spl_w {l : List (BitVec 64)} {k : Nat} {w : BitVec 64} (h : k < l.length) : Zu (l.map iW) (0 + k * 1) [iW w] = (l.set k w).map iW := by
  rw [show 0 + k * 1 = k by omega]
  unfold Zu
  rw [List.map_set, List.set_eq_take_append_cons_drop, if_pos (by rw [List.length_map]; exact h)]; simp
section
variable {T : TypeId → Option VTy} {ρ : Operand → VVal} {H : Zd} {op : Op}
theorem v_eqNilC {t : TypeId} {x y : Operand} {ty : TypeId} {cs : List VVal} {len es : Nat} {ex : Bool} {i : VTy} {e : TypeId} (ho : op = .binOp .eql t x y ty) (hx : ρ x = .fsl cs len es ex) (hy : ρ y = .slice none 0 0 true 0) (hT : T t = some i) (hd : i.desc = .slice e) (hl : len ≠ 0) : vop T ρ H op = some (.bool false, H) := by
  rw [ho]; simp [vop, vbin, hx, hy, veq, hT, hd, hl]
end
theorem CloW_nil {x : SW} (H : Zd) : F (psys x) 99 [.slice none 0 0 true 0] H fun v G => v = .fsl [] 0 1 false ∧ G = H := by
 refine Zs Tryd.func99 rfl u8 rfl ?_
 refine Ze (Za ?_)
 refine Lo u8 (Zg (VVal.slice none 0 0 true 0) (.inr rfl) rfl) ?_
 refine Zf (Zc (Ze (Ze (Za ?_))))
 refine Lo u8 (Zb (.inl rfl) rfl) ?_
 refine Lo u8 (rfl) ?_
 refine Zf (Zc ?_)
 refine ZX rfl rfl ?_
 refine Ze (Za ?_)
 refine Lo u8 (Zg (VVal.slice none 0 0 true 0) (.inr rfl) rfl) ?_
 refine Zf (Zc (Zi (Zo ?_)))
 refine E_gh (.inr rfl) (Zh rfl rfl) (Gh.ansLV (BaseOk.refl _) (LV.nil H.length 1 []) rfl) ?_
 exact ⟨rfl, rfl⟩
theorem CloW_emp {x : SW} (H : Zd) : F (psys x) 99 [.slice none 0 0 false 0] H fun v G => v = .fsl [] 0 1 false ∧ G = H := by
 refine Zs Tryd.func99 rfl u8 rfl ?_
 refine Ze (Za ?_)
 refine Lo u8 (Zg (VVal.slice none 0 0 true 0) (.inr rfl) rfl) ?_
 refine Zf (Zc (Ze (Ze (Za ?_))))
 refine Lo u8 (Zb (.inl rfl) rfl) ?_
 refine Lo u8 (rfl) ?_
 refine Zf (Zc ?_)
 refine Yp rfl rfl ?_
 refine Zl (Zc (Ze (Za ?_)))
 refine Lo u8 (ZA rfl rfl (by decide) rfl) ?_
 refine Lo u8 (Zb (.inl rfl) rfl) ?_
 refine Lo u8 (v_appIn rfl rfl rfl rfl rfl rfl rfl (Zz rfl rfl) rfl rfl rfl rfl (by decide) (by decide) (by decide)) ?_
 refine L_heap (H' := H ++ [.cells [] true]) (by rw [ZG rfl]; rfl) ?_
 refine Lo u8 (Zb (.inr rfl) rfl) ?_
 refine Zf (Zc (Zi ?_))
 refine E_gh (.inr rfl) (Zh rfl rfl) (Gh.fsl (j := 0) (off := 0) (len := 0) (l := []) (BaseOk.refl _) rfl rfl (Nat.le_refl _) rfl) ?_
 exact ⟨rfl, rfl⟩
theorem CloW_c {x : SW} (H : Zd) (l : List (BitVec 64)) (hne : l ≠ []) (hl : l.length ≤ 1000000) : F (psys x) 99 [fzW l] H fun v G => v = .slice (some (H.length, 0)) l.length l.length (decide (l.length = 0)) 1 ∧ G = H ++ [.cells (l.map iW) true] := by
 refine Zs Tryd.func99 rfl u8 rfl ?_
 refine Ze (Za ?_)
 refine Lo u8 (Zg (VVal.slice none 0 0 true 0) (.inr rfl) rfl) ?_
 refine Zf (Zc (Ze (Ze (Za ?_))))
 refine Lo u8 (Zb (.inl rfl) rfl) ?_
 refine Lo u8 (v_eqNilC rfl rfl rfl rfl rfl (fun e => hne (List.eq_nil_of_length_eq_zero e))) ?_
 refine Zf (Zc ?_)
 refine Yp rfl rfl ?_
 refine Zl (Zc (Ze (Za ?_)))
 refine Lo u8 (ZA rfl rfl (by decide) rfl) ?_
 refine Lo u8 (Zb (.inl rfl) rfl) ?_
 refine L_opX rfl rfl (v_appE rfl rfl rfl rfl rfl rfl rfl rfl (by rw [List.length_map]; exact (Nat.mul_one _).symm) (mapW_one _) (by decide) (by show l.length * 8 ≤ _ ∧ l.length ≤ _; omega)) ?_
 rintro _ _ ⟨Z, i, rfl, rfl, hi⟩
 refine Le u8 ?_
 refine Lo u8 (Zb (.inr rfl) rfl) ?_
 refine Zf (Zc (Zi ?_))
 refine E_gh (.inr rfl) (Zh rfl rfl) (Gh.pack (BaseOk.refl _) hi (Ys _ _)) ?_
 exact ⟨rfl, rfl⟩
theorem CloW_0 {x : SW} (H : Zd) : F (psys x) 99 [fzW []] H fun v G => v = .fsl [] 0 1 false ∧ G = H := F_split0 (CloW_nil H) (CloW_emp H)
theorem CloW_L {x : SW} (H L : Zd) (l : List (BitVec 64)) (hne : l ≠ []) (hl : l.length ≤ 1000000) : F (psys x) 99 [fzW l] (H ++ L) fun v G => v = .slice (some (H.length + L.length, 0)) l.length l.length (decide (l.length = 0)) 1 ∧ G = H ++ (L ++ [.cells (l.map iW) true]) := by
  have := CloW_c (x := x) (H ++ L) l hne hl
  rw [List.length_append, List.append_assoc] at this
  exact this
abbrev huC (u : Int) (ws rs : VVal) (y : Nat) : List VVal := [iI u, ws, rs, .ptr (some (y, 0))]
abbrev huP (u : Int) (ws rs : VVal) (y : Nat) : VVal := .fptr (huC u ws rs y) 0
theorem hfull_0 {x : SW} {u : Int} {ws rs : VVal} (H : Zd) (y : Nat) (g : Gz) (hs : H[y]? = some (gaB g)) (t : BitVec 64) : F (psys x) 87 [huP u ws rs y, fzW [], iW t] H fun v G => v = .bool (fullB [] t) ∧ G = H := by
 refine Zs Tryd.func87 rfl u51 rfl ?_
 refine Ze (Za ?_)
 refine Lo u51 (Zg (VVal.bool false) (.inr rfl) rfl) ?_
 refine Zf (Zc (Ze ?_))
 refine ZY [0, 2, 3, 4, 5, 1, 6, 7, 8] #[0, 1, 0, 4, 12, 28, 63, 127, 255] XH5 XH5 XH5 ?_
 refine Oo u51 .calm rfl (Zb (.inl rfl) rfl) ?_
 refine Oo u51 .calm rfl (Zb (.inl rfl) rfl) ?_
 refine Oo u51 .calm rfl (rfl) ?_
 refine Oo u51 .calm rfl (rfl) ?_
 refine Ym (env' := u51) (x := .look _ _) rfl rfl rfl (W12 rfl rfl rfl rfl) rfl rfl rfl ?_
 refine Ye (env' := u51) rfl rfl rfl rfl rfl (by exact CloW_0 _) XH10 rfl rfl ?_
 refine Oo u51 .calm rfl (rfl) ?_
 refine Oo u51 .grow rfl (ZI rfl rfl rfl) ?_
 refine Oo u51 .calm rfl (Zb (.inr rfl) rfl) ?_
 refine Yf [_] (by rfl) (And.intro (And.intro (W12 rfl rfl rfl rfl) (W12 rfl rfl rfl rfl)) trivial) ?_
 refine Zc (Ze (Ze (Za ?_)))
 refine Lo u51 (Zb (.inl rfl) rfl) ?_
 refine Lo u51 (rfl) ?_
 refine Lo u51 (rfl) ?_
 refine Lo u51 (W12 rfl rfl rfl rfl) ?_
 refine Lo u51 (rfl) ?_
 refine Lo u51 (Zg (VVal.int .i64 0) (.inl rfl) rfl) ?_
 refine Zf (Zc (Zn ?_))
 refine ZB (mk 51 2251799788519291) (env' := u51) rfl ?_
 refine ZO (fun (k : Nat) => 0) (fun (k : Nat) => [(24, iI (k : Nat))]) (fun (k : Nat) G => (k = 0) ∧ G = H ++ [hmB y [] (szO [] 0).1]) 0 rfl ?_ ?_
 ·refine ⟨?_, rfl⟩
  trivial
 rintro k _ ⟨_, rfl⟩
 refine Z6 (env' := u51) rfl ?_
 refine Ze (Za ?_)
 refine Lo u51 (rfl) ?_
 refine Zf (Zc (Ze ?_))
 refine Zk _ rfl (fun hc1 => ?_) (fun hc1 => ?_)
 ·try simp only [qB] at hc1
  exfalso; try simp only [List.length_nil] at *
  omega
 ·try simp only [qB] at hc1
  refine ZM (ZP (ZD (ZL (Zc (Ze (Ze (Za ?_)))))))
  refine Lo u51 (Zb (.inl rfl) rfl) ?_
  refine Lo u51 (rfl) ?_
  refine Lo u51 (rfl) ?_
  refine Lo u51 (W12 rfl rfl rfl rfl) ?_
  refine Lo u51 (rfl) ?_
  refine Lo u51 (Zg (VVal.int .i64 0) (.inl rfl) rfl) ?_
  refine Zf (Zc (Zn ?_))
  refine ZB (mk 51 2238605674151807) (env' := u51) rfl ?_
  refine ZO (fun (k : Nat) => 0) (fun (k : Nat) => [(43, iI (k : Nat))]) (fun (k : Nat) G => (k = 0) ∧ G = H ++ [hmB y [] (szO [] 0).1]) 0 rfl ?_ ?_
  ·refine ⟨?_, rfl⟩
   trivial
  rintro k _ ⟨_, rfl⟩
  refine Z6 (env' := u51) rfl ?_
  refine Ze (Za ?_)
  refine Lo u51 (rfl) ?_
  refine Zf (Zc (Ze ?_))
  refine Zk _ rfl (fun hc2 => ?_) (fun hc2 => ?_)
  ·try simp only [qB] at hc2
   exfalso; try simp only [List.length_nil] at *
   omega
  ·try simp only [qB] at hc2
   refine ZM (ZP (ZD (ZL (Zc (Ze (Za ?_))))))
   refine Lo u51 (Zg (VVal.bool true) (.inr rfl) rfl) ?_
   refine Zf (Zc (Zi ?_))
   refine W10 (.inr rfl) (Zh rfl rfl) ?_
   exact ⟨rfl, rfl⟩
theorem hfull_c {x : SW} {u : Int} {ws rs : VVal} (H : Zd) (y : Nat) (g : Gz) (hs : H[y]? = some (gaB g)) (l : List (BitVec 64)) (t : BitVec 64) (hne : l ≠ []) (hl : l.length ≤ 1000000) : F (psys x) 87 [huP u ws rs y, fzW l, iW t] H fun v G => v = .bool (fullB l t) ∧ G = H.set y (gaB (g + fuG l t)) := by
 have hy := ZQ hs
 refine Zs Tryd.func87 rfl u51 rfl ?_
 refine Ze (Za ?_)
 refine Lo u51 (Zg (VVal.bool false) (.inr rfl) rfl) ?_
 refine Zf (Zc (Ze ?_))
 refine ZY [0, 2, 3, 4, 5, 1, 6, 7, 8] #[0, 1, 0, 4, 12, 28, 63, 127, 255] XH5 XH5 XH5 ?_
 refine Oo u51 .calm rfl (Zb (.inl rfl) rfl) ?_
 refine Oo u51 .calm rfl (Zb (.inl rfl) rfl) ?_
 refine Oo u51 .calm rfl (rfl) ?_
 refine Oo u51 .calm rfl (rfl) ?_
 refine Ym (env' := u51) (x := .look _ _) rfl rfl rfl (W2p rfl rfl rfl rfl) rfl rfl rfl ?_
 refine Ye (env' := u51) rfl rfl rfl rfl rfl (by exact CloW_L _ _ _ hne hl) XH10 rfl rfl ?_
 refine Oo u51 .calm rfl (rfl) ?_
 refine Oo u51 .grow rfl (ZI rfl rfl rfl) ?_
 refine Oo u51 .calm rfl (Zb (.inr rfl) rfl) ?_
 refine Yf [_] (by rfl) (And.intro (And.intro (W2p rfl rfl rfl rfl) (W2p rfl rfl rfl rfl)) trivial) ?_
 refine Zc (Ze (Ze (Za ?_)))
 refine Lo u51 (Zb (.inl rfl) rfl) ?_
 refine Lo u51 (rfl) ?_
 refine Lo u51 (rfl) ?_
 refine Lo u51 (W2p rfl rfl rfl rfl) ?_
 refine Lo u51 (rfl) ?_
 refine Lo u51 (Zg (VVal.int .i64 0) (.inl rfl) rfl) ?_
 refine Zf (Zc (Zn ?_))
 refine ZB (mk 51 2251799788519291) (env' := u51) rfl ?_
 refine ZO (fun (k : Nat) => l.length - k) (fun (k : Nat) => [(24, iI (k : Nat))]) (fun (k : Nat) G => (k ≤ l.length) ∧ G = H ++ [.cells ((mkT l t k).map iW) true, .cells (.slice (some (H.length + 0, 0)) l.length l.length (decide (l.length = 0)) 1 :: ((List.replicate 64 0).map iI ++ [.ptr (some (y, 0))])) true]) 0 rfl ?_ ?_
 ·refine ⟨?_, (by rw [mkT_0]; rfl)⟩
  exact Nat.zero_le _
 rintro k _ ⟨hk, rfl⟩
 refine Z6 (env' := u51) rfl ?_
 refine Ze (Za ?_)
 refine Lo u51 (rfl) ?_
 refine Zf (Zc (Ze ?_))
 refine Zk _ rfl (fun hc1 => ?_) (fun hc1 => ?_)
 ·try simp only [qB] at hc1
  refine Zl (Zc (Ze (Zn (Ze (Za ?_)))))
  refine Lo u51 (Zb (.inl rfl) rfl) ?_
  refine Lo u51 (Zb (.inr rfl) rfl) ?_
  refine Zf (Zc (Za ?_))
  refine Lo u51 (Zb (.inl rfl) rfl) ?_
  refine Lo u51 (rfl) ?_
  refine Lo u51 (rfl) ?_
  refine Lo u51 (W2p rfl rfl rfl rfl) ?_
  refine Lo u51 (Zb (.inl rfl) rfl) ?_
  refine Lo u51 (W18 rfl rfl rfl rfl rfl rfl rfl) ?_
  refine Lo u51 (W2p rfl rfl rfl rfl) ?_
  refine Lo u51 (Zb (.inl rfl) rfl) ?_
  refine Lo u51 (v_andNotW rfl rfl rfl) ?_
  refine Lo u51 (W18 rfl rfl rfl rfl rfl rfl rfl) ?_
  refine Lo u51 (W2r rfl rfl rfl rfl rfl rfl rfl) ?_
  refine Zf (Zx (Zc (Za ?_)))
  refine Lo u51 (W14 rfl rfl rfl) ?_
  refine Lo u51 (Zb (.inl rfl) rfl) ?_
  refine Zf ?_
  have hE : (mkT l t k).set (k : Int).toNat ((mkT l t k).getD (k : Int).toNat 0 &&& ~~~t) = mkT l t (k + 1) := by rw [Int.toNat_natCast, mkT_get (by omega), mkT_set (by omega)]
  refine ZE (mk 51 2251799788519291) (env' := u51) rfl ⟨k + 1, ?_, rfl, ?_⟩
  ·first | omega | (simp only []; omega)
  ·exact ⟨by omega, by rw [← hE]⟩
 ·try simp only [qB] at hc1
  refine ZM (ZP (ZD (ZL (Zc (Ze (Ze ?_))))))
  obtain rfl : k = l.length := by omega
  rw [mkT_all]
  refine Yv (Gh.cellL (l := (msk l t).map iW) 1 0 0 rfl rfl (by decide) rfl (by rw [show l.length * 1 = (msk l t).length * 1 by rw [Yh]]; exact wApp_c) (Nat.le_refl _)) ?_
  refine Za ?_
  refine Lo u51 (Zb (.inl rfl) rfl) ?_
  refine Lo u51 (rfl) ?_
  refine Lo u51 (rfl) ?_
  refine Lo u51 (W2p rfl rfl rfl rfl) ?_
  refine Lo u51 (rfl) ?_
  refine Lo u51 (Zg (VVal.int .i64 0) (.inl rfl) rfl) ?_
  refine Zf (Zc (Zn ?_))
  refine ZB (mk 51 2238605674151807) (env' := u51) rfl ?_
  refine ZO (fun (k : Nat) => l.length - k) (fun (k : Nat) => [(43, iI (k : Nat))]) (fun (k : Nat) G => (k ≤ l.length ∧ (szO (msk l t) k).2 = k) ∧ G = H.set y (gaB (g + ⟨0, 0, edN (msk l t) k⟩)) ++ [.dead, hmB y (msk l t) (szO (msk l t) k).1]) 0 rfl ?_ ?_
  ·refine ⟨?_, (by rw [edN, show g + ⟨0, 0, 0⟩ = g from Gz.add_zero g, ← YK hs]; show H ++ [VBlk.dead, VBlk.cells (VVal.fsl ((msk l t).map iW) l.length 1 false :: _) true] = H ++ [VBlk.dead, VBlk.cells (VVal.fsl ((msk l t).map iW) (msk l t).length 1 false :: _) true]; rw [Yh]; rfl)⟩
   exact ⟨Nat.zero_le _, rfl⟩
  rintro k _ ⟨⟨hk, hz⟩, rfl⟩
  refine Z6 (env' := u51) rfl ?_
  refine Ze (Za ?_)
  refine Lo u51 (rfl) ?_
  refine Zf (Zc (Ze ?_))
  refine Zk _ rfl (fun hc2 => ?_) (fun hc2 => ?_)
  ·try simp only [qB] at hc2
   refine Zl (Zc (Ze (Zn (Ze (Za ?_)))))
   refine Lo u51 (Zb (.inl rfl) rfl) ?_
   refine Lo u51 (Zb (.inr rfl) rfl) ?_
   refine Zf (Zc (Ze (Za ?_)))
   refine Lo u51 (ZF rfl rfl) ?_
   refine Lo u51 (YJ (VVal.int .u64 0) rfl rfl rfl rfl rfl rfl rfl XH0 XH6 XH14) ?_
   refine Zf (Zc (Ze (Za ?_)))
   refine Lo u51 (Zb (.inl rfl) rfl) ?_
   refine Lo u51 (Zb (.inl rfl) rfl) ?_
   refine Zt rfl rfl rfl (by exact hgrow_at (p := H.length + 1) (q := (H.set y (gaB (g + ⟨0, 0, edN (msk l t) k⟩))).length + 2) rfl (by rw [List.length_set]) (g + ⟨0, 0, edN (msk l t) k⟩) hy (msk l t) (szO (msk l t) k).1 k (by omega) (by rw [Yh]; omega) (szO_ok (by rw [Yh]; omega)) (by rw [Yh]; omega)) ?_
   rintro v _ ⟨rfl, rfl⟩; rw [gw_ed hz]
   refine Le u51 ?_
   refine Lo u51 (rfl) ?_
   refine Zf (Zc ?_)
   refine Zk _ rfl (fun hc3 => ?_) (fun hc3 => ?_)
   ·try simp only [qB] at hc3
    refine Ze (Za ?_)
    refine Lo u51 (Zg (VVal.bool false) (.inr rfl) rfl) ?_
    refine Zf (Zc (Zi (ZW (Zo (K_loopR (ZW (Zo ?_)))))))
    refine W2t (.inr rfl) (Zh rfl rfl) ?_
    exact W2u
   ·try simp only [qB] at hc3
    refine Zl (Zx (Zc (Za ?_)))
    refine Lo u51 (W14 rfl rfl rfl) ?_
    refine Lo u51 (Zb (.inl rfl) rfl) ?_
    refine Zf ?_
    refine K_loopG (mk 51 2238605674151807) (env' := u51) rfl (Gh.dropTo (L := [.dead, hmB y (msk l t) (szO (msk l t) (k + 1)).1]) (X := [hsB _]) 2 rfl (BaseOk.set (BaseOk.refl _) _ rfl) (by first | (simp [VVal.underL, VVal.under]; done) | (simp [VVal.underL, VVal.under]; omega)) (by show (true && ((hmB y _ _).under _ && true)) = true; rw [hmB_under (by first | omega | (rw [List.length_set]; omega))]; rfl)) ⟨k + 1, ?_, rfl, ?_⟩
    ·first | omega | (simp only []; omega)
    ·exact ⟨⟨by omega, szO_yes hz (by assumption)⟩, rfl⟩
  ·try simp only [qB] at hc2
   refine ZM (ZP (ZD (ZL (Zc (Ze (Za ?_))))))
   refine Lo u51 (Zg (VVal.bool true) (.inr rfl) rfl) ?_
   refine Zf (Zc (Zi ?_))
   refine W2t (.inr rfl) (Zh rfl rfl) ?_
   exact W2u
abbrev u44 {a0 a1 a2 a3 a4 a5 a6 a7 a8 a9 a10 a11 a12 a13 a14 a15 a16 a17 a18 a19 a20 a21 a22 a23 a24 a25 a26 a27 a28 a29 a30 a31 a32 a33 a34 a35 a36 a37 a38 a39 a40 a41 a42 a43 : VVal} : VEnv := a0 :: a1 :: a2 :: a3 :: a4 :: a5 :: a6 :: a7 :: a8 :: a9 :: a10 :: a11 :: a12 :: a13 :: a14 :: a15 :: a16 :: a17 :: a18 :: a19 :: a20 :: a21 :: a22 :: a23 :: a24 :: a25 :: a26 :: a27 :: a28 :: a29 :: a30 :: a31 :: a32 :: a33 :: a34 :: a35 :: a36 :: a37 :: a38 :: a39 :: a40 :: a41 :: a42 :: a43 :: []
theorem W2w {T : TypeId → Option VTy} {H : Zd} {op : Op} {ρ : Operand → VVal} {t : TypeId} {a : Operand} {y : VTy} {p v : VVal} (ho : op = .load t a) (ha : ρ a = p) (hy : T t = some y) (hd : Zj y.desc = false) (h : LdOk H p v := by first | exact .inl ⟨_, _, rfl, by first | rfl | assumption | exact fgetN (α := Nat) 0 (by omega) | exact fgetN (α := BitVec 64) 0 (by omega)⟩ | exact .inr ⟨_, _, _, _, rfl, XH36, by first | rfl | assumption | exact fgetN (α := Nat) 0 (by omega) | exact fgetN (α := BitVec 64) 0 (by omega)⟩) : vop T ρ H op = some (v, H) := v_ld ho ha hy hd h
theorem W2y {T : TypeId → Option VTy} {H : Zd} {op : Op} {ρ : Operand → VVal} {t : TypeId} {a : Operand} {y : VTy} {p v : VVal} (ho : op = .load t a) (ha : ρ a = p) (hy : T t = some y) (hd : Zj y.desc = false) (h : LdOk H p v := by first | exact .inl ⟨_, _, rfl, by exact fget0N (f := iW) (l := Z5 ws a k) (k := a.getD k 0) 0 hlt⟩ | exact .inr ⟨_, _, _, _, rfl, by exact Zz rfl hbX, by exact fget0N (f := iW) (l := Z5 ws a k) (k := a.getD k 0) 0 hlt⟩) : vop T ρ H op = some (v, H) := v_ld ho ha hy hd h
theorem W2z {T : TypeId → Option VTy} {H : Zd} {op : Op} {ρ : VEnv} {H' : Zd} {t : TypeId} {a : Operand} {i : Nat} {v : VVal} {y : VTy} {b off : Nat} {cs new : List VVal} (ho : op = .store t a (.tmp i)) (hv : ρ[i]? = some v) (ha : ρ.eval a = .ptr (some (b, off))) (hy : T t = some y) (hx : v.cells = some new) (hn : new.length = y.size) (h1 : new.all VVal.one = true) (hb : H[b]? = some (.cells cs true) := by exact XH36) (hl : off + new.length ≤ cs.length := by show 0 + ((a.getD k 0 : Nat) : Int).toNat * 1 + 1 ≤ (List.map iW (Z5 ws a k)).length; rw [List.length_map]; omega) (hH : H.set b (.cells (Zu cs off new) true) = H' := by exact (ZG rfl).trans (by show H ++ X.set b (VBlk.cells (Zu ((Z5 ws a k).map iW) (0 + ((a.getD k 0 : Nat) : Int).toNat * 1) [_]) true) = _; rw [Int.toNat_natCast, spl_w hlt])) : vop T ρ.eval H op = some (.skip, H') := Z4 ho hv ha hy hx hn h1 hb hl hH
theorem hfull_spec {x : SW} {u : Int} {ws rs : VVal} (H : Zd) (y : Nat) (g : Gz) (hs : H[y]? = some (gaB g)) (l : List (BitVec 64)) (t : BitVec 64) (hl : l.length ≤ 1000000) : F (psys x) 87 [huP u ws rs y, fzW l, iW t] H fun v G => v = .bool (fullB l t) ∧ G = H.set y (gaB (g + fuG l t)) := by
  by_cases h : l = []
  · subst h
    refine (hfull_0 H y g hs t).mono ?_
    rintro v G ⟨rfl, rfl⟩
    exact ⟨rfl, by rw [show fuG [] t = 0 from rfl, Gz.add_zero, ← YK hs]⟩
  · exact hfull_c H y g hs l t h hl
theorem hBlocks_spec {x : SW} {u : Int} {rs : VVal} {y : Nat} (H : Zd) (ws : List (BitVec 64)) (a : List Nat) (ha : Pat a) (hw : a.length ≤ ws.length) (hn : ws.length ≤ 1000000) : F (psys x) 85 [huP u (fzW ws) rs y, fzN a] H fun v G => v = fzW (Z5 ws a a.length) ∧ G = H := by
 refine Zs Tryd.func85 rfl u44 rfl ?_
 refine Ze (Za ?_)
 refine Lo u44 (Zg (VVal.slice none 0 0 true 0) (.inr rfl) rfl) ?_
 refine Zf (Zc (Ze (Za ?_)))
 refine Lo u44 (Zg (VVal.slice none 0 0 true 0) (.inr rfl) rfl) ?_
 refine Zf (Zc (Ze (Ze (Za ?_))))
 refine Lo u44 (Zb (.inl rfl) rfl) ?_
 refine Lo u44 (rfl) ?_
 refine Lo u44 (Zg (VVal.int .i64 0) (.inl rfl) rfl) ?_
 refine Zf (Zc (Zn ?_))
 refine ZB (mk 44 17592186042590) (env' := u44) rfl ?_
 refine ZO (fun (⟨k, lv⟩ : Nat × VVal) => a.length - k) (fun (⟨k, lv⟩ : Nat × VVal) => [(5, lv), (10, iI (k : Nat))]) (fun (⟨k, lv⟩ : Nat × VVal) G => (k ≤ a.length) ∧ ∃ X, G = H ++ X ∧ LV H.length 1 X lv ((Z5 ws a k).map iW) (Z5 ws a k).length) ⟨0, _⟩ rfl ?_ ?_
 ·refine ⟨?_, ⟨_, rfl, LV.nil _ _ _⟩⟩
  exact Nat.zero_le _
 rintro ⟨k, lv⟩ _ ⟨hk, ⟨X, rfl, hl⟩⟩
 refine Z6 (env' := u44) rfl ?_
 refine Ze (Za ?_)
 refine Lo u44 (rfl) ?_
 refine Zf (Zc (Ze ?_))
 refine Zk _ rfl (fun hc1 => ?_) (fun hc1 => ?_)
 ·try simp only [qB, qN] at hc1
  refine Zl (Zc (Ze (Zn (Ze (Za ?_)))))
  refine Lo u44 (Zb (.inl rfl) rfl) ?_
  refine Lo u44 (W18 rfl rfl rfl rfl rfl rfl rfl) ?_
  refine Lo u44 (W2w rfl rfl rfl rfl) ?_
  refine Lo u44 (Zb (.inr rfl) rfl) ?_
  refine Lo u44 (Zb (.inr rfl) rfl) ?_
  refine Zf (Zc (Ze (Za ?_)))
  refine Lo u44 (Zb (.inl rfl) rfl) ?_
  refine Lo u44 (Zb (.inl rfl) rfl) ?_
  refine Lo u44 (v_len rfl rfl rfl rfl hl) ?_
  refine Lo u44 (rfl) ?_
  refine Zf (Zc ?_)
  refine Zk _ rfl (fun hc2 => ?_) (fun hc2 => ?_)
  ·try simp only [qB, qN] at hc2
   refine Za ?_
   refine Lo u44 (Zb (.inl rfl) rfl) ?_
   refine Lo u44 (Zb (.inl rfl) rfl) ?_
   refine Lo u44 (rfl) ?_
   refine Lo u44 (rfl) ?_
   refine Lo u44 (W2w rfl rfl rfl rfl) ?_
   refine Lo u44 (Zb (.inl rfl) rfl) ?_
   refine Lo u44 (W18 rfl rfl rfl rfl rfl rfl rfl) ?_
   refine Lo u44 (W2w rfl rfl rfl rfl) ?_
   refine Lo u44 (ZA rfl rfl (by decide) rfl) ?_
   refine L_opX rfl rfl (v_appX rfl rfl rfl rfl rfl rfl rfl hl rfl rfl (by decide) (by have := @Yg ws a k; have := @szP_le a k; show (_ + 1) * 8 ≤ _ ∧ _ + 1 ≤ _; omega) (by decide)) ?_
   rintro _ _ ⟨Y1, rfl, rfl, hY1, hY2, hY3⟩
   refine Le u44 ?_
   refine Lo u44 (Zb (.inr rfl) rfl) ?_
   refine Zf (Zx (Zc (Za ?_)))
   refine Lo u44 (W14 rfl rfl rfl) ?_
   refine Lo u44 (Zb (.inl rfl) rfl) ?_
   refine Zf ?_
   refine ZE (mk 44 17592186042590) (env' := u44) rfl ⟨⟨k + 1, _⟩, ?_, rfl, ?_⟩
   ·first | omega | (simp only []; omega)
   ·first | exact ⟨by omega, _, rfl, by rw [blkN_new (by assumption)]; exact LV.pushW hY3⟩ | exact ⟨by omega, _, rfl, by rw [blkN_old (by assumption), List.length_set]; exact LV.upW hl h0 (ZQ hbX) (by rw [List.length_set])⟩
  ·try simp only [qB, qN] at hc2
   have hak := ha k (by omega)
   have hbl := @Yg ws a k
   have hlt : a.getD k 0 < (Z5 ws a k).length := by omega
   have h0 : 0 < (Z5 ws a k).length := by omega
   obtain ⟨b, rfl, hbX⟩ := LV.pos hl h0
   refine ZY [0, 1, 2, 3, 4, 5, 6, 7, 8, 9, 10, 11, 12, 13] #[0, 0, 3, 7, 0, 16, 48, 112, 0, 496, 1008, 2047, 4095, 8191] XH5 XH5 XH5 ?_
   refine Oo u44 .calm rfl (Zb (.inl rfl) rfl) ?_
   refine Oo u44 .calm rfl (Zb (.inl rfl) rfl) ?_
   refine Oo u44 .calm rfl (W18 rfl rfl rfl rfl rfl rfl rfl) ?_
   refine Oo u44 .look rfl (W2y rfl rfl rfl rfl) ?_
   refine Oo u44 .calm rfl (Zb (.inl rfl) rfl) ?_
   refine Oo u44 .calm rfl (rfl) ?_
   refine Oo u44 .calm rfl (rfl) ?_
   refine Oo u44 .look rfl (W2w rfl rfl rfl rfl) ?_
   refine Oo u44 .calm rfl (Zb (.inl rfl) rfl) ?_
   refine Oo u44 .calm rfl (W18 rfl rfl rfl rfl rfl rfl rfl) ?_
   refine Oo u44 .look rfl (W2w rfl rfl rfl rfl) ?_
   refine Oo u44 .calm rfl (v_andW rfl rfl rfl) ?_
   refine Oo u44 .calm rfl (W18 rfl rfl rfl rfl rfl rfl rfl) ?_
   refine Oo u44 .turn rfl (W2z rfl rfl rfl rfl rfl rfl rfl) ?_
   refine Yf [] XH5 (trivial) ?_
   refine Zx (Zc (Za ?_))
   refine Lo u44 (W14 rfl rfl rfl) ?_
   refine Lo u44 (Zb (.inl rfl) rfl) ?_
   refine Zf ?_
   refine ZE (mk 44 17592186042590) (env' := u44) rfl ⟨⟨k + 1, _⟩, ?_, rfl, ?_⟩
   ·first | omega | (simp only []; omega)
   ·first | exact ⟨by omega, _, rfl, by rw [blkN_new (by assumption)]; exact LV.pushW hY3⟩ | exact ⟨by omega, _, rfl, by rw [blkN_old (by assumption), List.length_set]; exact LV.upW hl h0 (ZQ hbX) (by rw [List.length_set])⟩
 ·try simp only [qB, qN] at hc1
  refine ZM (ZP (ZD (ZL (Zc (Ze (Za ?_))))))
  refine Lo u44 (Zb (.inl rfl) rfl) ?_
  refine Lo u44 (Zb (.inr rfl) rfl) ?_
  refine Zf (Zc (Zi ?_))
  refine E_gh (.inr rfl) (Zh rfl rfl) (Gh.ansLV (BaseOk.refl _) hl (Ys _ _)) ?_
  obtain rfl : k = a.length := by omega
  exact ⟨rfl, rfl⟩
abbrev u22 {a0 a1 a2 a3 a4 a5 a6 a7 a8 a9 a10 a11 a12 a13 a14 a15 a16 a17 a18 a19 a20 a21 : VVal} : VEnv := a0 :: a1 :: a2 :: a3 :: a4 :: a5 :: a6 :: a7 :: a8 :: a9 :: a10 :: a11 :: a12 :: a13 :: a14 :: a15 :: a16 :: a17 :: a18 :: a19 :: a20 :: a21 :: []
abbrev u73 {a0 a1 a2 a3 a4 a5 a6 a7 a8 a9 a10 a11 a12 a13 a14 a15 a16 a17 a18 a19 a20 a21 a22 a23 a24 a25 a26 a27 a28 a29 a30 a31 a32 a33 a34 a35 a36 a37 a38 a39 a40 a41 a42 a43 a44 a45 a46 a47 a48 a49 a50 a51 a52 a53 a54 a55 a56 a57 a58 a59 a60 a61 a62 a63 a64 a65 a66 a67 a68 a69 a70 a71 a72 : VVal} : VEnv := a0 :: a1 :: a2 :: a3 :: a4 :: a5 :: a6 :: a7 :: a8 :: a9 :: a10 :: a11 :: a12 :: a13 :: a14 :: a15 :: a16 :: a17 :: a18 :: a19 :: a20 :: a21 :: a22 :: a23 :: a24 :: a25 :: a26 :: a27 :: a28 :: a29 :: a30 :: a31 :: a32 :: a33 :: a34 :: a35 :: a36 :: a37 :: a38 :: a39 :: a40 :: a41 :: a42 :: a43 :: a44 :: a45 :: a46 :: a47 :: a48 :: a49 :: a50 :: a51 :: a52 :: a53 :: a54 :: a55 :: a56 :: a57 :: a58 :: a59 :: a60 :: a61 :: a62 :: a63 :: a64 :: a65 :: a66 :: a67 :: a68 :: a69 :: a70 :: a71 :: a72 :: []
theorem W32 {P : Prop} (h : P := by first | exact ⟨by unfold erl; rw [hck, decide_eq_true hg2]; rfl, rfl⟩ | exact ⟨by unfold erl; rw [hck, decide_eq_false (by omega)]; rfl, rfl⟩ | exact ⟨by unfold erl; rw [hck]; rfl, rfl⟩) : P := h
theorem W33 {T : TypeId → Option VTy} {H : Zd} {op : Op} {ρ : Operand → VVal} {t : TypeId} {a : Operand} {y : VTy} {p v : VVal} (ho : op = .load t a) (ha : ρ a = p) (hy : T t = some y) (hd : Zj y.desc = false) (h : LdOk H p v := by first | exact .inl ⟨_, _, rfl, XH43⟩ | exact .inr ⟨_, _, _, _, rfl, XH36, XH43⟩) : vop T ρ H op = some (v, H) := v_ld ho ha hy hd h
theorem W34 {T : TypeId → Option VTy} {H : Zd} {op : Op} {ρ : VEnv} {H' : Zd} {t : TypeId} {a : Operand} {i : Nat} {v : VVal} {y : VTy} {b off : Nat} {cs new : List VVal} (ho : op = .store t a (.tmp i)) (hv : ρ[i]? = some v) (ha : ρ.eval a = .ptr (some (b, off))) (hy : T t = some y) (hx : v.cells = some new) (hn : new.length = y.size) (h1 : new.all VVal.one = true) (hb : H[b]? = some (.cells cs true) := by exact XH36) (hl : off + new.length ≤ cs.length := by exact XH41) (hH : H.set b (.cells (Zu cs off new) true) = H' := by exact ga_n0 hs) : vop T ρ.eval H op = some (.skip, H') := Z4 ho hv ha hy hx hn h1 hb hl hH
theorem W35 {T : TypeId → Option VTy} {H : Zd} {op : Op} {ρ : Operand → VVal} {t : TypeId} {a : Operand} {y : VTy} {p v : VVal} (ho : op = .load t a) (ha : ρ a = p) (hy : T t = some y) (hd : Zj y.desc = false) (h : LdOk H p v := by first | exact .inl ⟨_, _, rfl, XH43⟩ | exact .inr ⟨_, _, _, _, rfl, by exact get_out (List.getElem?_set_self hy), XH43⟩) : vop T ρ H op = some (v, H) := v_ld ho ha hy hd h
theorem W36 {T : TypeId → Option VTy} {H : Zd} {op : Op} {ρ : VEnv} {H' : Zd} {t : TypeId} {a : Operand} {i : Nat} {v : VVal} {y : VTy} {b off : Nat} {cs new : List VVal} (ho : op = .store t a (.tmp i)) (hv : ρ[i]? = some v) (ha : ρ.eval a = .ptr (some (b, off))) (hy : T t = some y) (hx : v.cells = some new) (hn : new.length = y.size) (h1 : new.all VVal.one = true) (hb : H[b]? = some (.cells cs true) := by exact get_out (List.getElem?_set_self hy)) (hl : off + new.length ≤ cs.length := by exact XH41) (hH : H.set b (.cells (Zu cs off new) true) = H' := by exact ga_p hy) : vop T ρ.eval H op = some (.skip, H') := Z4 ho hv ha hy hx hn h1 hb hl hH
theorem W3a {P : Prop} (h : P := by first | exact ⟨by rw [(kpK_0 (u := u) (by assumption)).1], by rw [(kpK_0 (by assumption)).2]; rfl⟩ | exact ⟨by rw [(kpK_1 (u := u) (by assumption) (all_bad (k := k) (d := r0) (by omega) (by first | assumption | exact Bool.eq_false_iff.2 ‹_›))).1], by rw [(kpK_1 (by assumption) (all_bad (k := k) (d := r0) (by omega) (by first | assumption | exact Bool.eq_false_iff.2 ‹_›))).2]; rfl⟩ | exact ⟨by rw [(kpK_2 (u := u) (by assumption) (all_full (by omega) hall)).1], by rw [(kpK_2 (by assumption) (all_full (by omega) hall)).2, ← Gz.assoc]; rfl⟩) : P := h
theorem W3b {T : TypeId → Option VTy} {H : Zd} {op : Op} {ρ : Operand → VVal} {t : TypeId} {a : Operand} {y : VTy} {p v : VVal} (ho : op = .load t a) (ha : ρ a = p) (hy : T t = some y) (hd : Zj y.desc = false) (h : LdOk H p v := by first | exact .inl ⟨_, _, rfl, by exact fgetN (f := fzR) (l := rss) (k := a.length - 1) [] (by omega)⟩ | exact .inr ⟨_, _, _, _, rfl, XH36, by exact fgetN (f := fzR) (l := rss) (k := a.length - 1) [] (by omega)⟩) : vop T ρ H op = some (v, H) := v_ld ho ha hy hd h
theorem W3c {T : TypeId → Option VTy} {H : Zd} {op : Op} {ρ : Operand → VVal} {t : TypeId} {a : Operand} {y : VTy} {p : VVal} {n : Nat} {vs : List VVal} (ho : op = .load t a) (ha : ρ a = p) (hy : T t = some y) (hd : Zj y.desc = true) (hn : y.size = n) (h : LdOkA H p n vs := by first | exact .inl ⟨_, _, rfl, XH43⟩ | exact .inr ⟨_, _, _, _, rfl, XH36, XH43⟩) : vop T ρ H op = some (.agg vs, H) := v_ldA ho ha hy hd hn h
abbrev fzRR (rss : List (List Rul)) : VVal := .fsl (rss.map fzR) rss.length 1 false
theorem fzR_und (n : Nat) (l : List Rul) : (fzR l).under n = true := VVal.underL_all (n := n) (vs := l.flatMap rlB) fun v hv => by
  obtain ⟨r, _, h⟩ := List.mem_flatMap.1 hv
  simp only [List.mem_cons, List.not_mem_nil, or_false] at h
  rcases h with rfl | rfl | rfl
  · rfl
  · rfl
  · exact VVal.underL_map fun _ => rfl
theorem mapN_under (n : Nat) (l : List Nat) : VVal.underL n (l.map fun (m : Nat) => iI (m : Nat)) = true := VVal.underL_map fun _ => rfl
theorem rss_under (n : Nat) (rss : List (List Rul)) : VVal.underL n (rss.map fzR) = true := VVal.underL_map fun l => fzR_und n l
theorem huUnder {H : Zd} {y : Nat} (hy : y < H.length) (u : Int) (ws : List (BitVec 64)) (rss : List (List Rul)) : (huP u (fzW ws) (fzRR rss) y).under H.length = true := by
  show VVal.underL _ [iI u, fzW ws, fzRR rss, .ptr (some (y, 0))] = true
  simp only [VVal.underL, VVal.under, Yl, Ys, rss_under, hy, decide_true, Bool.and_true]
theorem rEarly_spec {x : SW} (H : Zd) (r : Rul) (n : Int) (l : List Int) (hl : r.steps.length ≤ 1000000) : F (psys x) 86 [.agg (rlB r), iI n, fzI l] H fun v G => v = .bool (erl r n l) ∧ G = H := by
 refine Zs Tryd.func86 rfl u22 rfl ?_
 refine Ze (Za ?_)
 refine Lo u22 (ZI rfl rfl rfl) ?_
 refine Lo u22 (Zg (VVal.bool false) (.inr rfl) rfl) ?_
 refine Zf (Zc (Ze (Za ?_)))
 refine Lo u22 (Zb (.inl rfl) rfl) ?_
 refine Lo u22 (W11 rfl rfl rfl rfl rfl) ?_
 refine Zt rfl rfl rfl (by exact rCheck_spec _ _ _ (by omega)) ?_
 rintro _ _ ⟨rfl, rfl⟩
 refine Le u22 ?_
 refine Lo u22 (rfl) ?_
 refine Lo u22 (Zb (.inl rfl) rfl) ?_
 refine ZH 11 (env1 := u22) (env2 := u22) rfl rfl rfl (fun hg1 => ?_) (fun hg1 => ?_)
 ·try simp only [qB] at hg1
  have hck : rck n r = true := rcE_eq.1 hg1
  refine Lo u22 (Zb (.inl rfl) rfl) ?_
  refine Lo u22 (rfl) ?_
  refine Lo u22 (Zb (.inl rfl) rfl) ?_
  refine Lo u22 (rfl) ?_
  refine Lo u22 (ZN rfl rfl rfl) ?_
  refine Lo u22 (Zb (.inl rfl) rfl) ?_
  refine ZH 17 (env1 := u22) (env2 := u22) rfl rfl rfl (fun hg2 => ?_) (fun hg2 => ?_)
  ·try simp only [qB] at hg2
   refine Lo u22 (W11 rfl rfl rfl rfl rfl) ?_
   refine Lo u22 (Zb (.inl rfl) rfl) ?_
   refine Zt rfl rfl rfl (by exact keeps_spec _ _ _ (rck_kind hck) (rck_pos hck) (Nat.le_trans (rck_len hck) (by decide))) ?_
   rintro _ _ ⟨rfl, rfl⟩
   refine Le u22 ?_
   refine Lo u22 (ZN rfl rfl rfl) ?_
   refine Lo u22 (Zb (.inr rfl) rfl) ?_
   refine Zf (Zc (Zi ?_))
   refine W10 (.inr rfl) (Zh rfl rfl) ?_
   exact W32
  ·try simp only [qB] at hg2
   refine Lf u22 ?_
   refine Lf u22 ?_
   refine Lf u22 ?_
   refine Lo u22 (ZC (VVal.bool false) rfl rfl rfl) ?_
   refine Lo u22 (Zb (.inr rfl) rfl) ?_
   refine Zf (Zc (Zi ?_))
   refine W10 (.inr rfl) (Zh rfl rfl) ?_
   exact W32
 ·try simp only [qB] at hg1
  have hck : rck n r = false := bool_f fun e => hg1 (rcE_eq.2 e)
  refine Lf u22 ?_
  refine Lf u22 ?_
  refine Lf u22 ?_
  refine Lf u22 ?_
  refine Lo u22 (ZC (VVal.bool false) rfl rfl rfl) ?_
  refine Lo u22 (Zb (.inl rfl) rfl) ?_
  refine Lf u22 ?_
  refine Lf u22 ?_
  refine Lf u22 ?_
  refine Lo u22 (ZC (VVal.bool false) rfl rfl rfl) ?_
  refine Lo u22 (Zb (.inr rfl) rfl) ?_
  refine Zf (Zc (Zi ?_))
  refine W10 (.inr rfl) (Zh rfl rfl) ?_
  exact W32
theorem rEarlyN {x : SW} (H : Zd) (r : Rul) (n : Int) (a : List Nat) (hl : r.steps.length ≤ 1000000) : F (psys x) 86 [.agg (rlB r), iI n, fzN a] H fun v G => v = .bool (erl r n (zI a)) ∧ G = H := by
  rw [fzN_is]; exact rEarly_spec H r n (zI a) hl
theorem hKeep_spec {x : SW} {u : Nat} (H : Zd) (y : Nat) (g : Gz) (hs : H[y]? = some (gaB g)) (ws : List (BitVec 64)) (rss : List (List Rul)) (a : List Nat) (ha : Pat a) (h0 : 0 < a.length) (hw : a.length ≤ ws.length) (hn : ws.length ≤ 1000000) (hr : rss.length = ws.length) (hR : ∀ i, (rss.getD i []).length ≤ 1000000 ∧ ∀ r, r ∈ rss.getD i [] → r.steps.length ≤ 1000000) : F (psys x) 53 [huP (u : Nat) (fzW ws) (fzRR rss) y, fzN a] H fun v G => v = .bool (kpB ws rss a) ∧ G = H.set y (gaB (g + kpG u ws rss a)) := by
 have hy := ZQ hs
 have hbl := @Yg ws a a.length
 have hla := ha (a.length - 1) (by omega)
 have hsl : a.getD (a.length - 1) 0 < szP a a.length := by
    obtain ⟨m, hm⟩ : ∃ m, a.length = m + 1 := ⟨a.length - 1, by omega⟩
    rw [hm] at hla ⊢; rw [szP]; rw [Nat.add_sub_cancel] at hla ⊢; split <;> omega
 have hR1 := hR (a.length - 1)
 refine Zs Tryd.func53 rfl u73 rfl ?_
 refine Ze (Za ?_)
 refine Lo u73 (Zg (VVal.bool false) (.inr rfl) rfl) ?_
 refine Zf (Zc (Ze (Za ?_)))
 refine Lo u73 (Zb (.inl rfl) rfl) ?_
 refine Lo u73 (rfl) ?_
 refine Lo u73 (rfl) ?_
 refine Lo u73 (W33 rfl rfl rfl rfl) ?_
 refine Lo u73 (rfl) ?_
 refine Lo u73 (rfl) ?_
 refine Lo u73 (W33 rfl rfl rfl rfl) ?_
 refine Lo u73 (v_addW (b := 1#64) rfl rfl rfl) ?_
 refine Lo u73 (rfl) ?_
 refine Lo u73 (rfl) ?_
 refine Lo u73 (W34 rfl rfl rfl rfl rfl rfl rfl) ?_
 refine Zf (Zc (Ze ?_))
 refine ZY [0, 1, 2, 3, 4, 5, 6, 7, 8, 9, 10, 11, 12, 13, 14, 15] #[0, 1, 3, 7, 15, 31, 63, 0, 128, 384, 896, 1920, 4095, 8191, 16383, 32767] XH5 XH5 XH5 ?_
 refine Oo u73 .calm rfl (Zb (.inl rfl) rfl) ?_
 refine Oo u73 .calm rfl (rfl) ?_
 refine Oo u73 .calm rfl (rfl) ?_
 refine Oo u73 .look rfl (W33 rfl rfl rfl rfl) ?_
 refine Oo u73 .calm rfl (rfl) ?_
 refine Oo u73 .calm rfl (rfl) ?_
 refine Oo u73 .look rfl (W35 rfl rfl rfl rfl) ?_
 refine Oo u73 .calm rfl (Zb (.inl rfl) rfl) ?_
 refine Oo u73 .calm rfl (rfl) ?_
 refine Oo u73 .calm rfl (rfl) ?_
 refine Oo u73 .look rfl (W33 rfl rfl rfl rfl) ?_
 refine Oo u73 .calm rfl (v_cvW rfl rfl rfl rfl rfl) ?_
 refine Oo u73 .calm rfl (v_addW rfl rfl rfl) ?_
 refine Oo u73 .calm rfl (rfl) ?_
 refine Oo u73 .calm rfl (rfl) ?_
 refine Oo u73 .turn rfl (W36 rfl rfl rfl rfl rfl rfl rfl) ?_
 refine Yf [] XH5 (trivial) ?_
 refine Zc (Ze (Za ?_))
 refine Lo u73 (Zb (.inl rfl) rfl) ?_
 refine Lo u73 (Zb (.inl rfl) rfl) ?_
 refine Zt rfl rfl rfl (by exact hBlocks_spec _ _ _ ha hw hn) ?_
 rintro _ _ ⟨rfl, rfl⟩
 refine Le u73 ?_
 refine Lo u73 (Zb (.inl rfl) rfl) ?_
 refine Lo u73 (rfl) ?_
 refine Lo u73 (W2l rfl rfl rfl) ?_
 refine Lo u73 (Zb (.inr rfl) rfl) ?_
 refine Lo u73 (Zb (.inr rfl) rfl) ?_
 refine Zf (Zc (Ze (Ze ?_)))
 rw [show ((a.length : Nat) : Int) - 1 = ((a.length - 1 : Nat) : Int) by omega]
 refine Za ?_
 refine Lo u73 (Zb (.inl rfl) rfl) ?_
 refine Lo u73 (Zb (.inl rfl) rfl) ?_
 refine Lo u73 (Zb (.inl rfl) rfl) ?_
 refine Lo u73 (W18 rfl rfl rfl rfl rfl rfl rfl) ?_
 refine Lo u73 (W33 rfl rfl rfl rfl) ?_
 refine Lo u73 (W18 rfl rfl rfl rfl rfl rfl rfl) ?_
 refine Lo u73 (W33 rfl rfl rfl rfl) ?_
 refine Lo u73 (rfl) ?_
 refine Zf (Zc ?_)
 refine Zk _ rfl (fun hc1 => ?_) (fun hc1 => ?_)
 ·try simp only [qB, qN] at hc1
  refine Ze (Za ?_)
  refine Lo u73 (Zg (VVal.bool false) (.inr rfl) rfl) ?_
  refine Zf (Zc (Zi (Zo ?_)))
  refine W2t (.inr rfl) (Zh rfl rfl) ?_
  exact W3a
 ·try simp only [qB, qN] at hc1
  refine Zl (Zc (Ze (Ze (Za ?_))))
  refine Lo u73 (Zb (.inl rfl) rfl) ?_
  refine Lo u73 (rfl) ?_
  refine Lo u73 (rfl) ?_
  refine Lo u73 (W33 rfl rfl rfl rfl) ?_
  refine Lo u73 (Zb (.inl rfl) rfl) ?_
  refine Lo u73 (W18 rfl rfl rfl rfl rfl rfl rfl) ?_
  refine Lo u73 (W3b rfl rfl rfl rfl) ?_
  refine Lo u73 (rfl) ?_
  refine Lo u73 (Zg (VVal.int .i64 0) (.inl rfl) rfl) ?_
  refine Zf (Zc (Zn ?_))
  refine ZB (mk 73 9444606864949724053468) (env' := u73) rfl ?_
  refine ZO (fun (k : Nat) => (rss.getD (a.length - 1) []).length - k) (fun (k : Nat) => [(56, iI (k : Nat))]) (fun (k : Nat) G => (k ≤ (rss.getD (a.length - 1) []).length ∧ ((rss.getD (a.length - 1) []).take k).all (fun r => erl r ws.length (zI a)) = true) ∧ G = H.set y (gaB (⟨g.n + 1, g.p + u, g.e⟩ : Gz)) ++ []) 0 rfl ?_ ?_
  ·refine ⟨?_, rfl⟩
   exact ⟨Nat.zero_le _, rfl⟩
  rintro k _ ⟨⟨hk, hall⟩, rfl⟩
  refine Z6 (env' := u73) rfl ?_
  refine Ze (Za ?_)
  refine Lo u73 (rfl) ?_
  refine Zf (Zc (Ze ?_))
  refine Zk _ rfl (fun hc2 => ?_) (fun hc2 => ?_)
  ·try simp only [qB, qN] at hc2
   refine Zl (Zc (Ze (Zn (Ze (Za ?_)))))
   refine Lo u73 (W18 rfl rfl rfl rfl rfl rfl rfl) ?_
   refine Lo u73 (W3c rfl rfl rfl rfl rfl) ?_
   refine Lo u73 (ZF rfl rfl) ?_
   refine Lo u73 (W13 rfl rfl rfl rfl rfl rfl rfl) ?_
   refine Zf (Zc (Ze ?_))
   refine ZY [0, 1, 2, 3, 4, 5, 6, 7, 8] #[0, 0, 2, 6, 14, 30, 0, 127, 255] XH5 XH5 XH5 ?_
   refine Oo u73 .look rfl (W3c rfl rfl rfl rfl rfl) ?_
   refine Oo u73 .calm rfl (Zb (.inl rfl) rfl) ?_
   refine Oo u73 .calm rfl (rfl) ?_
   refine Oo u73 .calm rfl (rfl) ?_
   refine Oo u73 .look rfl (W33 rfl rfl rfl rfl) ?_
   refine Oo u73 .look rfl (rfl) ?_
   refine Oo u73 .calm rfl (Zb (.inl rfl) rfl) ?_
   refine Ye (env' := u73) rfl rfl rfl rfl rfl (by exact rEarlyN _ _ _ _ (hR1.2 _ (rul_mem (by omega)))) XH10 rfl rfl ?_
   refine Oo u73 .calm rfl (rfl) ?_
   refine Yf [] XH5 (trivial) ?_
   refine Zc ?_
   refine Zk _ rfl (fun hc3 => ?_) (fun hc3 => ?_)
   ·try simp only [qB, qN] at hc3
    refine Ze (Za ?_)
    refine Lo u73 (Zg (VVal.bool false) (.inr rfl) rfl) ?_
    refine Zf (Zc (Zi (ZW (Zo (K_loopR (ZW (Zo ?_)))))))
    refine W2t (.inr rfl) (Zh rfl rfl) ?_
    exact W3a
   ·try simp only [qB, qN] at hc3
    refine Zl (Zx (Zc (Za ?_)))
    refine Lo u73 (W14 rfl rfl rfl) ?_
    refine Lo u73 (Zb (.inl rfl) rfl) ?_
    refine Zf ?_
    refine K_loopG (mk 73 9444606864949724053468) (env' := u73) rfl (Gh.dropTo (L := []) (X := [_]) 0 rfl (BaseOk.set (BaseOk.refl _) _ rfl) (by first | (simp [VVal.underL, VVal.under, Yl]; done) | (simp [VVal.underL, VVal.under, Yl, rss_under, Ys, mapN_under, fzR_und, List.length_set, hy]; done) | (simp [VVal.underL, VVal.under, Yl]; omega)) rfl) ⟨k + 1, ?_, rfl, ?_⟩
    ·first | omega | (simp only []; omega)
    ·exact ⟨⟨by omega, all_step (by omega) hall (by assumption)⟩, rfl⟩
  ·try simp only [qB, qN] at hc2
   refine ZM (ZP (ZD (ZL (Zc (Ze (Za ?_))))))
   refine Lo u73 (Zb (.inl rfl) rfl) ?_
   refine Lo u73 (Zb (.inl rfl) rfl) ?_
   refine Zt rfl rfl rfl (by exact hfull_spec (H.set y (gaB (⟨g.n + 1, g.p + u, g.e⟩ : Gz)) ++ []) y (⟨g.n + 1, g.p + u, g.e⟩ : Gz) (Zr (List.getElem?_set_self hy)) (Z5 ws a a.length) 0#64 (by have := @szP_le a a.length; omega)) ?_
   rintro v _ ⟨rfl, rfl⟩; rw [Yo (by rw [List.length_set]; exact hy), List.set_set]
   refine Le u73 ?_
   refine Lo u73 (Zb (.inr rfl) rfl) ?_
   refine Zf (Zc (Zi ?_))
   refine W2t (.inr rfl) (Zh rfl rfl) ?_
   exact W3a
theorem CloI_nil {x : SW} (H : Zd) : F (psys x) 109 [.slice none 0 0 true 0] H fun v G => v = .fsl [] 0 1 false ∧ G = H := by
 refine Zs Tryd.func109 rfl u8 rfl ?_
 refine Ze (Za ?_)
 refine Lo u8 (Zg (VVal.slice none 0 0 true 0) (.inr rfl) rfl) ?_
 refine Zf (Zc (Ze (Ze (Za ?_))))
 refine Lo u8 (Zb (.inl rfl) rfl) ?_
 refine Lo u8 (rfl) ?_
 refine Zf (Zc ?_)
 refine ZX rfl rfl ?_
 refine Ze (Za ?_)
 refine Lo u8 (Zg (VVal.slice none 0 0 true 0) (.inr rfl) rfl) ?_
 refine Zf (Zc (Zi (Zo ?_)))
 refine E_gh (.inr rfl) (Zh rfl rfl) (Gh.ansLV (BaseOk.refl _) (LV.nil H.length 1 []) rfl) ?_
 exact ⟨rfl, rfl⟩
theorem rc_under (n : Nat) (row : List Nat) : VVal.underL n (rcN row) = true := VVal.underL_map fun _ => rfl
abbrev niS : VVal := .slice none 0 0 true 0
section
variable {H X : Zd} {y : Nat} {kv rv fnd : VVal} {g : Gz}
end
def wsP (p : Pb) : List (BitVec 64) := (List.range p.who.length).map (wrd p)
theorem Yi {p : Pb} : (wsP p).length = p.who.length := by unfold wsP; simp
theorem wsP_take {p : Pb} {k : Nat} (h : k < p.who.length) : (wsP p).take (k + 1) = (wsP p).take k ++ [wrd p k] := by
  rw [Yn (d := 0) (by rw [Yi]; exact h)]
  congr 2
  unfold wsP
  rw [List.getD_eq_getElem?_getD, List.getElem?_map, List.getElem?_range h]; rfl
abbrev nwB (u : Int) (n y b : Nat) (wv : VVal) (vs : List VVal) : Zd := [.dead, .cells vs true, .cells [iI u, wv, .slice (some (b, 0)) n n true 1, .ptr (some (y, 0))] true]
theorem rep1 (v : VVal) : ∀ n : Nat, Zw [v] n = List.replicate n v
  | 0 => rfl
  | n + 1 => by rw [List.replicate_succ, ← rep1 v n]; rfl
theorem vget {l : List VVal} {k : Nat} (h : k < l.length) : l[0 + k * 1]? = some (l.getD k .skip) := by
  rw [show 0 + k * 1 = k by omega, List.getD_eq_getElem?_getD, List.getElem?_eq_getElem h]; rfl
theorem rck_in {n : Int} {r : Rul} (h : rck n r = true) {s : Nat} (hs : s < r.steps.length) : 0 ≤ r.steps.getD s 0 ∧ r.steps.getD s 0 < n := by
  unfold rck at h
  rw [Bool.and_eq_true, Bool.and_eq_true] at h
  have := riseA_mem _ _ h.2.1 _ (mem_getI hs)
  omega
theorem spl_v {l : List VVal} {k : Nat} {w : VVal} (h : k < l.length) : Zu l (0 + k * 1) [w] = l.set k w := by
  rw [show 0 + k * 1 = k by omega]
  unfold Zu
  rw [List.set_eq_take_append_cons_drop, if_pos h]; simp
abbrev u72 {a0 a1 a2 a3 a4 a5 a6 a7 a8 a9 a10 a11 a12 a13 a14 a15 a16 a17 a18 a19 a20 a21 a22 a23 a24 a25 a26 a27 a28 a29 a30 a31 a32 a33 a34 a35 a36 a37 a38 a39 a40 a41 a42 a43 a44 a45 a46 a47 a48 a49 a50 a51 a52 a53 a54 a55 a56 a57 a58 a59 a60 a61 a62 a63 a64 a65 a66 a67 a68 a69 a70 a71 : VVal} : VEnv := a0 :: a1 :: a2 :: a3 :: a4 :: a5 :: a6 :: a7 :: a8 :: a9 :: a10 :: a11 :: a12 :: a13 :: a14 :: a15 :: a16 :: a17 :: a18 :: a19 :: a20 :: a21 :: a22 :: a23 :: a24 :: a25 :: a26 :: a27 :: a28 :: a29 :: a30 :: a31 :: a32 :: a33 :: a34 :: a35 :: a36 :: a37 :: a38 :: a39 :: a40 :: a41 :: a42 :: a43 :: a44 :: a45 :: a46 :: a47 :: a48 :: a49 :: a50 :: a51 :: a52 :: a53 :: a54 :: a55 :: a56 :: a57 :: a58 :: a59 :: a60 :: a61 :: a62 :: a63 :: a64 :: a65 :: a66 :: a67 :: a68 :: a69 :: a70 :: a71 :: []
theorem W3l {T : TypeId → Option VTy} {H : Zd} {op : Op} {ρ : Operand → VVal} {t : TypeId} {a : Operand} {y : VTy} {p v : VVal} (ho : op = .load t a) (ha : ρ a = p) (hy : T t = some y) (hd : Zj y.desc = false) (h : LdOk H p v := by first | exact .inl ⟨_, _, rfl, by exact vget (by rw [hlen]; exact hi)⟩ | exact .inr ⟨_, _, _, _, rfl, by exact getB rfl rfl, by exact vget (by rw [hlen]; exact hi)⟩) : vop T ρ H op = some (v, H) := v_ld ho ha hy hd h
theorem W3m {T : TypeId → Option VTy} {H : Zd} {op : Op} {ρ : VEnv} {H' : Zd} {t : TypeId} {a : Operand} {i : Nat} {v : VVal} {y : VTy} {b off : Nat} {cs new : List VVal} (ho : op = .store t a (.tmp i)) (hv : ρ[i]? = some v) (ha : ρ.eval a = .ptr (some (b, off))) (hy : T t = some y) (hx : v.cells = some new) (hn : new.length = y.size) (h1 : new.all VVal.one = true) (hb : H[b]? = some (.cells cs true) := by exact getB rfl rfl) (hl : off + new.length ≤ cs.length := by show 0 + _ * 1 + 1 ≤ vs.length; omega) (hH : H.set b (.cells (Zu cs off new) true) = H' := by exact (setB rfl (show 1 < 3 from by decide)).trans (by show H ++ List.set _ 1 (VBlk.cells (Zu vs (0 + ((p.rules.getD m r0).steps.getD s 0).toNat * 1) [_]) true) ++ _ = _; rw [spl_v (by rw [hlen]; exact hi)])) : vop T ρ.eval H op = some (.skip, H') := Z4 ho hv ha hy hx hn h1 hb hl hH
theorem W3n {S : V.Sys} {H : Zd} {fn : Func} {ex : Exit} {env : VEnv} {B L : Zd} {v : VVal} {R : VVal → Zd → Prop} (hx : ex = .normal ∨ ex = .ret) (hv : Z0 S.C.T env (B ++ L) fn.results = some v) (h : R v B) (hB : BaseOk H B := by exact BaseOk.refl _) (hu : v.under H.length = true := by exact huUnder hy _ _ _) : fnK S fn H R ex env (B ++ L) := YE hx hv hB hu h
theorem New_spec {x : SW} (H : Zd) (p : Pb) (y : Nat) (hy : y < H.length) (g : Go.V.Good p) : F (psys x) 51 [.agg (pbB p), .ptr (some (y, 0))] H fun v G => v = huP p.users (fzW (wsP p)) (fzRR (rssP p)) y ∧ G = H := by
 have g1 := g.n12; have g3 := g.r32; have g5 := g.fx
 have gs := fun r hr => rck_len (g.ru r hr)
 refine Zs Tryd.func51 rfl u72 rfl ?_
 refine Ze (Za ?_)
 refine Lo u72 (ZI rfl rfl rfl) ?_
 refine Lo u72 (Zg (VVal.ptr none) (.inr rfl) rfl) ?_
 refine Zf (Zc (Ze ?_))
 refine Yv (Gh.freezePtrL (cs := pbB p) 2 0 rfl rfl rfl) ?_
 refine ZY [0, 1, 2, 3, 4, 5, 6, 7, 8, 9] #[0, 1, 0, 4, 12, 28, 0, 127, 255, 511] XH5 XH5 XH5 ?_
 refine Oo u72 .calm rfl (rfl) ?_
 refine Oo u72 .look rfl (W1p rfl rfl rfl rfl) ?_
 refine Oo u72 .calm rfl (rfl) ?_
 refine Oo u72 .look rfl (W1p rfl rfl rfl rfl) ?_
 refine Oo u72 .look rfl (rfl) ?_
 refine Oo u72 .grow rfl (v_makeSlice rfl rfl rfl rfl rfl (by decide) ⟨by omega, Int.le_refl _, by show (p.who.length : Int) * (24 : Nat) ≤ _; omega, by omega⟩) ?_
 refine Oo u72 .calm rfl (Zb (.inl rfl) rfl) ?_
 refine Oo u72 .calm rfl (rfl) ?_
 refine Oo u72 .grow rfl (ZI rfl rfl rfl) ?_
 refine Oo u72 .calm rfl (Zb (.inr rfl) rfl) ?_
 refine Yf [] XH5 (trivial) ?_
 refine Zc (Ze (Ze (Za ?_)))
 refine Lo u72 (rfl) ?_
 refine Lo u72 (W1p rfl rfl rfl rfl) ?_
 refine Lo u72 (rfl) ?_
 refine Lo u72 (Zg (VVal.int .i64 0) (.inl rfl) rfl) ?_
 refine Zf (Zc (Zn ?_))
 refine ZB (mk 72 4722366482869632630747) (env' := u72) rfl ?_
 refine ZO (fun (k : Nat) => p.who.length - k) (fun (k : Nat) => [(23, iI (k : Nat))]) (fun (k : Nat) G => (k ≤ p.who.length) ∧ ∃ wv X, G = (H ++ nwB p.users p.who.length y (H.length + 1) wv (List.replicate p.who.length niS)) ++ X ∧ LV (H.length + 3) 1 X wv (((wsP p).take k).map iW) ((wsP p).take k).length) 0 rfl ?_ ?_
 ·refine ⟨?_, ⟨_, [], by rw [List.append_nil, ← rep1]; rfl, LV.nil _ _ _⟩⟩
  exact Nat.zero_le _
 rintro k _ ⟨hk, ⟨wv, X, rfl, hl⟩⟩
 refine Z6 (env' := u72) rfl ?_
 refine Ze (Za ?_)
 refine Lo u72 (rfl) ?_
 refine Zf (Zc (Ze ?_))
 refine Zk _ rfl (fun hc1 => ?_) (fun hc1 => ?_)
 ·try simp only [qB, qN] at hc1
  refine Zl (Zc (Ze (Zn (Ze (Za ?_)))))
  refine Lo u72 (Zb (.inl rfl) rfl) ?_
  refine Lo u72 (Zb (.inr rfl) rfl) ?_
  refine Zf (Zc ?_)
  refine ZY [0, 1, 2, 3, 4, 5, 6, 7, 8, 9, 10, 11, 12] #[0, 0, 2, 6, 14, 0, 0, 96, 224, 510, 1023, 2047, 4095] XH5 XH5 XH5 ?_
  refine Oo u72 .calm rfl (Zb (.inl rfl) rfl) ?_
  refine Oo u72 .calm rfl (Zb (.inl rfl) rfl) ?_
  refine Oo u72 .calm rfl (rfl) ?_
  refine Oo u72 .calm rfl (rfl) ?_
  refine Ym (env' := u72) (x := .look _ _) rfl rfl rfl (W1p rfl rfl rfl rfl) rfl rfl rfl ?_
  refine Oo u72 .look rfl (W1t rfl rfl rfl rfl rfl) ?_
  refine Oo u72 .calm rfl (Zb (.inl rfl) rfl) ?_
  refine Ye (env' := u72) rfl rfl rfl rfl rfl (by exact Word_spec _ _ _ (by omega) (by omega)) XH10 rfl rfl ?_
  refine Oo u72 .grow rfl (ZA rfl rfl (by decide) rfl) ?_
  refine O_opX .turn rfl rfl rfl (v_appXh rfl rfl rfl rfl rfl rfl rfl (by simp) hl rfl rfl (by decide) XH26 (by decide)) rfl rfl ?_
  rintro _ _ ⟨Y1, rfl, rfl, hY1, hY2, hY3⟩
  refine O_env (env' := u72) rfl ?_
  refine Oo u72 .calm rfl (rfl) ?_
  refine Oo u72 .calm rfl (rfl) ?_
  refine Oo u72 .turn rfl (W13 rfl rfl rfl rfl rfl rfl rfl) ?_
  refine Yf [_] (by rfl) (And.intro (And.intro (W1p rfl rfl rfl rfl) (W1p rfl rfl rfl rfl)) trivial) ?_
  refine Zx (Zc (Za ?_))
  refine Lo u72 (W14 rfl rfl rfl) ?_
  refine Lo u72 (Zb (.inl rfl) rfl) ?_
  refine Zf ?_
  refine ZE (mk 72 4722366482869632630747) (env' := u72) rfl ⟨k + 1, ?_, rfl, ?_⟩
  ·first | omega | (simp only []; omega)
  ·exact ⟨by omega, _, _, rfl, by rw [wsP_take (by omega)]; exact LV.pushW hY3⟩
 ·try simp only [qB, qN] at hc1
  refine ZM (ZP (ZD (ZL (Zc (Ze (Ze ?_))))))
  obtain rfl : k = p.who.length := by omega
  rw [List.take_of_length_le (by rw [Yi]; omega)] at hl
  refine B_ghCell 2 1 hl rfl rfl (by simp) fun X1 _ _ => ?_
  refine Za ?_
  refine Lo u72 (rfl) ?_
  refine Lo u72 (W1p rfl rfl rfl rfl) ?_
  refine Lo u72 (rfl) ?_
  refine Lo u72 (Zg (VVal.int .i64 0) (.inl rfl) rfl) ?_
  refine Zf (Zc (Zn ?_))
  refine ZB (mk 72 4722366475173063819231) (env' := u72) rfl ?_
  refine ZO (fun (m : Nat) => p.rules.length - m) (fun (m : Nat) => [(42, iI (m : Nat))]) (fun (m : Nat) G => (m ≤ p.rules.length) ∧ ∃ Z vs, G = (H ++ nwB p.users p.who.length y (H.length + 1) (fzW (wsP p)) vs) ++ Z ∧ RW rlB 3 (H.length + 3) Z vs (addR p.who.length p.rules m)) 0 rfl ?_ ?_
  ·refine ⟨?_, ⟨_, _, rfl, RW.init⟩⟩
   exact Nat.zero_le _
  rintro m _ ⟨hm, ⟨Z, vs, rfl, hr⟩⟩
  refine Z6 (env' := u72) rfl ?_
  refine Ze (Za ?_)
  refine Lo u72 (rfl) ?_
  refine Zf (Zc (Ze ?_))
  refine Zk _ rfl (fun hc2 => ?_) (fun hc2 => ?_)
  ·try simp only [qB, qN] at hc2
   refine Zl (Zc (Ze (Zn (Ze (Za ?_)))))
   refine Lo u72 (W18 rfl rfl rfl rfl rfl rfl rfl) ?_
   refine Lo u72 (W1t rfl rfl rfl rfl rfl) ?_
   refine Lo u72 (ZF rfl rfl) ?_
   refine Lo u72 (W13 rfl rfl rfl rfl rfl rfl rfl) ?_
   refine Zf (Zc (Ze ?_))
   refine Yv (Gh.freezeEnd (cs := rlB (p.rules.getD m r0)) 8 rfl rfl) ?_
   refine Za ?_
   refine Lo u72 (rfl) ?_
   refine Lo u72 (W1p rfl rfl rfl rfl) ?_
   refine Lo u72 (rfl) ?_
   refine Lo u72 (Zg (VVal.int .i64 0) (.inl rfl) rfl) ?_
   refine Zf (Zc (Zn ?_))
   refine ZB (mk 72 4722365490010645331679) (env' := u72) rfl ?_
   refine ZO (fun (s : Nat) => (p.rules.getD m r0).steps.length - s) (fun (s : Nat) => [(49, iI (s : Nat))]) (fun (s : Nat) G => (s ≤ (p.rules.getD m r0).steps.length) ∧ ∃ Z vs, G = (H ++ nwB p.users p.who.length y (H.length + 1) (fzW (wsP p)) vs) ++ Z ∧ RW rlB 3 (H.length + 3) Z vs (addS (p.rules.getD m r0) (addR p.who.length p.rules m) s)) 0 rfl ?_ ?_
   ·refine ⟨?_, ⟨_, vs, rfl, hr.app _⟩⟩
    exact Nat.zero_le _
   rintro s _ ⟨hs, ⟨Z, vs, rfl, hr⟩⟩
   refine Z6 (env' := u72) rfl ?_
   refine Ze (Za ?_)
   refine Lo u72 (rfl) ?_
   refine Zf (Zc (Ze ?_))
   refine Zk _ rfl (fun hc3 => ?_) (fun hc3 => ?_)
   ·try simp only [qB, qN] at hc3
    refine Zl (Zc (Ze (Zn (Ze (Za ?_)))))
    refine Lo u72 (W18 rfl rfl rfl rfl rfl rfl rfl) ?_
    refine Lo u72 (W1p rfl rfl rfl rfl) ?_
    refine Lo u72 (Zb (.inr rfl) rfl) ?_
    refine Zf (Zc ?_)
    have hin := rck_in (g.ru _ (rul_mem (l := p.rules) (k := m) (by omega))) (s := s) (by omega)
    have hlen := hr.len
    have hi : ((p.rules.getD m r0).steps.getD s 0).toNat < (addS (p.rules.getD m r0) (addR p.who.length p.rules m) s).length := by rw [addS_len, addR_len]; omega
    have hv9 := hr.lv _ hi
    have hb1 := @addS_row (p.rules.getD m r0) (addR p.who.length p.rules m) ((p.rules.getD m r0).steps.getD s 0).toNat s
    have hb2 := addR_row (n := p.who.length) (i := ((p.rules.getD m r0).steps.getD s 0).toNat) gs (m := m) (by omega)
    have hb3 := gs _ (rul_mem (l := p.rules) (k := m) (by omega))
    refine ZY [0, 1, 2, 3, 4, 5, 6, 7, 8, 9, 10, 11, 12, 13, 14, 15, 16] #[0, 1, 3, 7, 0, 0, 32, 96, 224, 0, 992, 2016, 0, 4096, 16352, 32767, 65535] XH5 XH5 XH5 ?_
    refine Oo u72 .calm rfl (Zb (.inl rfl) rfl) ?_
    refine Oo u72 .calm rfl (rfl) ?_
    refine Oo u72 .calm rfl (rfl) ?_
    refine Ym (env' := u72) (x := .look _ _) rfl rfl rfl (W1p rfl rfl rfl rfl) rfl rfl rfl ?_
    refine Oo u72 .calm rfl (Zb (.inl rfl) rfl) ?_
    refine Oo u72 .calm rfl (Zb (.inl rfl) rfl) ?_
    refine Oo u72 .calm rfl (rfl) ?_
    refine Oo u72 .calm rfl (rfl) ?_
    refine Oo u72 .look rfl (W1p rfl rfl rfl rfl) ?_
    refine Oo u72 .calm rfl (Zb (.inl rfl) rfl) ?_
    refine Oo u72 .calm rfl (W1g rfl rfl rfl rfl rfl rfl rfl) ?_
    refine Oo u72 .look rfl (W3l rfl rfl rfl rfl) ?_
    refine Oo u72 .look rfl (W1t rfl rfl rfl rfl rfl) ?_
    refine Oo u72 .grow rfl (ZA rfl rfl (by decide) rfl) ?_
    refine O_opXI (fun _ G => .turn _ G) rfl rfl rfl (v_appXh rfl rfl rfl rfl rfl rfl rfl (by simp) hv9 rfl rfl (by decide) (by show (_ + 1) * 40 ≤ _ ∧ _ + 1 ≤ _; omega) (by decide)) (fun _ _ => rfl) ?_
    rintro _ _ ⟨Y1, rfl, rfl, hY1, hY2, hY3⟩
    refine O_env (env' := u72) rfl ?_
    refine Oo u72 .calm rfl (W1g rfl rfl rfl rfl rfl rfl rfl) ?_
    refine Oo u72 .turn rfl (W3m rfl rfl rfl rfl rfl rfl rfl) ?_
    refine Yf [_] (by rfl) (And.intro (And.intro (W1p rfl rfl rfl rfl) (W1p rfl rfl rfl rfl)) trivial) ?_
    refine Zx (Zc (Za ?_))
    refine Lo u72 (W14 rfl rfl rfl) ?_
    refine Lo u72 (Zb (.inl rfl) rfl) ?_
    refine Zf ?_
    refine ZE (mk 72 4722365490010645331679) (env' := u72) rfl ⟨s + 1, ?_, rfl, ?_⟩
    ·first | omega | (simp only []; omega)
    ·exact ⟨by omega, _, _, rfl, RW.step hr hi hY2 hY3⟩
   ·try simp only [qB, qN] at hc3
    refine ZM (ZP (ZD (ZL (Zx (Zc (Za ?_))))))
    refine Lo u72 (W14 rfl rfl rfl) ?_
    refine Lo u72 (Zb (.inl rfl) rfl) ?_
    refine Zf ?_
    refine ZE (mk 72 4722366475173063819231) (env' := u72) rfl ⟨m + 1, ?_, rfl, ?_⟩
    ·first | omega | (simp only []; omega)
    ·(obtain rfl : s = (p.rules.getD m r0).steps.length := by omega); exact ⟨by omega, Z, vs, rfl, hr⟩
  ·try simp only [qB, qN] at hc2
   refine ZM (ZP (ZD (ZL (Zc (Ze ?_)))))
   obtain rfl : m = p.rules.length := by omega
   refine B_ghRW 1 hr rfl (by simp) fun Z9 => ?_
   refine Yv (Gh.cellL (l := (rssP p).map fzR) 2 2 1 rfl rfl (by decide) rfl (YG (by rw [List.length_map]; exact addR_len.symm)) (Nat.le_refl _)) ?_
   refine Yv (Gh.freezePtrL (cs := huC p.users (fzW (wsP p)) (.fsl ((rssP p).map fzR) p.who.length 1 false) y) 5 2 rfl rfl rfl) ?_
   rw [show huC p.users (fzW (wsP p)) (.fsl ((rssP p).map fzR) p.who.length 1 false) y = huC p.users (fzW (wsP p)) (fzRR (rssP p)) y by unfold fzRR; rw [show (rssP p).length = p.who.length from addR_len]]
   refine Za ?_
   refine Lo u72 (Zb (.inl rfl) rfl) ?_
   refine Lo u72 (Zb (.inr rfl) rfl) ?_
   refine Zf (Zc (Zi ?_))
   refine W3n (.inr rfl) (Zh rfl rfl) ?_
   exact ⟨rfl, rfl⟩
theorem W3o {S : V.Sys} {H : Zd} {fn : Func} {ex : Exit} {env : VEnv} {B L : Zd} {v : VVal} {R : VVal → Zd → Prop} (hx : ex = .normal ∨ ex = .ret) (hv : Z0 S.C.T env (B ++ L) fn.results = some v) (h : R v B) (hB : BaseOk H B := by exact XH45) (hu : v.under H.length = true := by first | rfl | exact rc_under _ _) : fnK S fn H R ex env (B ++ L) := YE hx hv hB hu h
theorem Clip_spec {x : SW} (H : Zd) (us : List Nat) : F (psys x) 136 [fzN us] H fun v G => v = .fsl (rcN us) us.length 1 true ∧ G = H := by
 refine Zs Tryd.func136 rfl u9 rfl ?_
 refine Ze (Za ?_)
 refine Lo u9 (Zg (VVal.slice none 0 0 true 0) (.inr rfl) rfl) ?_
 refine Zf (Zc (Ze (Za ?_)))
 refine Lo u9 (Zb (.inl rfl) rfl) ?_
 refine Lo u9 (Zb (.inl rfl) rfl) ?_
 refine Lo u9 (rfl) ?_
 refine Lo u9 (Zb (.inl rfl) rfl) ?_
 refine Lo u9 (rfl) ?_
 refine Lo u9 (v_clipN rfl rfl rfl rfl rfl rfl rfl rfl) ?_
 refine Lo u9 (Zb (.inr rfl) rfl) ?_
 refine Zf (Zc (Zi ?_))
 refine W3o (.inr rfl) (Zh rfl rfl) ?_
 exact ⟨rfl, rfl⟩
def EaP (y : Nat) (K : Bool → Zd → Prop) (A L : Zd) (v : VVal) (G : Zd) : Prop := ∃ b A1 J, v = .bool b ∧ G = A1 ++ (L ++ J) ∧ A1.length = A.length ∧ K b A1 ∧ (b = true → ∃ g1, A1[y]? = some (gaB g1))
theorem set_add0 {A : Zd} {y : Nat} {g : Gz} (h : A[y]? = some (gaB g)) : A.set y (gaB (g + 0)) = A := by
  rw [Gz.add_zero, ← YK h]
theorem ea_end {S : V.Sys} {l y : Nat} {b : Bool} {A1 : Zd} {K : Bool → Zd → Prop} (hk : if b = true then (∃ g1, A1[y]? = some (gaB g1)) ∧ IterP S l y [] 0 A1 K else K false A1) : K b A1 ∧ (b = true → ∃ g1, A1[y]? = some (gaB g1)) := by
  cases b with
  | false => exact ⟨hk, fun e => by cases e⟩
  | true =>
    obtain ⟨⟨g2, hg2⟩, hk⟩ := hk
    have h := hk g2 hg2
    rw [set_add0 hg2] at h
    exact ⟨h, fun _ => ⟨g2, hg2⟩⟩
theorem tv_cons {z : List (Gz × List Nat)} {e d : Gz} {c : VVal} {post : List (Gz × VVal)} (h : tv (z, e) = (d, c) :: post) : ∃ us z1, z = (d, us) :: z1 ∧ c = fzN us := by
  cases z with
  | nil => cases h
  | cons q z =>
    obtain ⟨d1, us⟩ := q
    have h : (d1, fzN us) :: tv (z, e) = (d, c) :: post := h
    injection h with h1 h2
    injection h1 with h3 h4
    exact ⟨us, z, by rw [h3], h4.symm⟩
theorem tv_nil {xs : List (Gz × VVal)} {z : List (Gz × List Nat)} {e : Gz} (h : xs = xs ++ tv (z, e)) : z = [] := by
  have : tv (z, e) = [] := by simpa using h
  cases z with
  | nil => rfl
  | cons q z => cases this
theorem rssP_len {p : Pb} : (rssP p).length = (wsP p).length := by unfold rssP; rw [addR_len, Yi]
theorem rssP_ok {p : Pb} (g : Go.V.Good p) : ∀ i, ((rssP p).getD i []).length ≤ 1000000 ∧ ∀ r, r ∈ (rssP p).getD i [] → r.steps.length ≤ 1000000 := fun i => by
  have g3 := g.r32; have g1 := g.n12
  have gs := fun r hr => rck_len (g.ru r hr)
  refine ⟨?_, fun r hr => ?_⟩
  · have := addR_row (n := p.who.length) (i := i) gs (m := p.rules.length) (Nat.le_refl _)
    unfold rssP; omega
  · have hin := fun r hr x hx => by
      have h := g.ru r hr
      unfold rck at h
      rw [Bool.and_eq_true, Bool.and_eq_true] at h
      have := riseA_mem _ _ h.2.1 x hx
      exact (show 0 ≤ x ∧ x < (p.who.length : Int) by omega)
    have := (addR_mem (n := p.who.length) (rs := p.rules) (r' := r) (i := i) hin (m := p.rules.length) (Nat.le_refl _)).1 hr
    rw [List.take_length] at this
    have := gs r this.1; omega
theorem New_N {x : SW} (H : Zd) (p : Pb) (y : Nat) (hy : y < H.length) (g : Go.V.Good p) : F (psys x) 51 [.agg (pbB p), .ptr (some (y, 0))] H fun v G => v = huP (p.users.toNat : Nat) (fzW (wsP p)) (fzRR (rssP p)) y ∧ G = H := by
  rw [Int.toNat_of_nonneg g.u0]; exact New_spec H p y hy g
theorem wsP_get {p : Pb} {i : Nat} (h : i < p.who.length) : (wsP p).getD i 0 = wrd p i := by
  unfold wsP; simp [List.getD_eq_getElem?_getD, h]
theorem myB_nat {p : Pb} {i n : Nat} : myB p i (n : Nat) = true ↔ (wrd p i).getLsbD n = true := by
  unfold myB
  rw [Bool.and_eq_true, decide_eq_true_eq, Int.toNat_natCast]
  exact ⟨fun h => h.2, fun h => ⟨by have := BitVec.lt_of_getLsbD h; omega, h⟩⟩
def pw : Pb := (3, [3#64, 3#64, 4#64], [-1, -1, -1], [(1, 0, [0, 1], ())], ())
theorem Cut_few {x : SW} (H : Zd) (p : Pb) (m : Nat) : F (psys x) 19 [.agg (pbB (Yr p m))] H fun v G => v = .agg (pbB (Yr p m)) ∧ G = H := by
  have := Cut_spec (x := x) H (Yr p m)
  rw [fewP_cut] at this; exact this
theorem CloI_emp {x : SW} (H : Zd) : F (psys x) 109 [.slice none 0 0 false 0] H fun v G => v = .fsl [] 0 1 false ∧ G = H := by
 refine Zs Tryd.func109 rfl u8 rfl ?_
 refine Ze (Za ?_)
 refine Lo u8 (Zg (VVal.slice none 0 0 true 0) (.inr rfl) rfl) ?_
 refine Zf (Zc (Ze (Ze (Za ?_))))
 refine Lo u8 (Zb (.inl rfl) rfl) ?_
 refine Lo u8 (rfl) ?_
 refine Zf (Zc ?_)
 refine Yp rfl rfl ?_
 refine Zl (Zc (Ze (Za ?_)))
 refine Lo u8 (ZA rfl rfl (by decide) rfl) ?_
 refine Lo u8 (Zb (.inl rfl) rfl) ?_
 refine Lo u8 (v_appIn rfl rfl rfl rfl rfl rfl rfl (Zz rfl rfl) rfl rfl rfl rfl (by decide) (by decide) (by decide)) ?_
 refine L_heap (H' := H ++ [.cells [] true]) (by rw [ZG rfl]; rfl) ?_
 refine Lo u8 (Zb (.inr rfl) rfl) ?_
 refine Zf (Zc (Zi ?_))
 refine E_gh (.inr rfl) (Zh rfl rfl) (Gh.fsl (j := 0) (off := 0) (len := 0) (l := []) (BaseOk.refl _) rfl rfl (Nat.le_refl _) rfl) ?_
 exact ⟨rfl, rfl⟩
theorem CloI_c {x : SW} (H : Zd) (l : List Int) (hne : l ≠ []) (hl : l.length ≤ 1000000) : F (psys x) 109 [fzI l] H fun v G => v = .slice (some (H.length, 0)) l.length l.length (decide (l.length = 0)) 1 ∧ G = H ++ [.cells (l.map iI) true] := by
 refine Zs Tryd.func109 rfl u8 rfl ?_
 refine Ze (Za ?_)
 refine Lo u8 (Zg (VVal.slice none 0 0 true 0) (.inr rfl) rfl) ?_
 refine Zf (Zc (Ze (Ze (Za ?_))))
 refine Lo u8 (Zb (.inl rfl) rfl) ?_
 refine Lo u8 (v_eqNilC rfl rfl rfl rfl rfl (fun e => hne (List.eq_nil_of_length_eq_zero e))) ?_
 refine Zf (Zc ?_)
 refine Yp rfl rfl ?_
 refine Zl (Zc (Ze (Za ?_)))
 refine Lo u8 (ZA rfl rfl (by decide) rfl) ?_
 refine Lo u8 (Zb (.inl rfl) rfl) ?_
 refine L_opX rfl rfl (v_appE rfl rfl rfl rfl rfl rfl rfl rfl (by rw [List.length_map]; exact (Nat.mul_one _).symm) (mapI_one _) (by decide) (by show l.length * 8 ≤ _ ∧ l.length ≤ _; omega)) ?_
 rintro _ _ ⟨Z, i, rfl, rfl, hi⟩
 refine Le u8 ?_
 refine Lo u8 (Zb (.inr rfl) rfl) ?_
 refine Zf (Zc (Zi ?_))
 refine E_gh (.inr rfl) (Zh rfl rfl) (Gh.pack (BaseOk.refl _) hi (mapI_under _ _)) ?_
 exact ⟨rfl, rfl⟩
theorem CloWf {x : SW} (H : Zd) (l : List (BitVec 64)) (hl : l.length ≤ 1000000) : F (psys x) 99 [fzW l] H fun v G => v = fzW l ∧ G = H := by
  by_cases h : l = []
  · subst h; exact CloW_0 H
  · exact F.gh (CloW_c H l h hl) fun v G h => by
      obtain ⟨rfl, rfl⟩ := h
      exact ⟨_, _, Gh.fsl (j := 0) (BaseOk.refl H) rfl wApp_c (Nat.le_refl _) (Ys _ _), rfl, rfl⟩
theorem CloIf {x : SW} (H : Zd) (l : List Int) (hl : l.length ≤ 1000000) : F (psys x) 109 [fzI l] H fun v G => v = fzI l ∧ G = H := by
  by_cases h : l = []
  · subst h; exact F_split0 (CloI_nil H) (CloI_emp H)
  · exact F.gh (CloI_c H l h hl) fun v G h => by
      obtain ⟨rfl, rfl⟩ := h
      exact ⟨_, _, Gh.fsl (j := 0) (BaseOk.refl H) rfl map_all (Nat.le_refl _) (mapI_under _ _), rfl, rfl⟩
theorem CloI_L {x : SW} (H L : Zd) (l : List Int) (hne : l ≠ []) (hl : l.length ≤ 1000000) : F (psys x) 109 [fzI l] (H ++ L) fun v G => v = .slice (some (H.length + L.length, 0)) l.length l.length (decide (l.length = 0)) 1 ∧ G = H ++ (L ++ [.cells (l.map iI) true]) := by
  have := CloI_c (x := x) (H ++ L) l hne hl
  rw [List.length_append, List.append_assoc] at this
  exact this
abbrev u47 {a0 a1 a2 a3 a4 a5 a6 a7 a8 a9 a10 a11 a12 a13 a14 a15 a16 a17 a18 a19 a20 a21 a22 a23 a24 a25 a26 a27 a28 a29 a30 a31 a32 a33 a34 a35 a36 a37 a38 a39 a40 a41 a42 a43 a44 a45 a46 : VVal} : VEnv := a0 :: a1 :: a2 :: a3 :: a4 :: a5 :: a6 :: a7 :: a8 :: a9 :: a10 :: a11 :: a12 :: a13 :: a14 :: a15 :: a16 :: a17 :: a18 :: a19 :: a20 :: a21 :: a22 :: a23 :: a24 :: a25 :: a26 :: a27 :: a28 :: a29 :: a30 :: a31 :: a32 :: a33 :: a34 :: a35 :: a36 :: a37 :: a38 :: a39 :: a40 :: a41 :: a42 :: a43 :: a44 :: a45 :: a46 :: []
theorem W3p {T : TypeId → Option VTy} {H : Zd} {op : Op} {ρ : Operand → VVal} {t : TypeId} {a : Operand} {y : VTy} {p v : VVal} (ho : op = .load t a) (ha : ρ a = p) (hy : T t = some y) (hd : Zj y.desc = false) (h : LdOk H p v := by first | exact .inl ⟨_, _, rfl, by first | rfl | assumption⟩ | exact .inr ⟨_, _, _, _, rfl, XH36, by first | rfl | assumption⟩) : vop T ρ H op = some (v, H) := v_ld ho ha hy hd h
theorem W3r {P : Prop} (h : P := by first | exact ⟨false, A2, _, rfl, rfl, hA3, hk3, fun e => by cases e⟩ | exact ⟨true, A0, _, rfl, rfl, hA0, by (have h9 := hI0; rw [ptR_end (by omega)] at h9; have h9 := h9 g1 hg1; rw [set_add0 hg1] at h9; exact h9), fun _ => ⟨g1, hg1⟩⟩) : P := h
theorem W3t {S : V.Sys} {H : Zd} {fn : Func} {ex : Exit} {env : VEnv} {B L : Zd} {v : VVal} {R : VVal → Zd → Prop} (hx : ex = .normal ∨ ex = .ret) (hv : Z0 S.C.T env (B ++ L) fn.results = some v) (h : R v B) (hB : BaseOk H B := by exact XH45) (hu : v.under H.length = true := by show (true && (((huP (u : Nat) (fzW ws) (fzRR rss) y).under _ && true) && true)) = true; rw [huUnder hy]; rfl) : fnK S fn H R ex env (B ++ L) := YE hx hv hB hu h
theorem hKeep_at {x : SW} {A Z : Zd} {u y : Nat} {ws : List (BitVec 64)} {rss : List (List Rul)} {g : Gz} (hs : A[y]? = some (gaB g)) (a : List Nat) (ha : Pat a) (h0 : 0 < a.length) (hw : a.length ≤ ws.length) (hn : ws.length ≤ 1000000) (hr : rss.length = ws.length) (hR : ∀ i, (rss.getD i []).length ≤ 1000000 ∧ ∀ r, r ∈ rss.getD i [] → r.steps.length ≤ 1000000) :
    F (psys x) 53 [huP (u : Nat) (fzW ws) (fzRR rss) y, fzN a] (A ++ Z) fun v G => v = .bool (kpB ws rss a) ∧ G = A.set y (gaB (g + kpG u ws rss a)) ++ Z := by
  refine (hKeep_spec _ y g (Zr hs) ws rss a ha h0 hw hn hr hR).mono ?_
  rintro v G ⟨rfl, rfl⟩
  exact ⟨rfl, Yo (ZQ hs)⟩
theorem CloN {x : SW} (H : Zd) (l : List Nat) (hl : l.length ≤ 1000000) : F (psys x) 109 [fzN l] H fun v G => v = fzN l ∧ G = H := by
  rw [fzN_is]; exact CloIf H (zI l) (by rw [zI_len]; exact hl)
theorem patterns_0 {x : SW} {u y : Nat} {ws : List (BitVec 64)} {rss : List (List Rul)} (l : Nat) (hn : ws.length ≤ 1000000) (hr : rss.length = ws.length) (hR : ∀ i, (rss.getD i []).length ≤ 1000000 ∧ ∀ r, r ∈ rss.getD i [] → r.steps.length ≤ 1000000) (A L : Zd) (row : List Nat) (b : Nat) (g : Gz) (K : Bool → Zd → Prop) (hp : Pat row) (hb : b = szP row row.length) (hs : A[y]? = some (gaB g)) (hI : IterP (psys x) l y (tv (ptT (kpB ws rss) (kpG u ws rss) 0 row b)) (ptT (kpB ws rss) (kpG u ws rss) 0 row b).2 A K) (hl : row.length = ws.length) : F (psys x) 114 [huP (u : Nat) (fzW ws) (fzRR rss) y, fzN row, iI (b : Nat), .yield l] (A ++ L) (EaP y K A L) := by
 refine Zs Tryd.func114 rfl u47 rfl ?_
 refine Ze (Za ?_)
 refine Lo u47 (Zg (VVal.bool false) (.inr rfl) rfl) ?_
 refine Zf (Zc (Ze (Ze ?_)))
 rw [List.append_nil]
 refine Za ?_
 refine Lo u47 (Zb (.inl rfl) rfl) ?_
 refine Lo u47 (rfl) ?_
 refine Lo u47 (Zb (.inl rfl) rfl) ?_
 refine Lo u47 (rfl) ?_
 refine Lo u47 (rfl) ?_
 refine Lo u47 (W3p rfl rfl rfl rfl) ?_
 refine Lo u47 (rfl) ?_
 refine Lo u47 (v_is true rfl (by rw [hl]; simp)) ?_
 refine Zf (Zc ?_)
 refine ZX rfl rfl ?_
 refine Ze (Za ?_)
 refine Lo u47 (Zb (.inl rfl) rfl) ?_
 refine Lo u47 (Zb (.inl rfl) rfl) ?_
 refine Zt rfl rfl rfl (by exact CloN _ row (by omega)) ?_
 rintro _ _ ⟨rfl, rfl⟩
 refine Le u47 ?_
 refine L_callV rfl rfl rfl (by have h9 : Fv (psys x) (.yield l) [fzN row] (A.set y (gaB (g + 0)) ++ L) _ := hI g hs L; rw [set_add0 hs] at h9; exact h9) ?_
 rintro _ G ⟨b1, A1, J1, rfl, hG, hA1, hk⟩; obtain rfl : G = A1 ++ (L ++ J1) := hG
 refine Le u47 ?_
 refine Lo u47 (Zb (.inr rfl) rfl) ?_
 refine Zf (Zc (Zi (Zo ?_)))
 refine E_keep (.inr rfl) (Zh rfl rfl) ?_
 exact ⟨b1, A1, _, rfl, rfl, hA1, ea_end hk⟩
theorem patterns_s {x : SW} {u y : Nat} {ws : List (BitVec 64)} {rss : List (List Rul)} (l : Nat) (hn : ws.length ≤ 1000000) (hr : rss.length = ws.length) (hR : ∀ i, (rss.getD i []).length ≤ 1000000 ∧ ∀ r, r ∈ rss.getD i [] → r.steps.length ≤ 1000000) (n : Nat) (ih : ∀ (A L : Zd) (row : List Nat) (b : Nat) (g : Gz) (K : Bool → Zd → Prop) (hp : Pat row) (hb : b = szP row row.length) (hs : A[y]? = some (gaB g)) (hI : IterP (psys x) l y (tv (ptT (kpB ws rss) (kpG u ws rss) n row b)) (ptT (kpB ws rss) (kpG u ws rss) n row b).2 A K), row.length + n = ws.length → F (psys x) 114 [huP (u : Nat) (fzW ws) (fzRR rss) y, fzN row, iI (b : Nat), .yield l] (A ++ L) (EaP y K A L)) (A L : Zd) (row : List Nat) (b : Nat) (g : Gz) (K : Bool → Zd → Prop) (hp : Pat row) (hb : b = szP row row.length) (hs : A[y]? = some (gaB g)) (hI : IterP (psys x) l y (tv (ptT (kpB ws rss) (kpG u ws rss) (n + 1) row b)) (ptT (kpB ws rss) (kpG u ws rss) (n + 1) row b).2 A K) (hl : row.length + (n + 1) = ws.length) : F (psys x) 114 [huP (u : Nat) (fzW ws) (fzRR rss) y, fzN row, iI (b : Nat), .yield l] (A ++ L) (EaP y K A L) := by
 have hz := @szP_le row row.length
 refine Zs Tryd.func114 rfl u47 rfl ?_
 refine Ze (Za ?_)
 refine Lo u47 (Zg (VVal.bool false) (.inr rfl) rfl) ?_
 refine Zf (Zc (Ze (Ze ?_)))
 rw [List.append_nil]
 refine Za ?_
 refine Lo u47 (Zb (.inl rfl) rfl) ?_
 refine Lo u47 (rfl) ?_
 refine Lo u47 (Zb (.inl rfl) rfl) ?_
 refine Lo u47 (rfl) ?_
 refine Lo u47 (rfl) ?_
 refine Lo u47 (W3p rfl rfl rfl rfl) ?_
 refine Lo u47 (rfl) ?_
 refine Lo u47 (v_is false rfl (by simp; omega)) ?_
 refine Zf (Zc ?_)
 refine Yp rfl rfl ?_
 refine Zl (Zc (Ze (Ze ?_)))
 rw [ptT_R] at hI
 refine Za ?_
 refine Lo u47 (Zg (VVal.int .i64 0) (.inr rfl) rfl) ?_
 refine Zf (Zc (Zn ?_))
 refine ZB (mk 47 140737488354800) (env' := u47) rfl ?_
 refine ZO (fun (k : Nat) => b + 1 - k) (fun (k : Nat) => [(9, iI (k : Nat))]) (fun (k : Nat) G => (k ≤ b + 1) ∧ ∃ A0 J0 g1, G = A0 ++ (L ++ J0) ∧ A0.length = A.length ∧ A0[y]? = some (gaB g1) ∧ IterP (psys x) l y (tv (ptR (kpB ws rss) (kpG u ws rss) (ptT (kpB ws rss) (kpG u ws rss) n) row b k)) (ptR (kpB ws rss) (kpG u ws rss) (ptT (kpB ws rss) (kpG u ws rss) n) row b k).2 A0 K) 0 rfl ?_ ?_
 ·refine ⟨?_, ⟨A, [], g, by rw [List.append_nil], rfl, hs, hI⟩⟩
  exact Nat.zero_le _
 rintro k _ ⟨hk, ⟨A0, J0, g1, rfl, hA0, hg1, hI0⟩⟩
 refine Z6 (env' := u47) rfl ?_
 refine Ze (Ze (Za ?_))
 refine Lo u47 (Zb (.inl rfl) rfl) ?_
 refine Lo u47 (Zb (.inl rfl) rfl) ?_
 refine Lo u47 (rfl) ?_
 refine Zf (Zc ?_)
 refine Zk _ rfl (fun hc1 => ?_) (fun hc1 => ?_)
 ·try simp only [qB, qN] at hc1
  refine Zl (Zc (Ze (Zn (Ze (Za ?_)))))
  refine Lo u47 (Zb (.inl rfl) rfl) ?_
  refine Zt rfl rfl rfl (by exact Clip_spec _ row) ?_
  rintro _ _ ⟨rfl, rfl⟩
  refine Le u47 ?_
  refine Lo u47 (Zb (.inl rfl) rfl) ?_
  refine Lo u47 (ZA rfl rfl (by decide) rfl) ?_
  refine Lo u47 (v_appFX (c := iI ((k : Nat) : Int)) rfl rfl rfl rfl rfl rfl rfl rfl get_end rfl (by simp) (by show (row.length + 1) * 8 ≤ _ ∧ _; omega)) ?_
  refine Lo u47 (Zb (.inr rfl) rfl) ?_
  refine Zf (Zc (Ze ?_))
  refine B_frzEnd 10 rfl rfl rfl rfl ?_
  have hkb : k ≤ b := by omega
  have hpk : Pat (row ++ [k]) := Pat_snoc hp (by omega)
  refine Za ?_
  refine Lo u47 (Zb (.inl rfl) rfl) ?_
  refine Lo u47 (Zb (.inl rfl) rfl) ?_
  refine Zt rfl rfl rfl (by exact hKeep_at hg1 (row ++ [k]) hpk (by simp) (by simp; omega) hn hr hR) ?_
  rintro _ _ ⟨rfl, rfl⟩
  refine Le u47 ?_
  refine Lo u47 (Zb (.inl rfl) rfl) ?_
  refine ZH 36 (env1 := u47) (env2 := u47) rfl rfl rfl (fun hg2 => ?_) (fun hg2 => ?_)
  ·try simp only [qB, qN] at hg2
   have hkp : kpB ws rss (row ++ [k]) = true := by simpa using hg2
   refine Lo u47 (Zb (.inl rfl) rfl) ?_
   refine Lo u47 (Zb (.inl rfl) rfl) ?_
   refine Lo u47 (Zb (.inl rfl) rfl) ?_
   refine Lo u47 (Zb (.inl rfl) rfl) ?_
   refine Lo u47 (W14 rfl rfl rfl) ?_
   refine Lo u47 (YL rfl (show iI _ = iI ((max b (k + 1) : Nat) : Int) by congr 1; omega)) ?_
   refine Lo u47 (Zb (.inl rfl) rfl) ?_
   refine Zt rfl rfl rfl (by have hIf := hI0; rw [ptR_yes hkb hkp] at hIf; exact ih (A0.set y (gaB (g1 + kpG u ws rss (row ++ [k])))) _ (row ++ [k]) _ _ _ hpk (by rw [hb]; exact (szP_next (by omega)).symm) (List.getElem?_set_self (ZQ hg1)) (IterP.catT (xs := (ptT (kpB ws rss) (kpG u ws rss) n (row ++ [k]) (max b (k + 1))).1) (da := (ptT (kpB ws rss) (kpG u ws rss) n (row ++ [k]) (max b (k + 1))).2) (IterP.addF hg1 hIf)) (by simp; omega)) ?_
   rintro _ G ⟨b1, A2, J2, rfl, hG, hA2, hk2, hg2x⟩; have hA3 : A2.length = A.length := hA2.trans (by rw [List.length_set]; exact hA0); obtain rfl : G = _ := hG.trans ea_fold
   refine Le u47 ?_
   refine Lo u47 (rfl) ?_
   refine Lo u47 (ZN rfl rfl rfl) ?_
   refine Zf (Zc ?_)
   refine Zk _ rfl (fun hc3 => ?_) (fun hc3 => ?_)
   ·try simp only [qB, qN] at hc3
    have hb1 : b1 = false := by simpa using hc3
    subst hb1
    have hk3 : K false A2 := hk2
    refine Ze (Za ?_)
    refine Lo u47 (Zg (VVal.bool false) (.inr rfl) rfl) ?_
    refine Zf (Zc (Zi (ZW (Zo (K_loopR (ZW (Zo ?_)))))))
    refine E_keep (.inr rfl) (Zh rfl rfl) ?_
    exact W3r
   ·try simp only [qB, qN] at hc3
    have hb1 : b1 = true := by simpa using hc3
    subst hb1
    obtain ⟨g2, hg3⟩ := hg2x rfl
    have hk3 : IterP (psys x) l y (tv (ptR (kpB ws rss) (kpG u ws rss) (ptT (kpB ws rss) (kpG u ws rss) n) row b (k + 1))) (ptR (kpB ws rss) (kpG u ws rss) (ptT (kpB ws rss) (kpG u ws rss) n) row b (k + 1)).2 A2 K := hk2
    refine Zl (Zx (Zc (Za ?_)))
    refine Lo u47 (Zb (.inl rfl) rfl) ?_
    refine Lo u47 (W14 rfl rfl rfl) ?_
    refine Lo u47 (Zb (.inr rfl) rfl) ?_
    refine Zf ?_
    refine ZE (mk 47 140737488354800) (env' := u47) rfl ⟨k + 1, ?_, rfl, ?_⟩
    ·first | omega | (simp only []; omega)
    ·first | exact ⟨by omega, A2, _, g2, rfl, hA3, hg3, hk3⟩ | exact ⟨by omega, A0.set y (gaB (g1 + kpG u ws rss (row ++ [k]))), _, _, ea_fold0, by rw [List.length_set]; exact hA0, List.getElem?_set_self (ZQ hg1), IterP.addF hg1 (by have h9 := hI0; rw [ptR_no hkb hkp] at h9; exact h9)⟩
  ·try simp only [qB, qN] at hg2
   have hkp : kpB ws rss (row ++ [k]) = false := by simpa using hg2
   refine Lf u47 ?_
   refine Lf u47 ?_
   refine Lf u47 ?_
   refine Lf u47 ?_
   refine Lf u47 ?_
   refine Lf u47 ?_
   refine Lf u47 ?_
   refine Lf u47 ?_
   refine Lf u47 ?_
   refine Lo u47 (ZC (VVal.bool false) rfl rfl rfl) ?_
   refine Zf (Zc ?_)
   refine Yp rfl rfl ?_
   refine Zl (Zx (Zc (Za ?_)))
   refine Lo u47 (Zb (.inl rfl) rfl) ?_
   refine Lo u47 (W14 rfl rfl rfl) ?_
   refine Lo u47 (Zb (.inr rfl) rfl) ?_
   refine Zf ?_
   refine ZE (mk 47 140737488354800) (env' := u47) rfl ⟨k + 1, ?_, rfl, ?_⟩
   ·first | omega | (simp only []; omega)
   ·first | exact ⟨by omega, A2, _, g2, rfl, hA3, hg3, hk3⟩ | exact ⟨by omega, A0.set y (gaB (g1 + kpG u ws rss (row ++ [k]))), _, _, ea_fold0, by rw [List.length_set]; exact hA0, List.getElem?_set_self (ZQ hg1), IterP.addF hg1 (by have h9 := hI0; rw [ptR_no hkb hkp] at h9; exact h9)⟩
 ·try simp only [qB, qN] at hc1
  refine ZM (ZP (ZD (ZL (Zc (Ze (Za ?_))))))
  refine Lo u47 (Zg (VVal.bool true) (.inr rfl) rfl) ?_
  refine Zf (Zc (Zi ?_))
  refine E_keep (.inr rfl) (Zh rfl rfl) ?_
  exact W3r
theorem patterns_spec {x : SW} {u y : Nat} {ws : List (BitVec 64)} {rss : List (List Rul)} (l : Nat) (hn : ws.length ≤ 1000000) (hr : rss.length = ws.length) (hR : ∀ i, (rss.getD i []).length ≤ 1000000 ∧ ∀ r, r ∈ rss.getD i [] → r.steps.length ≤ 1000000) : ∀ (n : Nat) (A L : Zd) (row : List Nat) (b : Nat) (g : Gz) (K : Bool → Zd → Prop) (hp : Pat row) (hb : b = szP row row.length) (hs : A[y]? = some (gaB g)) (hI : IterP (psys x) l y (tv (ptT (kpB ws rss) (kpG u ws rss) n row b)) (ptT (kpB ws rss) (kpG u ws rss) n row b).2 A K), row.length + n = ws.length → F (psys x) 114 [huP (u : Nat) (fzW ws) (fzRR rss) y, fzN row, iI (b : Nat), .yield l] (A ++ L) (EaP y K A L)
  | 0, A, L, row, b, g, K, hp, hb, hs, hI, hl => patterns_0 l hn hr hR A L row b g K hp hb hs hI hl
  | n + 1, A, L, row, b, g, K, hp, hb, hs, hI, hl => patterns_s l hn hr hR n (fun A L row b g K h1 h2 h3 h4 h5 => patterns_spec l hn hr hR n A L row b g K h1 h2 h3 h4 h5) A L row b g K hp hb hs hI hl
theorem patterns_top {x : SW} {u y : Nat} {ws : List (BitVec 64)} {rss : List (List Rul)} (l : Nat) (hn : ws.length ≤ 1000000) (hr : rss.length = ws.length) (hR : ∀ i, (rss.getD i []).length ≤ 1000000 ∧ ∀ r, r ∈ rss.getD i [] → r.steps.length ≤ 1000000) (A : Zd) (g : Gz) (K : Bool → Zd → Prop) (hs : A[y]? = some (gaB g)) (hI : IterP (psys x) l y (tv (ptT (kpB ws rss) (kpG u ws rss) ws.length [] 0)) (ptT (kpB ws rss) (kpG u ws rss) ws.length [] 0).2 A K) :
    F (psys x) 114 [huP (u : Nat) (fzW ws) (fzRR rss) y, niS, iI 0, .yield l] A fun v G => ∃ b A1 J, v = .bool b ∧ G = A1 ++ J ∧ K b A1 := by
  refine F.pre (Gh.freezeNil (vs' := [huP (u : Nat) (fzW ws) (fzRR rss) y, fzN [], iI 0, .yield l]) 1 rfl rfl) ?_
  have := patterns_spec (x := x) (u := u) l hn hr hR ws.length A [] [] 0 g K Pat_nil rfl hs hI (Nat.zero_add _)
  rw [List.append_nil] at this
  refine this.mono ?_
  rintro v G ⟨b, A1, J, rfl, rfl, _, hk, _⟩
  exact ⟨b, A1, J, rfl, rfl, hk⟩
theorem Patterns1_spec {x : SW} {u y : Nat} {ws : List (BitVec 64)} {rss : List (List Rul)} (l : Nat) (hn : ws.length ≤ 1000000) (hr : rss.length = ws.length) (hR : ∀ i, (rss.getD i []).length ≤ 1000000 ∧ ∀ r, r ∈ rss.getD i [] → r.steps.length ≤ 1000000) (A : Zd) (g : Gz) (K : Bool → Zd → Prop) (hs : A[y]? = some (gaB g)) (hI : IterP (psys x) l y (tv (ptT (kpB ws rss) (kpG u ws rss) ws.length [] 0)) (ptT (kpB ws rss) (kpG u ws rss) ws.length [] 0).2 A K) : F (psys x) 113 [.yield l, .fptr [huP (u : Nat) (fzW ws) (fzRR rss) y] 0] A fun v G => ∃ b A1 J, G = A1 ++ J ∧ K b A1 := by
 refine Zs Tryd.func113 rfl u6 rfl ?_
 rw [List.append_nil]
 refine Za ?_
 refine Lo u6 (W12 rfl rfl rfl rfl) ?_
 refine Lo u6 (Zb (.inl rfl) rfl) ?_
 refine Zt rfl rfl rfl (by exact patterns_top l hn hr hR A g K hs hI) ?_
 rintro _ _ ⟨b, A1, J, rfl, rfl, hk⟩
 refine Le u6 ?_
 refine Zf ?_
 refine E_keep (.inl rfl) (vres_none rfl) ?_
 exact ⟨b, A1, J, rfl, hk⟩
theorem Patterns_spec {x : SW} (H : Zd) {u y : Nat} {ws : List (BitVec 64)} {rss : List (List Rul)} (hy : y < H.length) : F (psys x) 75 [huP (u : Nat) (fzW ws) (fzRR rss) y] H fun v G => v = .func 113 [] [.fptr [huP (u : Nat) (fzW ws) (fzRR rss) y] 0] ∧ G = H := by
 refine Zs Tryd.func75 rfl u4 rfl ?_
 refine Ze (Za ?_)
 refine Lo u4 (ZI rfl rfl rfl) ?_
 refine Lo u4 (Zg (VVal.nilFunc) (.inr rfl) rfl) ?_
 refine Zf (Zc (Ze (Za ?_)))
 refine L_gh (Gh.freezePtrL (cs := [huP (u : Nat) (fzW ws) (fzRR rss) y]) 1 0 rfl rfl rfl) ?_
 refine Lo u4 (v_func [_] rfl rfl) ?_
 refine Lo u4 (Zb (.inr rfl) rfl) ?_
 refine Zf (Zc (Zi ?_))
 refine W3t (.inr rfl) (Zh rfl rfl) ?_
 exact ⟨rfl, rfl⟩
theorem W3u {T : TypeId → Option VTy} {H : Zd} {op : Op} {ρ : Operand → VVal} {t : TypeId} {a : Operand} {y : VTy} {p : VVal} {n : Nat} {vs : List VVal} (ho : op = .load t a) (ha : ρ a = p) (hy : T t = some y) (hd : Zj y.desc = true) (hn : y.size = n) (h : LdOkA H p n vs := by first | exact .inl ⟨_, _, rfl, by first | rfl | assumption⟩ | exact .inr ⟨_, _, _, _, rfl, XH36, by first | rfl | assumption⟩) : vop T ρ H op = some (.agg vs, H) := v_ldA ho ha hy hd hn h
theorem W3x {P : Prop} (h : P := by first | exact ⟨true, A0, _, List.append_assoc _ _ _, hI⟩ | exact ⟨false, A0, _, List.append_assoc _ _ _, hX⟩) : P := h
theorem W3y {S : V.Sys} {H : Zd} {fn : Func} {ex : Exit} {env : VEnv} {B L : Zd} {v : VVal} {R : VVal → Zd → Prop} (hx : ex = .normal ∨ ex = .ret) (hv : Z0 S.C.T env (B ++ L) fn.results = some v) (h : R v B) (hB : BaseOk H B := by exact XH45) (hu : v.under H.length = true := by show (true && (VVal.underL _ (pbB p) && true)) = true; rw [show VVal.underL _ (pbB p) = true from pb_under (p := p)]; rfl) : fnK S fn H R ex env (B ++ L) := YE hx hv hB hu h
def ptP (p : Pb) : List (List Nat) := if pck p = 0 then (ptT (kpB (wsP p) (rssP p)) (kpG p.users.toNat (wsP p) (rssP p)) (wsP p).length [] 0).1.map Prod.snd else []
abbrev fvP (p : Pb) (a : List Nat) : List VVal := [fzN a, fzW (Z5 (wsP p) a a.length)]
theorem ptP_mem {p : Pb} {a : List Nat} (h : a ∈ ptP p) : pck p = 0 ∧ Pat a ∧ a.length = p.who.length ∧ a ∈ pats p.who.length [] 0 ∧ keptN (kpB (wsP p) (rssP p)) 0 a = true := by
  unfold ptP at h
  split at h
  · rename_i h0
    rw [ptT_snd, List.mem_filter, Yi] at h
    obtain ⟨z, hz, hl⟩ := pats_len h.1
    rw [List.nil_append] at hz; subst hz
    exact ⟨h0, pats_pat Pat_nil h.1, hl, h.1, h.2⟩
  · cases h
theorem tpat1_bad {x : SW} (l : Nat) (p : Pb) (hpl : PbL p) (A : Zd) (K : Bool → Zd → Prop) (hI : IterJ (psys x) l ((ptP p).map (fvP p)) A K) (hb : ¬ pck p = 0) : F (psys x) 92 [.yield l, .fptr (pbB p) 0] A fun v G => ∃ b A1 J, G = A1 ++ J ∧ K b A1 := by
 refine Zs Tryd.func92 rfl u22 rfl ?_
 refine Ze (Za ?_)
 refine Lo u22 (ZI rfl rfl rfl) ?_
 refine Zf (Zc (Ze (Ze ?_)))
 refine Yv (Gh.freezePtrL (cs := [.yield l]) 2 0 rfl rfl rfl) ?_
 refine Za ?_
 refine Lo u22 (W3u rfl rfl rfl rfl rfl) ?_
 refine Zt rfl rfl rfl (by exact sCheck_spec _ p hpl) ?_
 rintro _ _ ⟨rfl, rfl⟩
 refine Le u22 ?_
 refine Lo u22 (v_is true rfl (by simp [hb])) ?_
 refine Zf (Zc ?_)
 refine ZX rfl rfl ?_
 refine Zi (Zo ?_)
 refine E_keep (.inr rfl) (vres_none rfl) ?_
 exact ⟨true, A, _, rfl, by rw [show ptP p = [] from if_neg hb] at hI; exact hI⟩
theorem tpat1_ok {x : SW} (l : Nat) (p : Pb) (hpl : PbL p) (A : Zd) (K : Bool → Zd → Prop) (hI : IterJ (psys x) l ((ptP p).map (fvP p)) A K) (h0 : pck p = 0) : F (psys x) 92 [.yield l, .fptr (pbB p) 0] A fun v G => ∃ b A1 J, G = A1 ++ J ∧ K b A1 := by
 have hg : Go.V.Good p := pck_good.1 h0
 have hn : (wsP p).length ≤ 1000000 := by rw [Yi]; exact hpl.w
 rw [show ptP p = (ptT (kpB (wsP p) (rssP p)) (kpG p.users.toNat (wsP p) (rssP p)) (wsP p).length [] 0).1.map Prod.snd from if_pos h0] at hI
 have hT : ∀ q, q ∈ (ptT (kpB (wsP p) (rssP p)) (kpG p.users.toNat (wsP p) (rssP p)) (wsP p).length [] 0).1 → Pat q.2 ∧ q.2.length = (wsP p).length := fun q hq => by
    have h9 : q.2 ∈ ptP p := by rw [show ptP p = (ptT (kpB (wsP p) (rssP p)) (kpG p.users.toNat (wsP p) (rssP p)) (wsP p).length [] 0).1.map Prod.snd from if_pos h0]; exact List.mem_map_of_mem hq
    have h8 := ptP_mem h9
    exact ⟨h8.2.1, by rw [Yi]; exact h8.2.2.1⟩
 refine Zs Tryd.func92 rfl u22 rfl ?_
 refine Ze (Za ?_)
 refine Lo u22 (ZI rfl rfl rfl) ?_
 refine Zf (Zc (Ze (Ze ?_)))
 refine Yv (Gh.freezePtrL (cs := [.yield l]) 2 0 rfl rfl rfl) ?_
 refine Za ?_
 refine Lo u22 (W3u rfl rfl rfl rfl rfl) ?_
 refine Zt rfl rfl rfl (by exact sCheck_spec _ p hpl) ?_
 rintro _ _ ⟨rfl, rfl⟩
 refine Le u22 ?_
 refine Lo u22 (v_is false rfl (by rw [h0]; rfl)) ?_
 refine Zf (Zc ?_)
 refine Yp rfl rfl ?_
 refine Zl (Zc (Ze (Za ?_)))
 refine Lo u22 (W3u rfl rfl rfl rfl rfl) ?_
 refine Lo u22 (rfl) ?_
 refine Lo u22 (ZI rfl rfl rfl) ?_
 refine Zt rfl rfl rfl (by exact New_N _ p (A.length + 1) (by simp) hg) ?_
 rintro _ _ ⟨rfl, rfl⟩
 refine Le u22 ?_
 refine Lo u22 (ZF rfl rfl) ?_
 refine Lo u22 (W13 rfl rfl rfl rfl rfl rfl rfl) ?_
 refine Zf (Zc (Ze ?_))
 refine Yv (Gh.freezePtrL (cs := [huP (p.users.toNat : Nat) (fzW (wsP p)) (fzRR (rssP p)) (A.length + 1)]) 3 2 rfl rfl rfl) ?_
 refine Za ?_
 refine Lo u22 (W3p rfl rfl rfl rfl) ?_
 refine Zt rfl rfl rfl (by exact Patterns_spec _ (by simp)) ?_
 rintro _ _ ⟨rfl, rfl⟩
 refine Le u22 ?_
 refine Zf (Zc (Zn ?_))
 refine ZB (mk 22 4186099) (env' := u22) rfl ?_
 refine B_rangePJ ((A.length + 1)) (tv (ptT (kpB (wsP p) (rssP p)) (kpG p.users.toNat (wsP p) (rssP p)) (wsP p).length [] 0)) ((ptT (kpB (wsP p) (rssP p)) (kpG p.users.toNat (wsP p) (rssP p)) (wsP p).length [] 0).2) (fun l0 h => by cases h) rfl (fun l9 G9 K9 hg9 hI9 => Patterns1_spec l9 hn rssP_len (rssP_ok hg) G9 _ K9 hg9.choose_spec hI9) (σ := {q : Zd × Gz // q.1.length = A.length}) (fun k s => s.1.1 ++ [.dead, gaB s.1.2, .dead, k]) ⟨(A, 0), rfl⟩ (fun k => by simp; rfl) (fun k s => by simp [s.2]) (fun k s => by rw [show (A ++ _ : Zd).length = A.length + 3 by simp]; exact Zz s.2 rfl) (fun k k1 s => by rw [show (A ++ _ : Zd).length = A.length + 3 by simp]; exact ZG s.2) (fun s => s.1.2) (fun d s => ⟨(s.1.1, s.1.2 + d), s.2⟩) (fun pre s => ∃ z, tv (ptT (kpB (wsP p) (rssP p)) (kpG p.users.toNat (wsP p) (rssP p)) (wsP p).length [] 0) = pre ++ tv (z, (ptT (kpB (wsP p) (rssP p)) (kpG p.users.toNat (wsP p) (rssP p)) (wsP p).length [] 0).2) ∧ (∀ q, q ∈ z → Pat q.2 ∧ q.2.length = (wsP p).length) ∧ IterJ (psys x) l ((z.map Prod.snd).map (fvP p)) s.1.1 K) (fun k s pre hI => by exact Zz s.2 rfl) (fun k s d pre hI => by exact ZG s.2) ?_ (fun j pre c s => (j = Code.ret ∧ (K false s.1.1))) rfl ?_ ?_ ?_
 ·exact ⟨(ptT (kpB (wsP p) (rssP p)) (kpG p.users.toNat (wsP p) (rssP p)) (wsP p).length [] 0).1, rfl, hT, hI⟩
 ·intro pre d c post s hx hI Lp kr kb hkr hkb
  obtain ⟨⟨A0, g0⟩, hA0⟩ := s
  try dsimp only at hI ⊢
  have hA0 : A0.length = A.length := hA0
  obtain ⟨z, hz, hzl, hI⟩ := hI
  obtain ⟨a, z, rfl, rfl⟩ : ∃ us z1, z = (d, us) :: z1 ∧ c = fzN us := tv_cons (List.append_cancel_left (hz.symm.trans hx))
  obtain ⟨hpa, hal⟩ := hzl _ (List.mem_cons_self ..)
  have hal : a.length = (wsP p).length := hal; have hpa : Pat a := hpa
  refine Z6 (env' := u22) rfl ?_
  refine Za ?_
  refine Lo u22 (Zb (.inr rfl) rfl) ?_
  refine Zf ?_
  refine ⟨rfl, ⟨(A0, g0 + d), hA0⟩, rfl, ?_⟩
  try dsimp only
  refine B_heap (H' := A0 ++ ([.dead, gaB (g0 + d), .dead, kb] ++ Lp)) (by simp) ?_
  refine Zn (Ze ?_)
  refine B_drawP #[0, 0, 0, 0, 12, 31, 63] XH5 ?_
  refine P_seg [0, 1, 2, 3, 4] (bef := #[0, 0, 0, 0, 12, 31, 63]) XH5 XH5 XH5 ?_
  refine Ym (env' := u22) (x := .look _ _) rfl rfl rfl (W3p rfl rfl rfl rfl) rfl rfl rfl ?_
  refine Oo u22 .calm rfl (Zb (.inl rfl) rfl) ?_
  refine Oo u22 .look rfl (W3p rfl rfl rfl rfl) ?_
  refine Oo u22 .calm rfl (Zb (.inl rfl) rfl) ?_
  refine Ye (env' := u22) rfl rfl rfl rfl rfl (by exact hBlocks_spec _ _ _ hpa (by omega) hn) XH10 rfl rfl ?_
  refine Yf [_] (by rfl) (And.intro (And.intro (W3p rfl rfl rfl rfl) (W3p rfl rfl rfl rfl)) trivial) ?_
  refine P_piv 5 (bef := #[0, 0, 0, 0, 12, 31, 63]) XH5 XH5 rfl rfl rfl rfl (by exact hI _) ?_
  rintro _ _ ⟨b1, A2, J2, rfl, rfl, hA2, hk⟩; have hA3 : A2.length = A.length := hA2.trans hA0
  refine P_env (env' := u22) rfl ?_
  refine P_seg [6] (bef := #[0, 0, 0, 0, 12, 31, 63]) XH5 XH5 XH5 ?_
  refine Oo u22 .calm rfl (rfl) ?_
  refine Yf [] XH5 (trivial) ?_
  refine P_end XH5 ?_
  refine Zc ?_
  refine Zk _ rfl (fun hc1 => ?_) (fun hc1 => ?_)
  ·try simp only [qB, qN] at hc1
   have hb : b1 = false := by simpa using hc1
   subst hb
   have hk3 : K false A2 := hk
   refine Zi (ZW ?_)
   refine ⟨⟨(A2, g0 + d), hA3⟩, J2, (by simp), .inr ⟨Code.ret, rfl, ⟨rfl, ?_⟩⟩⟩
   exact hk3
  ·try simp only [qB, qN] at hc1
   have hb : b1 = true := by simpa using hc1
   subst hb
   have hk3 : IterJ (psys x) l ((z.map Prod.snd).map (fvP p)) A2 K := hk
   refine Zl (Zx ?_)
   refine ⟨⟨(A2, g0 + d), hA3⟩, J2, (by simp), .inl ⟨rfl, ?_⟩⟩
   exact ⟨z, by rw [hz, List.append_assoc]; rfl, fun q hq => hzl q (List.mem_cons_of_mem _ hq), hk3⟩
 ·intro s k hk hI J9
  obtain ⟨⟨A0, g0⟩, hA0⟩ := s
  try dsimp only at hI ⊢
  obtain ⟨z, hz, hzl, hI⟩ := hI
  obtain rfl := tv_nil hz
  have hI : K true A0 := hI
  refine Zx ?_
  refine E_keep (.inl rfl) (vres_none rfl) ?_
  exact W3x
 ·rintro j pre c post s k hk hx (⟨rfl, hX⟩) J9
  obtain ⟨⟨A0, g0⟩, hA0⟩ := s
  try dsimp only
  refine J_ret ?_
  refine ZW ?_
  refine E_keep (.inr rfl) (vres_none rfl) ?_
  exact W3x
theorem tpat1_spec {x : SW} (l : Nat) (p : Pb) (hpl : PbL p) (A : Zd) (K : Bool → Zd → Prop) (hI : IterJ (psys x) l ((ptP p).map (fvP p)) A K) : F (psys x) 92 [.yield l, .fptr (pbB p) 0] A fun v G => ∃ b A1 J, G = A1 ++ J ∧ K b A1 := by
  by_cases h : pck p = 0
  · exact tpat1_ok l p hpl A K hI h
  · exact tpat1_bad l p hpl A K hI h
theorem tpat_spec {x : SW} (H : Zd) (p : Pb) : F (psys x) 57 [.agg (pbB p)] H fun v G => v = .func 92 [] [.fptr (pbB p) 0] ∧ G = H := by
 refine Zs Tryd.func57 rfl u4 rfl ?_
 refine Ze (Za ?_)
 refine Lo u4 (ZI rfl rfl rfl) ?_
 refine Lo u4 (Zg (VVal.nilFunc) (.inr rfl) rfl) ?_
 refine Zf (Zc (Ze (Za ?_)))
 refine L_gh (Gh.freezePtrL (cs := pbB p) 1 0 rfl rfl rfl) ?_
 refine Lo u4 (v_func [_] rfl rfl) ?_
 refine Lo u4 (Zb (.inr rfl) rfl) ?_
 refine Zf (Zc (Zi ?_))
 refine W3y (.inr rfl) (Zh rfl rfl) ?_
 exact ⟨rfl, rfl⟩
abbrev u62 {a0 a1 a2 a3 a4 a5 a6 a7 a8 a9 a10 a11 a12 a13 a14 a15 a16 a17 a18 a19 a20 a21 a22 a23 a24 a25 a26 a27 a28 a29 a30 a31 a32 a33 a34 a35 a36 a37 a38 a39 a40 a41 a42 a43 a44 a45 a46 a47 a48 a49 a50 a51 a52 a53 a54 a55 a56 a57 a58 a59 a60 a61 : VVal} : VEnv := a0 :: a1 :: a2 :: a3 :: a4 :: a5 :: a6 :: a7 :: a8 :: a9 :: a10 :: a11 :: a12 :: a13 :: a14 :: a15 :: a16 :: a17 :: a18 :: a19 :: a20 :: a21 :: a22 :: a23 :: a24 :: a25 :: a26 :: a27 :: a28 :: a29 :: a30 :: a31 :: a32 :: a33 :: a34 :: a35 :: a36 :: a37 :: a38 :: a39 :: a40 :: a41 :: a42 :: a43 :: a44 :: a45 :: a46 :: a47 :: a48 :: a49 :: a50 :: a51 :: a52 :: a53 :: a54 :: a55 :: a56 :: a57 :: a58 :: a59 :: a60 :: a61 :: []
namespace MM
theorem Yl (n : Nat) (l : List (BitVec 64)) : (fzW l).under n = true := VVal.underL_map fun _ => rfl
theorem Ys (n : Nat) (l : List (BitVec 64)) : VVal.underL n (l.map iW) = true := VVal.underL_map fun _ => rfl
theorem mapI_under (n : Nat) (l : List Int) : VVal.underL n (l.map iI) = true := VVal.underL_map fun _ => rfl
theorem mapW_one (l : List (BitVec 64)) : (l.map iW).all VVal.one = true := by rw [List.all_map]; exact List.all_eq_true.2 fun _ _ => rfl
theorem mapW_all {l : List (BitVec 64)} : Zp (l.map iW) 0 (l.length * 1) = some (l.map iW) := by
  unfold Zp; rw [if_pos XH17, List.drop_zero, List.take_of_length_le XH17]
theorem YK {L : Zd} {p : Nat} {k : VBlk} (h : L[p]? = some k) : L = L.set p k := by
  apply List.ext_getElem?
  intro i
  rw [List.getElem?_set]
  by_cases e : p = i
  · subst e; rw [h]; rw [if_pos rfl, if_pos (List.getElem?_eq_some_iff.1 h).1]
  · rw [if_neg e]
section
variable {T : TypeId → Option VTy} {ρ : Operand → VVal} {H : Zd} {op : Op}
theorem v_eqNilF {t : TypeId} {x y : Operand} {ty : TypeId} {cs : List VVal} {len es : Nat} {ex : Bool} {i : VTy} {e : TypeId} (ho : op = .binOp .eql t x y ty) (hx : ρ x = .fsl cs len es ex) (hy : ρ y = .slice none 0 0 true 0) (hT : T t = some i) (hd : i.desc = .slice e) (hl : len ≠ 0) : vop T ρ H op = some (.bool false, H) := by
  rw [ho]; simp [vop, vbin, hx, hy, veq, hT, hd, hl]
theorem v_wHi {t e : TypeId} {x hi : Operand} {y z : VTy} {l : List (BitVec 64)} {k : Nat} {kd : IntKind} (ho : op = .slice t x none (some hi) none) (hy : T t = some y) (hd : y.desc = .slice e) (hz : T e = some z) (hs : z.size = 1) (hx : ρ x = fzW l) (hh : ρ hi = .int kd (k : Nat)) (hk : k ≤ l.length) : vop T ρ H op = some (fzW (l.take k), H) := by
  rw [v_sliceHi ho hy hd hz hs hx hh hk XH17]
  simp [fzW, Nat.min_eq_left hk, List.map_take]
end
abbrev mtB (rows : List (BitVec 64)) (O : List Int) : VBlk := .cells (fzW rows :: O.map iI) true
abbrev seB (w : BitVec 64) : VBlk := .cells [iW w] true
def mtH (H : Zd) (p q : Nat) (rows : List (BitVec 64)) (s : GSt) : Zd := (H.set p (mtB rows s.1)).set q (seB s.2)
section
variable {H L : Zd} {p q : Nat} {rows : List (BitVec 64)} {s : GSt}
theorem mtH_len {n : Nat} (h : H.length = n) : (mtH H p q rows s).length = n := by unfold mtH; rw [List.length_set, List.length_set]; exact h
theorem mtH_id {O : List Int} {w : BitVec 64} (hp : H[p]? = some (mtB rows O)) (hq : H[q]? = some (seB w)) : mtH H p q rows (O, w) = H := by
  unfold mtH; rw [← YK hp, ← YK hq]
theorem mt_q (hq : q < H.length) : (mtH H p q rows s ++ L)[q]? = some (seB s.2) := by
  unfold mtH; exact Zr (List.getElem?_set_self (by rw [List.length_set]; exact hq))
theorem mt_p (hp : p < H.length) (hpq : p ≠ q) : (mtH H p q rows s ++ L)[p]? = some (mtB rows s.1) := by
  unfold mtH; exact Zr (by rw [List.getElem?_set_ne (Ne.symm hpq)]; exact List.getElem?_set_self hp)
theorem mt_setq {w : BitVec 64} (hq : q < H.length) : (mtH H p q rows s ++ L).set q (seB w) = mtH H p q rows (s.1, w) ++ L := by
  rw [Yo (by rw [mtH_len rfl]; exact hq)]; unfold mtH; rw [List.set_set]
theorem mt_setp0 {k : VBlk} (hp : p < H.length) (hpq : p ≠ q) : (mtH H p q rows s ++ L).set p k = (H.set p k).set q (seB s.2) ++ L := by
  rw [Yo (by rw [mtH_len rfl]; exact hp)]; unfold mtH
  rw [List.set_comm _ _ (Ne.symm hpq), List.set_set]
theorem mt_setp {u : Int} {r : Int} (hp : p < H.length) (hpq : p ≠ q) (hu : u.toNat < s.1.length) : (mtH H p q rows s ++ L).set p (.cells (Zu (fzW rows :: s.1.map iI) (0 + 1 + u.toNat * 1) [iI r]) true) = mtH H p q rows (s.1.set u.toNat r, s.2) ++ L := by
  have : Zu (fzW rows :: s.1.map iI) (0 + 1 + u.toNat * 1) [iI r] = fzW rows :: (s.1.set u.toNat r).map iI := by
    rw [show 0 + 1 + u.toNat * 1 = u.toNat + 1 by omega]
    unfold Zu
    rw [List.map_set, List.set_eq_take_append_cons_drop, if_pos (by rw [List.length_map]; exact hu)]; simp
  rw [this, mt_setp0 hp hpq]; rfl
theorem mt_mt {t : GSt} (hp : p < H.length) (hq : q < H.length) (hpq : p ≠ q) : mtH (mtH H p q rows s ++ L) p q rows t = mtH H p q rows t ++ L := by
  have : mtH (mtH H p q rows s ++ L) p q rows t = ((mtH H p q rows s ++ L).set p (mtB rows t.1)).set q (seB t.2) := rfl
  rw [this, mt_setp0 hp hpq, Yo (by simp; exact hq), List.set_set]; rfl
theorem mt_len6 {u : Int} {v : VVal} (h : u.toNat < s.1.length) : 0 + 1 + u.toNat * 1 + [v].length ≤ (fzW rows :: s.1.map iI).length := by
  show 0 + 1 + u.toNat * 1 + 1 ≤ (s.1.map iI).length + 1
  rw [List.length_map]; omega
theorem not_of_f {b : Bool} (h : b = false) : ¬ b = true := by rw [h]; decide
theorem mt_base (hl : True) : BaseOk H (mtH H p q rows s) := BaseOk.set (BaseOk.set (BaseOk.refl _) _ (by show VVal.underL _ (fzW rows :: s.1.map iI) = true; simp [VVal.underL, Yl, mapI_under])) _ rfl
theorem own_cell {u : Int} (h : 0 ≤ u ∧ u < s.1.length) : (fzW rows :: s.1.map iI)[0 + 1 + u.toNat * 1]? = some (iI (s.1.getD u.toNat 0)) := by
  rw [show 0 + 1 + u.toNat * 1 = u.toNat + 1 by omega, List.getElem?_cons_succ]
  have : u.toNat < s.1.length := by omega
  simp [List.getElem?_eq_getElem this]
end
theorem mset_spec {x : SW} (H : Zd) (w : BitVec 64) : F (psys x) 100 [iW w] H fun v G => v = .agg [iW w] ∧ G = H := by
  refine Zs Tryd.func100 rfl u6 rfl ?_
  refine Ze (Za ?_)
  refine Zm (env' := u6) rfl rfl (ZF rfl rfl) rfl ?_
  refine Zf (Zc (Ze (Za ?_)))
  refine Zm (env' := u6) rfl rfl (rfl) rfl ?_
  refine Zm (env' := u6) rfl rfl (Zb (.inl rfl) rfl) rfl ?_
  refine Zt rfl rfl rfl (by exact Of_spec _ 0#64 _) ?_
  rintro _ _ ⟨rfl, rfl⟩
  refine L_env (env' := u6) rfl ?_
  refine Zm (env' := u6) rfl rfl (Z4 rfl rfl rfl rfl rfl rfl rfl XH7 XH6 XH18) rfl ?_
  refine Zf (Zc (Zi ?_))
  refine YE (.inr rfl) (YH rfl rfl rfl rfl XH7 XH4) XH11 XH15 ?_
  exact ⟨rfl, rfl⟩
theorem fits_spec {x : SW} (H : Zd) (l : List (BitVec 64)) : F (psys x) 93 [fzW l] H fun v G => v = .bool (decide ((l.length : Int) ≤ 12)) ∧ G = H := by
  refine Zs Tryd.func93 rfl u6 rfl ?_
  refine Ze (Za ?_)
  refine Zm (env' := u6) rfl rfl (Zg (VVal.bool false) (.inr rfl) rfl) rfl ?_
  refine Zf (Zc (Ze (Za ?_)))
  refine Zm (env' := u6) rfl rfl (Zb (.inl rfl) rfl) rfl ?_
  refine Zm (env' := u6) rfl rfl (rfl) rfl ?_
  refine Zm (env' := u6) rfl rfl (rfl) rfl ?_
  refine Zm (env' := u6) rfl rfl (Zb (.inr rfl) rfl) rfl ?_
  refine Zf (Zc (Zi ?_))
  refine YE (.inr rfl) (Zh rfl rfl) XH11 XH15 ?_
  exact ⟨rfl, rfl⟩
theorem grow_in {x : SW} {p q n : Nat} {rows : List (BitVec 64)} (hpq : p ≠ q) (ih : ∀ (H : Zd) (row : Int) (O : List Int) (S : BitVec 64), H[p]? = some (mtB rows O) → H[q]? = some (seB S) → 0 ≤ row → row < rows.length → Gok rows O → 64 - Yu 64 S < n → F (psys x) 150 [.ptr (some (p, 0)), iI row, .ptr (some (q, 0))] H fun v G => v = .bool (grw rows n row (O, S)).1 ∧ G = mtH H p q rows (grw rows n row (O, S)).2) (H L : Zd) (s : GSt) (hp : p < H.length) (hq : q < H.length) (row : Int) (h0 : 0 ≤ row) (h1 : row < rows.length) (hk : Gok rows s.1) (hm : 64 - Yu 64 s.2 < n) :
    F (psys x) 150 [.ptr (some (p, 0)), iI row, .ptr (some (q, 0))] (mtH H p q rows s ++ L) fun v G => v = .bool (grw rows n row s).1 ∧ G = mtH H p q rows (grw rows n row s).2 ++ L := by
  have := ih (mtH H p q rows s ++ L) row s.1 s.2 (mt_p hp hpq) (mt_q hq) h0 h1 hk hm
  rw [mt_mt hp hq hpq] at this
  exact this
theorem grow_s {x : SW} (p q n : Nat) (rows : List (BitVec 64)) (hpq : p ≠ q) (ih : ∀ (H : Zd) (row : Int) (O : List Int) (S : BitVec 64), H[p]? = some (mtB rows O) → H[q]? = some (seB S) → 0 ≤ row → row < rows.length → Gok rows O → 64 - Yu 64 S < n → F (psys x) 150 [.ptr (some (p, 0)), iI row, .ptr (some (q, 0))] H fun v G => v = .bool (grw rows n row (O, S)).1 ∧ G = mtH H p q rows (grw rows n row (O, S)).2) (H : Zd) (row : Int) (O : List Int) (S : BitVec 64) (hp : H[p]? = some (mtB rows O)) (hq : H[q]? = some (seB S)) (h0 : 0 ≤ row) (h1 : row < rows.length) (hO : Gok rows O) (hm : 64 - Yu 64 S < n + 1) (h62 : rows.length < 4611686018427387904) : F (psys x) 150 [.ptr (some (p, 0)), iI row, .ptr (some (q, 0))] H fun v G => v = .bool (grw rows (n + 1) row (O, S)).1 ∧ G = mtH H p q rows (grw rows (n + 1) row (O, S)).2 := by
  have hpH := ZQ hp
  have hqH := ZQ hq
  refine Zs Tryd.func150 rfl u62 rfl ?_
  refine Ze (Za ?_)
  refine Zm (env' := u62) rfl rfl (ZI rfl rfl rfl) rfl ?_
  refine Zm (env' := u62) rfl rfl (ZI rfl rfl rfl) rfl ?_
  refine Zm (env' := u62) rfl rfl (ZI rfl rfl rfl) rfl ?_
  refine Zm (env' := u62) rfl rfl (ZF rfl rfl) rfl ?_
  refine Zf (Zc (Ze (Ze ?_)))
  refine ZY [0, 1, 2, 3, 4, 5, 6, 7, 8, 9, 10, 11, 12] #[0, 1, 3, 7, 0, 31, 63, 0, 128, 384, 1023, 2047, 4095] XH5 XH5 XH5 ?_
  refine ZT (env' := u62) (c := .look) rfl rfl rfl XH3 rfl rfl rfl ?_
  refine ZT (env' := u62) (c := .calm) rfl rfl rfl (rfl) rfl rfl rfl ?_
  refine ZT (env' := u62) (c := .calm) rfl rfl rfl (rfl) rfl rfl rfl ?_
  refine ZT (env' := u62) (c := .look) rfl rfl rfl XH3 rfl rfl rfl ?_
  refine ZT (env' := u62) (c := .look) rfl rfl rfl XH3 rfl rfl rfl ?_
  refine ZT (env' := u62) (c := .calm) rfl rfl rfl XH34 rfl rfl rfl ?_
  refine ZT (env' := u62) (c := .look) rfl rfl rfl XH3 rfl rfl rfl ?_
  refine ZT (env' := u62) (c := .look) rfl rfl rfl XH3 rfl rfl rfl ?_
  refine ZT (env' := u62) (c := .calm) rfl rfl rfl (rfl) rfl rfl rfl ?_
  refine ZT (env' := u62) (c := .look) rfl rfl rfl XH3 rfl rfl rfl ?_
  refine ZT (env' := u62) (c := .calm) rfl rfl rfl (v_andNotW rfl rfl rfl) rfl rfl rfl ?_
  refine Ye (env' := u62) rfl rfl rfl rfl rfl (by exact mset_spec _ _) XH21 rfl rfl ?_
  refine Ye (env' := u62) rfl rfl rfl rfl rfl (by exact All_spec _ _) XH21 rfl rfl ?_
  refine Yf [] XH5 (trivial) ?_
  refine Zc (Zn ?_)
  refine ZB (true :: true :: true :: false :: false :: false :: false :: true :: true :: true :: true :: true :: true :: true :: true :: true :: true :: true :: true :: true :: false :: true :: true :: true :: true :: true :: true :: true :: true :: true :: true :: true :: true :: true :: true :: true :: true :: true :: true :: true :: true :: true :: true :: true :: true :: true :: true :: true :: true :: true :: true :: true :: true :: true :: true :: true :: true :: true :: true :: true :: true :: true :: []) (env' := u62) rfl ?_
  refine B_rangeM cI (pl (rows.getD row.toNat 0 &&& ~~~S) 0) (fun l0 h => by cases h) rfl (fun l G R h => All1_spec _ _ _ _ h) (σ := GSt × Bool) (fun k s => mtH H p q rows s.1 ++ [.cells [.ptr (some (p, 0))] true, .cells [iI row] true, .cells [.ptr (some (q, 0))] true, .cells [.bool s.2] true, k]) ((O, S), false) (fun k => by show _ = mtH H p q rows (O, S) ++ _; rw [mtH_id hp hq, List.append_assoc]; rfl) (fun k s => by rw [List.length_append]; exact Zz (mtH_len rfl) rfl) (fun k k1 s => by rw [List.length_append]; exact ZG (mtH_len rfl)) (fun pre s => ∃ z, (pl (rows.getD row.toNat 0 &&& ~~~S) 0) = pre ++ z ∧ grL (grw rows n) row (pl (rows.getD row.toNat 0 &&& ~~~S) 0) (O, S) = grL (grw rows n) row z s.1 ∧ s.1.1 = O ∧ 64 - Yu 64 s.1.2 ≤ n ∧ s.2 = false) ?_ (fun j pre c s => (j = Code.ret ∧ (grL (grw rows n) row (pl (rows.getD row.toNat 0 &&& ~~~S) 0) (O, S) = (true, s.1) ∧ s.2 = true))) rfl ?_ ?_ ?_
  · exact ⟨_, rfl, rfl, rfl, by show 64 - Yu 64 S ≤ n; omega, rfl⟩
  · intro pre c post s hx hI kr kb hkr hkb
    obtain ⟨s1, res⟩ := s
    try dsimp only at hI ⊢
    obtain ⟨z, hz, hg, hO1, hcm, hres⟩ := hI
    have hres : res = false := hres
    subst hres
    obtain rfl : z = c :: post := List.append_cancel_left (hz.symm.trans hx)
    have hO1 : s1.1 = O := hO1
    have hcm : 64 - Yu 64 s1.2 ≤ n := hcm
    have hg : grL (grw rows n) row (pl (rows.getD row.toNat 0 &&& ~~~S) 0) (O, S) = grL (grw rows n) row (c :: post) s1 := hg
    have hcx : c ∈ (pl (rows.getD row.toNat 0 &&& ~~~S) 0) := by rw [hx]; simp
    obtain ⟨_, hc64, _⟩ := mem_pl.1 hcx
    have hk1 : Gok rows s1.1 := by rw [hO1]; exact hO
    have hl1 : s1.1.length = 64 := hk1.len
    have hnn1 := hk1.nn c hc64
    refine Z6 (env' := u62) rfl ?_
    refine Za ?_
    refine Zm (env' := u62) rfl rfl (Zb (.inr rfl) rfl) rfl ?_
    refine Zf ?_
    refine ⟨rfl, (s1, false), rfl, ?_⟩
    try dsimp only
    refine Zn (Ze (Ze (Za ?_)))
    refine Zm (env' := u62) rfl rfl XH3 rfl ?_
    refine Zm (env' := u62) rfl rfl (rfl) rfl ?_
    refine Zm (env' := u62) rfl rfl XH3 rfl ?_
    refine Zm (env' := u62) rfl rfl (Zb (.inl rfl) rfl) rfl ?_
    refine Zm (env' := u62) rfl rfl (v_shrW rfl rfl rfl XH1) rfl ?_
    refine Zm (env' := u62) rfl rfl (v_andW (b := 1#64) rfl rfl rfl) rfl ?_
    refine Zm (env' := u62) rfl rfl (rfl) rfl ?_
    refine Zf (Zc ?_)
    refine Zk _ rfl (fun hc1 => ?_) (fun hc1 => ?_)
    · try simp only [decide_eq_true_eq, decide_eq_false_iff_not, Bool.not_eq_true', Bool.not_eq_false', bne_iff_ne, beq_iff_eq, Bool.and_eq_true, Bool.or_eq_true, Bool.not_eq_true, ge_iff_le, gt_iff_lt, Int.not_le, Int.not_lt, beq_eq_false_iff_ne, bne_eq_false_iff_eq, ne_eq, Decidable.not_not, ZJ, ZZ, ZV] at hc1
      refine ZM (ZP (ZL ?_))
      have hseen : s1.2.getLsbD c = true := sh1.1 (by assumption)
      refine ⟨(s1, false), rfl, .inl ⟨rfl, ?_⟩⟩
      exact ⟨post, by rw [hx, List.append_assoc]; rfl, by rw [hg, grL, if_pos hseen], hO1, hcm, rfl⟩
    · try simp only [decide_eq_true_eq, decide_eq_false_iff_not, Bool.not_eq_true', Bool.not_eq_false', bne_iff_ne, beq_iff_eq, Bool.and_eq_true, Bool.or_eq_true, Bool.not_eq_true, ge_iff_le, gt_iff_lt, Int.not_le, Int.not_lt, beq_eq_false_iff_ne, bne_eq_false_iff_eq, ne_eq, Decidable.not_not, ZJ, ZZ, ZV] at hc1
      refine Zl (Zc (Ze ?_))
      refine ZY [0, 1, 2, 3, 4, 5, 6, 7] #[0, 1, 3, 0, 8, 31, 63, 127] XH5 XH5 XH5 ?_
      have hnseen : ¬ s1.2.getLsbD c = true := fun e => absurd (sh1.2 e) (by assumption)
      have hcg := come_grow (s := s1.2) (t := s1.2 ||| 1#64 <<< c) (fun a ha => (or1 hc64).2 (.inl ha)) ⟨c, (or1 hc64).2 (.inr rfl), bool_f hnseen⟩
      have hcl := come_le (s1.2 ||| 1#64 <<< c)
      refine ZT (env' := u62) (c := .look) rfl rfl rfl XH3 rfl rfl rfl ?_
      refine ZT (env' := u62) (c := .calm) rfl rfl rfl (rfl) rfl rfl rfl ?_
      refine ZT (env' := u62) (c := .look) rfl rfl rfl XH3 rfl rfl rfl ?_
      refine ZT (env' := u62) (c := .calm) rfl rfl rfl (Zb (.inl rfl) rfl) rfl rfl rfl ?_
      refine ZT (env' := u62) (c := .calm) rfl rfl rfl (v_shl1 rfl rfl rfl XH1) rfl rfl rfl ?_
      refine ZT (env' := u62) (c := .calm) rfl rfl rfl (v_orW rfl rfl rfl) rfl rfl rfl ?_
      refine ZT (env' := u62) (c := .calm) rfl rfl rfl (rfl) rfl rfl rfl ?_
      refine ZT (env' := u62) (c := .turn) rfl rfl rfl (Z4 rfl rfl rfl rfl rfl rfl rfl XH33 XH6 (by exact mt_setq hqH)) rfl rfl rfl ?_
      refine Yf [] XH5 (trivial) ?_
      refine Zc (Ze ?_)
      refine ZY [0, 1, 2, 3, 4, 5, 6, 7, 8, 9, 10, 11, 12, 13, 14, 15, 16, 17, 18] #[0, 0, 1, 5, 15, 31, 63, 127, 255, 255, 255, 767, 2815, 7935, 16127, 32511, 255, 131071, 262143] XH5 XH5 XH5 ?_
      refine ZT (env' := u62) (c := .look) rfl rfl rfl XH9 rfl rfl rfl ?_
      refine ZT (env' := u62) (c := .calm) rfl rfl rfl (Zb (.inl rfl) rfl) rfl rfl rfl ?_
      refine ZT (env' := u62) (c := .calm) rfl rfl rfl (rfl) rfl rfl rfl ?_
      refine ZT (env' := u62) (c := .calm) rfl rfl rfl (rfl) rfl rfl rfl ?_
      refine ZT (env' := u62) (c := .calm) rfl rfl rfl XH32 rfl rfl rfl ?_
      refine ZT (env' := u62) (c := .look) rfl rfl rfl XH16 rfl rfl rfl ?_
      refine ZT (env' := u62) (c := .calm) rfl rfl rfl (rfl) rfl rfl rfl ?_
      refine ZT (env' := u62) (c := .calm) rfl rfl rfl (Zb (.inl rfl) rfl) rfl rfl rfl ?_
      refine O_split 43 (env1 := u62) (env2 := u62) rfl rfl rfl (fun hg2 => ?_) (fun hg2 => ?_)
      · try simp only [decide_eq_true_eq, decide_eq_false_iff_not, Bool.not_eq_true', Bool.not_eq_false', bne_iff_ne, beq_iff_eq, Bool.and_eq_true, Bool.or_eq_true, Bool.not_eq_true, ge_iff_le, gt_iff_lt, Int.not_le, Int.not_lt, beq_eq_false_iff_ne, bne_eq_false_iff_eq, ne_eq, Decidable.not_not, ZJ, ZZ, ZV] at hg2
        refine O_off (env' := u62) rfl rfl rfl rfl ?_
        refine O_off (env' := u62) rfl rfl rfl rfl ?_
        refine O_off (env' := u62) rfl rfl rfl rfl ?_
        refine O_off (env' := u62) rfl rfl rfl rfl ?_
        refine O_off (env' := u62) rfl rfl rfl rfl ?_
        refine O_off (env' := u62) rfl rfl rfl rfl ?_
        refine O_off (env' := u62) rfl rfl rfl rfl ?_
        refine O_off (env' := u62) rfl rfl rfl rfl ?_
        refine O_off (env' := u62) rfl rfl rfl rfl ?_
        refine O_off (env' := u62) rfl rfl rfl rfl ?_
        refine ZT (env' := u62) (c := .calm) rfl rfl rfl (Z8 (VVal.bool true) rfl rfl rfl) rfl rfl rfl ?_
        refine Yf [] XH5 (trivial) ?_
        refine Zc ?_
        refine ZX rfl rfl ?_
        refine Ze ?_
        refine ZY [0, 1, 2, 3, 4, 5, 6, 7] #[0, 0, 0, 4, 1, 17, 63, 127] XH5 XH5 XH5 ?_
        refine ZT (env' := u62) (c := .look) rfl rfl rfl XH9 rfl rfl rfl ?_
        refine ZT (env' := u62) (c := .calm) rfl rfl rfl (Zb (.inl rfl) rfl) rfl rfl rfl ?_
        refine ZT (env' := u62) (c := .look) rfl rfl rfl XH9 rfl rfl rfl ?_
        refine ZT (env' := u62) (c := .calm) rfl rfl rfl (v_addI rfl rfl rfl XH1) rfl rfl rfl ?_
        refine ZT (env' := u62) (c := .calm) rfl rfl rfl (rfl) rfl rfl rfl ?_
        refine ZT (env' := u62) (c := .calm) rfl rfl rfl (rfl) rfl rfl rfl ?_
        refine ZT (env' := u62) (c := .calm) rfl rfl rfl XH32 rfl rfl rfl ?_
        refine ZT (env' := u62) (c := .turn) rfl rfl rfl (Z4 rfl rfl rfl rfl rfl rfl rfl XH33 XH30 XH31) rfl rfl rfl ?_
        refine Yf [] XH5 (trivial) ?_
        refine Zc (Ze (Za ?_))
        refine Zm (env' := u62) rfl rfl (YJ (VVal.bool true) rfl rfl rfl rfl rfl rfl rfl XH33 XH6 (by exact ZG (mtH_len rfl))) rfl ?_
        refine Zf (Zc (Zi (ZW ?_)))
        refine ⟨(_, true), rfl, .inr ⟨Code.ret, rfl, ⟨rfl, ?_⟩⟩⟩
        first
          | exact ⟨by rw [hg, grL, if_neg hnseen, if_pos (by assumption)]; rfl, rfl⟩
          | exact ⟨by rw [hg, grL, if_neg hnseen, if_neg hno, if_pos (by assumption)]; rfl, rfl⟩
      · try simp only [decide_eq_true_eq, decide_eq_false_iff_not, Bool.not_eq_true', Bool.not_eq_false', bne_iff_ne, beq_iff_eq, Bool.and_eq_true, Bool.or_eq_true, Bool.not_eq_true, ge_iff_le, gt_iff_lt, Int.not_le, Int.not_lt, beq_eq_false_iff_ne, bne_eq_false_iff_eq, ne_eq, Decidable.not_not, ZJ, ZZ, ZV] at hg2
        have hno : ¬ s1.1.getD c 0 = 0 := by assumption
        have hgr := grw_ok (rows := rows) (n := n) (row := s1.1.getD c 0 - 1) (s := (s1.1, s1.2 ||| 1#64 <<< c)) (by omega) (by omega) hk1 XH29
        refine ZT (env' := u62) (c := .look) rfl rfl rfl XH9 rfl rfl rfl ?_
        refine ZT (env' := u62) (c := .look) rfl rfl rfl XH9 rfl rfl rfl ?_
        refine ZT (env' := u62) (c := .calm) rfl rfl rfl (Zb (.inl rfl) rfl) rfl rfl rfl ?_
        refine ZT (env' := u62) (c := .calm) rfl rfl rfl (rfl) rfl rfl rfl ?_
        refine ZT (env' := u62) (c := .calm) rfl rfl rfl (rfl) rfl rfl rfl ?_
        refine ZT (env' := u62) (c := .calm) rfl rfl rfl XH32 rfl rfl rfl ?_
        refine ZT (env' := u62) (c := .look) rfl rfl rfl XH16 rfl rfl rfl ?_
        refine ZT (env' := u62) (c := .calm) rfl rfl rfl (v_subI rfl rfl rfl XH1) rfl rfl rfl ?_
        refine ZT (env' := u62) (c := .look) rfl rfl rfl XH9 rfl rfl rfl ?_
        refine Ye (env' := u62) rfl rfl rfl rfl rfl (by exact grow_in hpq ih H _ (s1.1, s1.2 ||| 1#64 <<< c) hpH hqH _ (show (0 : Int) ≤ s1.1.getD c 0 - 1 by omega) (show s1.1.getD c 0 - 1 < (rows.length : Int) by omega) hk1 XH29) XH21 rfl rfl ?_
        refine ZT (env' := u62) (c := .calm) rfl rfl rfl (Yz rfl rfl rfl) rfl rfl rfl ?_
        refine Yf [] XH5 (trivial) ?_
        refine Zc ?_
        refine Zk _ rfl (fun hc3 => ?_) (fun hc3 => ?_)
        · try simp only [decide_eq_true_eq, decide_eq_false_iff_not, Bool.not_eq_true', Bool.not_eq_false', bne_iff_ne, beq_iff_eq, Bool.and_eq_true, Bool.or_eq_true, Bool.not_eq_true, ge_iff_le, gt_iff_lt, Int.not_le, Int.not_lt, beq_eq_false_iff_ne, bne_eq_false_iff_eq, ne_eq, Decidable.not_not, ZJ, ZZ, ZV] at hc3
          refine Ze ?_
          refine ZY [0, 1, 2, 3, 4, 5, 6, 7] #[0, 0, 0, 4, 1, 17, 63, 127] XH5 XH5 XH5 ?_
          refine ZT (env' := u62) (c := .look) rfl rfl rfl XH9 rfl rfl rfl ?_
          refine ZT (env' := u62) (c := .calm) rfl rfl rfl (Zb (.inl rfl) rfl) rfl rfl rfl ?_
          refine ZT (env' := u62) (c := .look) rfl rfl rfl XH9 rfl rfl rfl ?_
          refine ZT (env' := u62) (c := .calm) rfl rfl rfl (v_addI rfl rfl rfl XH1) rfl rfl rfl ?_
          refine ZT (env' := u62) (c := .calm) rfl rfl rfl (rfl) rfl rfl rfl ?_
          refine ZT (env' := u62) (c := .calm) rfl rfl rfl (rfl) rfl rfl rfl ?_
          refine ZT (env' := u62) (c := .calm) rfl rfl rfl XH32 rfl rfl rfl ?_
          refine ZT (env' := u62) (c := .turn) rfl rfl rfl (Z4 rfl rfl rfl rfl rfl rfl rfl XH33 XH30 XH31) rfl rfl rfl ?_
          refine Yf [] XH5 (trivial) ?_
          refine Zc (Ze (Za ?_))
          refine Zm (env' := u62) rfl rfl (YJ (VVal.bool true) rfl rfl rfl rfl rfl rfl rfl XH33 XH6 (by exact ZG (mtH_len rfl))) rfl ?_
          refine Zf (Zc (Zi (ZW ?_)))
          refine ⟨(_, true), rfl, .inr ⟨Code.ret, rfl, ⟨rfl, ?_⟩⟩⟩
          first
            | exact ⟨by rw [hg, grL, if_neg hnseen, if_pos (by assumption)]; rfl, rfl⟩
            | exact ⟨by rw [hg, grL, if_neg hnseen, if_neg hno, if_pos (by assumption)]; rfl, rfl⟩
        · try simp only [decide_eq_true_eq, decide_eq_false_iff_not, Bool.not_eq_true', Bool.not_eq_false', bne_iff_ne, beq_iff_eq, Bool.and_eq_true, Bool.or_eq_true, Bool.not_eq_true, ge_iff_le, gt_iff_lt, Int.not_le, Int.not_lt, beq_eq_false_iff_ne, bne_eq_false_iff_eq, ne_eq, Decidable.not_not, ZJ, ZZ, ZV] at hc3
          refine Zl (Zx ?_)
          have hcg2 : Yu 64 (s1.2 ||| 1#64 <<< c) ≤ Yu 64 (grw rows n (s1.1.getD c 0 - 1) (s1.1, s1.2 ||| 1#64 <<< c)).2.2 := come_le2 hgr.sub
          refine ⟨(_, false), rfl, .inl ⟨rfl, ?_⟩⟩
          exact ⟨post, by rw [hx, List.append_assoc]; rfl, by rw [hg, grL, if_neg hnseen, if_neg hno, if_neg (not_of_f (by assumption))]; rfl, ((hgr.no (by assumption)).1).trans hO1, (by show 64 - Yu 64 (grw rows n (s1.1.getD c 0 - 1) (s1.1, s1.2 ||| 1#64 <<< c)).2.2 ≤ n; omega), rfl⟩
  · intro s k hk hI
    obtain ⟨s1, res⟩ := s
    try dsimp only at hI ⊢
    obtain ⟨z, hz, hg, hO1, hcm, hres⟩ := hI
    have hres : res = false := hres
    subst hres
    obtain rfl : z = [] := by simpa using hz
    refine Zx (Zc (Ze (Za ?_)))
    refine Zm (env' := u62) rfl rfl (YJ (VVal.bool false) rfl rfl rfl rfl rfl rfl rfl XH33 XH6 (by exact ZG (mtH_len rfl))) rfl ?_
    refine Zf (Zc (Zi ?_))
    refine YE (.inr rfl) (vres_cell rfl rfl rfl rfl (by exact Zz (mtH_len rfl) rfl) (by first | rfl | assumption | exact own_cell (by omega) | exact fget (α := BitVec 64) 0 (by omega))) (by exact mt_base trivial) XH15 ?_
    exact ⟨by rw [show grw rows (n + 1) row (O, S) = (false, s1) from hg], by rw [show grw rows (n + 1) row (O, S) = (false, s1) from hg]⟩
  · rintro j pre c post s k hk hx (⟨rfl, hX⟩)
    obtain ⟨s1, res⟩ := s
    try dsimp only
    obtain ⟨hX1, hX2⟩ := hX
    have hX2 : res = true := hX2
    subst hX2
    refine J_ret ?_
    refine ZW (Zo ?_)
    refine YE (.inr rfl) (vres_cell rfl rfl rfl rfl (by exact Zz (mtH_len rfl) rfl) (by first | rfl | assumption | exact own_cell (by omega) | exact fget (α := BitVec 64) 0 (by omega))) (by exact mt_base trivial) XH15 ?_
    exact ⟨by rw [show grw rows (n + 1) row (O, S) = (true, s1) from hX1], by rw [show grw rows (n + 1) row (O, S) = (true, s1) from hX1]⟩
end MM
open Go Go.V Go.RowKit
abbrev u27 {a0 a1 a2 a3 a4 a5 a6 a7 a8 a9 a10 a11 a12 a13 a14 a15 a16 a17 a18 a19 a20 a21 a22 a23 a24 a25 a26 : VVal} : VEnv := a0 :: a1 :: a2 :: a3 :: a4 :: a5 :: a6 :: a7 :: a8 :: a9 :: a10 :: a11 :: a12 :: a13 :: a14 :: a15 :: a16 :: a17 :: a18 :: a19 :: a20 :: a21 :: a22 :: a23 :: a24 :: a25 :: a26 :: []
namespace MM
theorem grow_spec {x : SW} (p q : Nat) (rows : List (BitVec 64)) (hpq : p ≠ q) (h62 : rows.length < 4611686018427387904) : ∀ (n : Nat) (H : Zd) (row : Int) (O : List Int) (S : BitVec 64), H[p]? = some (mtB rows O) → H[q]? = some (seB S) → 0 ≤ row → row < rows.length → Gok rows O → 64 - Yu 64 S < n → F (psys x) 150 [.ptr (some (p, 0)), iI row, .ptr (some (q, 0))] H fun v G => v = .bool (grw rows n row (O, S)).1 ∧ G = mtH H p q rows (grw rows n row (O, S)).2
  | 0, _, _, _, _, _, _, _, _, _, h => absurd h (by omega)
  | n + 1, H, row, O, S, hp, hq, h0, h1, hO, hm => grow_s p q n rows hpq (fun H row O S a b c d e f => grow_spec p q rows hpq h62 n H row O S a b c d e f) H row O S hp hq h0 h1 hO hm h62
theorem grow_at {x : SW} (H : Zd) (rows : List (BitVec 64)) (O : List Int) (row : Int) (h0 : 0 ≤ row) (h1 : row < rows.length) (hO : Gok rows O) (h62 : rows.length < 4611686018427387904) : F (psys x) 150 [.ptr (some (H.length + 0, 0)), iI row, .ptr (some (H.length + 1, 0))] (H ++ [mtB rows O, seB 0#64]) fun v G => v = .bool (grw rows 65 row (O, 0#64)).1 ∧ G = H ++ [mtB rows (grw rows 65 row (O, 0#64)).2.1, seB (grw rows 65 row (O, 0#64)).2.2] := by
  have := grow_spec (x := x) (H.length + 0) (H.length + 1) rows (by omega) h62 65 (H ++ [mtB rows O, seB 0#64]) row O 0#64 (Zz rfl rfl) (Zz rfl rfl) h0 h1 hO (by rw [come_0]; omega)
  unfold mtH at this
  rw [ZG rfl, ZG rfl] at this
  exact this
theorem mtB_under {n : Nat} {rows : List (BitVec 64)} {O : List Int} : (mtB rows O).under n = true := by
  show VVal.underL n (fzW rows :: O.map iI) = true
  simp [VVal.underL, Yl, mapI_under]
def mskT (l : List (BitVec 64)) (t : BitVec 64) (k : Nat) : List (BitVec 64) := msk (l.take k) t ++ l.drop k
theorem beq_nat {a b : Nat} : ((a : Int) == (b : Int)) = (a == b) := Bool.eq_iff_iff.2 (by rw [beq_iff_eq, beq_iff_eq]; omega)
theorem mskT_len {l : List (BitVec 64)} {t : BitVec 64} {k : Nat} : (mskT l t k).length = l.length := by
  unfold mskT; rw [List.length_append, Yh, List.length_take, List.length_drop]; omega
theorem mskT_0 {l : List (BitVec 64)} {t : BitVec 64} : mskT l t 0 = l := by unfold mskT msk; simp
theorem mskT_all {l : List (BitVec 64)} {t : BitVec 64} : mskT l t l.length = msk l t := by unfold mskT; simp
theorem mskT_get {l : List (BitVec 64)} {t : BitVec 64} {k : Nat} (h : k < l.length) : (mskT l t k).getD k 0 = l.getD k 0 := by
  unfold mskT
  rw [List.getD_eq_getElem?_getD, List.getElem?_append_right (by rw [Yh, List.length_take]; omega), Yh, List.length_take, Nat.min_eq_left (by omega), Nat.sub_self, List.getElem?_drop, Nat.add_zero, List.getD_eq_getElem?_getD]
theorem mskT_set {l : List (BitVec 64)} {t : BitVec 64} {k : Nat} (h : k < l.length) : (mskT l t k).set k (l.getD k 0 &&& ~~~t) = mskT l t (k + 1) := by
  unfold mskT
  rw [List.set_append_right _ _ (by rw [Yh, List.length_take]; omega), Yh, List.length_take, Nat.min_eq_left (by omega), Nat.sub_self, List.take_succ_eq_append_getElem h, List.drop_eq_getElem_cons h, List.getD_eq_getElem?_getD, List.getElem?_eq_getElem h]
  show msk (l.take k) t ++ ((l[k] &&& ~~~t) :: l.drop (k + 1)) = _
  unfold msk
  rw [List.map_append, List.append_assoc]; rfl
theorem splice_w {l : List (BitVec 64)} {k : Nat} {w : BitVec 64} (h : k < l.length) : Zu (l.map iW) (0 + k * 1) [iW w] = (l.set k w).map iW := by
  rw [show 0 + k * 1 = k by omega]
  unfold Zu
  rw [List.map_set, List.set_eq_take_append_cons_drop, if_pos (by rw [List.length_map]; exact h)]; simp
theorem size_spec {x : SW} (H : Zd) (rows : List (BitVec 64)) (h62 : rows.length < 4611686018427387904) : F (psys x) 130 [fzW rows] H fun v G => v = iI (szN rows : Nat) ∧ G = H := by
  refine Zs Tryd.func130 rfl u22 rfl ?_
  refine Ze (Za ?_)
  refine Zm (env' := u22) rfl rfl (Zg (VVal.int .i64 0) (.inr rfl) rfl) rfl ?_
  refine Zf (Zc (Ze (Za ?_)))
  refine Zm (env' := u22) rfl rfl (Zb (.inl rfl) rfl) rfl ?_
  refine Zm (env' := u22) rfl rfl (rfl) rfl ?_
  refine Zm (env' := u22) rfl rfl (ZI rfl rfl rfl) rfl ?_
  refine Zm (env' := u22) rfl rfl (Zb (.inr rfl) rfl) rfl ?_
  refine Zm (env' := u22) rfl rfl (Zg (VVal.int .i64 0) (.inr rfl) rfl) rfl ?_
  refine Zf (Zc (Ze (Ze (Za ?_))))
  refine Zm (env' := u22) rfl rfl (Zb (.inl rfl) rfl) rfl ?_
  refine Zm (env' := u22) rfl rfl (rfl) rfl ?_
  refine Zm (env' := u22) rfl rfl (Zg (VVal.int .i64 0) (.inl rfl) rfl) rfl ?_
  refine Zf (Zc (Zn ?_))
  refine ZB [true,true,true,false,false,true,true,true,true,true,true,false,false,true,true,true,true,true,true,true,true,true] (env' := u22) rfl ?_
  refine ZO (fun (k : Nat) => rows.length - k) (fun (k : Nat) => [(4, iI ((szO rows k).2 : Nat)), (12, iI (k : Nat))]) (fun (k : Nat) G => (k ≤ rows.length) ∧ G = H ++ [mtB rows (szO rows k).1]) 0 rfl ?_ ?_
  · refine ⟨?_, rfl⟩
    exact Nat.zero_le _
  rintro k _ ⟨hk, rfl⟩
  refine Z6 (env' := u22) rfl ?_
  refine Ze (Za ?_)
  refine Zm (env' := u22) rfl rfl (rfl) rfl ?_
  refine Zf (Zc (Ze ?_))
  refine Zk _ rfl (fun hc1 => ?_) (fun hc1 => ?_)
  · try simp only [decide_eq_true_eq, decide_eq_false_iff_not, Bool.not_eq_true', Bool.not_eq_false', bne_iff_ne, beq_iff_eq, Bool.and_eq_true, Bool.or_eq_true, Bool.not_eq_true, ge_iff_le, gt_iff_lt, Int.not_le, Int.not_lt, beq_eq_false_iff_ne, bne_eq_false_iff_eq, ne_eq, Decidable.not_not, ZJ, ZZ, ZV] at hc1
    refine Zl (Zc (Ze (Zn (Ze (Za ?_)))))
    refine Zm (env' := u22) rfl rfl (Zb (.inl rfl) rfl) rfl ?_
    refine Zm (env' := u22) rfl rfl (Zb (.inr rfl) rfl) rfl ?_
    refine Zf (Zc (Ze (Za ?_)))
    refine Zm (env' := u22) rfl rfl (ZF rfl rfl) rfl ?_
    refine Zm (env' := u22) rfl rfl (YJ (VVal.int .u64 0) rfl rfl rfl rfl rfl rfl rfl XH7 XH6 XH18) rfl ?_
    refine Zf (Zc (Ze (Za ?_)))
    refine Zm (env' := u22) rfl rfl (Zb (.inl rfl) rfl) rfl ?_
    refine Zm (env' := u22) rfl rfl (Zb (.inl rfl) rfl) rfl ?_
    refine Zt rfl rfl rfl (by exact grow_at H rows (szO rows k).1 k (by omega) (by omega) (szO_ok (by omega)) h62) ?_
    rintro _ _ ⟨rfl, rfl⟩
    refine L_env (env' := u22) rfl ?_
    refine Zf (Zc ?_)
    refine Zk _ rfl (fun hc2 => ?_) (fun hc2 => ?_)
    · try simp only [decide_eq_true_eq, decide_eq_false_iff_not, Bool.not_eq_true', Bool.not_eq_false', bne_iff_ne, beq_iff_eq, Bool.and_eq_true, Bool.or_eq_true, Bool.not_eq_true, ge_iff_le, gt_iff_lt, Int.not_le, Int.not_lt, beq_eq_false_iff_ne, bne_eq_false_iff_eq, ne_eq, Decidable.not_not, ZJ, ZZ, ZV] at hc2
      refine Za ?_
      refine Zm (env' := u22) rfl rfl (Zb (.inl rfl) rfl) rfl ?_
      refine Zm (env' := u22) rfl rfl (v_addI rfl rfl rfl (by have := @szO_le rows k; omega)) rfl ?_
      refine Zm (env' := u22) rfl rfl (Zb (.inr rfl) rfl) rfl ?_
      refine Zf (Zx (Zc (Za ?_)))
      refine Zm (env' := u22) rfl rfl (v_addI rfl rfl rfl XH1) rfl ?_
      refine Zm (env' := u22) rfl rfl (Zb (.inl rfl) rfl) rfl ?_
      refine Zf ?_
      first
        | (have hE : (((szO rows k).2 : Nat) : Int) + 1 = ((szO rows (k + 1)).2 : Nat) := by rw [szO, if_pos (by assumption)]; rfl); rw [hE]
        | (have hE : (szO rows k).2 = (szO rows (k + 1)).2 := by rw [szO]; simp only; rw [if_neg (not_of_f (by assumption))]); rw [hE]
      refine K_loopG [true,true,true,false,false,true,true,true,true,true,true,false,false,true,true,true,true,true,true,true,true,true] (env' := u22) rfl (Gh.dropTo (L := [mtB rows (szO rows (k + 1)).1]) (X := [seB _]) 1 rfl (BaseOk.refl _) (by first | (simp [VVal.underL, VVal.under, Yl]; done) | (simp [VVal.underL, VVal.under, Yl]; omega)) (by simp [mtB_under])) ⟨k + 1, ?_, rfl, ?_⟩
      · first | omega | (simp only []; omega)
      · exact ⟨by omega, rfl⟩
    · try simp only [decide_eq_true_eq, decide_eq_false_iff_not, Bool.not_eq_true', Bool.not_eq_false', bne_iff_ne, beq_iff_eq, Bool.and_eq_true, Bool.or_eq_true, Bool.not_eq_true, ge_iff_le, gt_iff_lt, Int.not_le, Int.not_lt, beq_eq_false_iff_ne, bne_eq_false_iff_eq, ne_eq, Decidable.not_not, ZJ, ZZ, ZV] at hc2
      refine Zl (Zx (Zc (Za ?_)))
      refine Zm (env' := u22) rfl rfl (v_addI rfl rfl rfl XH1) rfl ?_
      refine Zm (env' := u22) rfl rfl (Zb (.inl rfl) rfl) rfl ?_
      refine Zf ?_
      first
        | (have hE : (((szO rows k).2 : Nat) : Int) + 1 = ((szO rows (k + 1)).2 : Nat) := by rw [szO, if_pos (by assumption)]; rfl); rw [hE]
        | (have hE : (szO rows k).2 = (szO rows (k + 1)).2 := by rw [szO]; simp only; rw [if_neg (not_of_f (by assumption))]); rw [hE]
      refine K_loopG [true,true,true,false,false,true,true,true,true,true,true,false,false,true,true,true,true,true,true,true,true,true] (env' := u22) rfl (Gh.dropTo (L := [mtB rows (szO rows (k + 1)).1]) (X := [seB _]) 1 rfl (BaseOk.refl _) (by first | (simp [VVal.underL, VVal.under, Yl]; done) | (simp [VVal.underL, VVal.under, Yl]; omega)) (by simp [mtB_under])) ⟨k + 1, ?_, rfl, ?_⟩
      · first | omega | (simp only []; omega)
      · exact ⟨by omega, rfl⟩
  · try simp only [decide_eq_true_eq, decide_eq_false_iff_not, Bool.not_eq_true', Bool.not_eq_false', bne_iff_ne, beq_iff_eq, Bool.and_eq_true, Bool.or_eq_true, Bool.not_eq_true, ge_iff_le, gt_iff_lt, Int.not_le, Int.not_lt, beq_eq_false_iff_ne, bne_eq_false_iff_eq, ne_eq, Decidable.not_not, ZJ, ZZ, ZV] at hc1
    refine ZM (ZP (ZD (ZL (Zc (Ze (Za ?_))))))
    refine Zm (env' := u22) rfl rfl (Zb (.inl rfl) rfl) rfl ?_
    refine Zm (env' := u22) rfl rfl (Zb (.inr rfl) rfl) rfl ?_
    refine Zf (Zc (Zi ?_))
    refine YE (.inr rfl) (Zh rfl rfl) XH11 (by first | rfl | simp [VVal.under, VVal.underL, Yl, *]) ?_
    obtain rfl : k = rows.length := by omega
    exact ⟨rfl, rfl⟩
theorem size_m {x : SW} {n : Nat} (H : Zd) (l : List (BitVec 64)) (t : BitVec 64) (hn : n = (msk l t).length) (h62 : (msk l t).length < 4611686018427387904) : F (psys x) 130 [.fsl ((msk l t).map iW) n 1 false] H fun v G => v = iI (szN (msk l t) : Nat) ∧ G = H := by
  subst hn; exact size_spec H (msk l t) h62
theorem Clone_nil {x : SW} (H : Zd) : F (psys x) 99 [.slice none 0 0 true 0] H fun v G => v = .fsl [] 0 1 false ∧ G = H := by
  refine Zs Tryd.func99 rfl u8 rfl ?_
  refine Ze (Za ?_)
  refine Zm (env' := u8) rfl rfl (Zg (VVal.slice none 0 0 true 0) (.inr rfl) rfl) rfl ?_
  refine Zf (Zc (Ze (Ze (Za ?_))))
  refine Zm (env' := u8) rfl rfl (Zb (.inl rfl) rfl) rfl ?_
  refine Zm (env' := u8) rfl rfl (rfl) rfl ?_
  refine Zf (Zc ?_)
  refine ZX rfl rfl ?_
  refine Ze (Za ?_)
  refine Zm (env' := u8) rfl rfl (Zg (VVal.slice none 0 0 true 0) (.inr rfl) rfl) rfl ?_
  refine Zf (Zc (Zi (Zo ?_)))
  refine E_gh (.inr rfl) (Zh rfl rfl) (Gh.ansLV (BaseOk.refl _) (LV.nil H.length 1 []) rfl) ?_
  exact ⟨rfl, rfl⟩
theorem Clone_emp {x : SW} (H : Zd) : F (psys x) 99 [.slice none 0 0 false 0] H fun v G => v = .fsl [] 0 1 false ∧ G = H := by
  refine Zs Tryd.func99 rfl u8 rfl ?_
  refine Ze (Za ?_)
  refine Zm (env' := u8) rfl rfl (Zg (VVal.slice none 0 0 true 0) (.inr rfl) rfl) rfl ?_
  refine Zf (Zc (Ze (Ze (Za ?_))))
  refine Zm (env' := u8) rfl rfl (Zb (.inl rfl) rfl) rfl ?_
  refine Zm (env' := u8) rfl rfl (rfl) rfl ?_
  refine Zf (Zc ?_)
  refine Yp rfl rfl ?_
  refine Zl (Zc (Ze (Za ?_)))
  refine Zm (env' := u8) rfl rfl (ZA rfl rfl (by decide) rfl) rfl ?_
  refine Zm (env' := u8) rfl rfl (Zb (.inl rfl) rfl) rfl ?_
  refine Zm (env' := u8) rfl rfl (v_appIn rfl rfl rfl rfl rfl rfl rfl (Zz rfl rfl) rfl rfl rfl rfl (by decide) (by decide) (by decide)) rfl ?_
  refine L_heap (H' := H ++ [.cells [] true]) (by rw [ZG rfl]; rfl) ?_
  refine Zm (env' := u8) rfl rfl (Zb (.inr rfl) rfl) rfl ?_
  refine Zf (Zc (Zi ?_))
  refine E_gh (.inr rfl) (Zh rfl rfl) (Gh.fsl (j := 0) (off := 0) (len := 0) (l := []) (BaseOk.refl _) rfl rfl (Nat.le_refl _) rfl) ?_
  exact ⟨rfl, rfl⟩
theorem Clone_c {x : SW} (H : Zd) (l : List (BitVec 64)) (hne : l ≠ []) (hl : l.length ≤ 1000000) : F (psys x) 99 [fzW l] H fun v G => v = .slice (some (H.length, 0)) l.length l.length (decide (l.length = 0)) 1 ∧ G = H ++ [.cells (l.map iW) true] := by
  refine Zs Tryd.func99 rfl u8 rfl ?_
  refine Ze (Za ?_)
  refine Zm (env' := u8) rfl rfl (Zg (VVal.slice none 0 0 true 0) (.inr rfl) rfl) rfl ?_
  refine Zf (Zc (Ze (Ze (Za ?_))))
  refine Zm (env' := u8) rfl rfl (Zb (.inl rfl) rfl) rfl ?_
  refine Zm (env' := u8) rfl rfl (v_eqNilF rfl rfl rfl rfl rfl (fun e => hne (List.eq_nil_of_length_eq_zero e))) rfl ?_
  refine Zf (Zc ?_)
  refine Yp rfl rfl ?_
  refine Zl (Zc (Ze (Za ?_)))
  refine Zm (env' := u8) rfl rfl (ZA rfl rfl (by decide) rfl) rfl ?_
  refine Zm (env' := u8) rfl rfl (Zb (.inl rfl) rfl) rfl ?_
  refine L_opX rfl rfl (v_appE rfl rfl rfl rfl rfl rfl rfl rfl (by rw [List.length_map]; exact (Nat.mul_one _).symm) (mapW_one _) (by decide) (by show l.length * 8 ≤ _ ∧ l.length ≤ _; omega)) ?_
  rintro _ _ ⟨Z, i, rfl, rfl, hi⟩
  refine L_env (env' := u8) rfl ?_
  refine Zm (env' := u8) rfl rfl (Zb (.inr rfl) rfl) rfl ?_
  refine Zf (Zc (Zi ?_))
  refine E_gh (.inr rfl) (Zh rfl rfl) (Gh.pack (BaseOk.refl _) hi (Ys _ _)) ?_
  exact ⟨rfl, rfl⟩
theorem Clone_0 {x : SW} (H : Zd) : F (psys x) 99 [fzW []] H fun v G => v = .fsl [] 0 1 false ∧ G = H := F_split0 (Clone_nil H) (Clone_emp H)
theorem Clone_L {x : SW} (H L : Zd) (l : List (BitVec 64)) (hne : l ≠ []) (hl : l.length ≤ 1000000) : F (psys x) 99 [fzW l] (H ++ L) fun v G => v = .slice (some (H.length + L.length, 0)) l.length l.length (decide (l.length = 0)) 1 ∧ G = H ++ (L ++ [.cells (l.map iW) true]) := by
  have := Clone_c (x := x) (H ++ L) l hne hl
  rw [List.length_append, List.append_assoc] at this
  exact this
theorem full_0 {x : SW} (H : Zd) (t : BitVec 64) : F (psys x) 102 [fzW [], iW t] H fun v G => v = .bool (fullB [] t) ∧ G = H := by
  refine Zs Tryd.func102 rfl u27 rfl ?_
  refine Ze (Za ?_)
  refine Zm (env' := u27) rfl rfl (Zg (VVal.bool false) (.inr rfl) rfl) rfl ?_
  refine Zf (Zc (Ze (Za ?_)))
  refine Zm (env' := u27) rfl rfl (Zb (.inl rfl) rfl) rfl ?_
  refine Zt rfl rfl rfl (by exact Clone_0 _) ?_
  rintro _ _ ⟨rfl, rfl⟩
  refine L_env (env' := u27) rfl ?_
  refine Zm (env' := u27) rfl rfl (Zb (.inr rfl) rfl) rfl ?_
  refine Zf (Zc (Ze (Ze (Za ?_))))
  refine Zm (env' := u27) rfl rfl (Zb (.inl rfl) rfl) rfl ?_
  refine Zm (env' := u27) rfl rfl (rfl) rfl ?_
  refine Zm (env' := u27) rfl rfl (Zg (VVal.int .i64 0) (.inl rfl) rfl) rfl ?_
  refine Zf (Zc (Zn ?_))
  refine ZB [false,false,true,true,true,false,true,true,true,true,false,false,true,true,true,true,true,true,true,true,true,true,true,true,true,true,true] (env' := u27) rfl ?_
  refine ZO (fun (k : Nat) => 0) (fun (k : Nat) => [(11, iI (k : Nat))]) (fun (k : Nat) G => (True) ∧ G = H ++ []) 0 rfl ?_ ?_
  · refine ⟨?_, rfl⟩
    trivial
  rintro k _ ⟨_, rfl⟩
  refine Z6 (env' := u27) rfl ?_
  refine Ze (Za ?_)
  refine Zm (env' := u27) rfl rfl (rfl) rfl ?_
  refine Zf (Zc (Ze ?_))
  refine Zk _ rfl (fun hc1 => ?_) (fun hc1 => ?_)
  · try simp only [decide_eq_true_eq, decide_eq_false_iff_not, Bool.not_eq_true', Bool.not_eq_false', bne_iff_ne, beq_iff_eq, Bool.and_eq_true, Bool.or_eq_true, Bool.not_eq_true, ge_iff_le, gt_iff_lt, Int.not_le, Int.not_lt, beq_eq_false_iff_ne, bne_eq_false_iff_eq, ne_eq, Decidable.not_not, ZJ, ZZ, ZV] at hc1
    exfalso; omega
  · try simp only [decide_eq_true_eq, decide_eq_false_iff_not, Bool.not_eq_true', Bool.not_eq_false', bne_iff_ne, beq_iff_eq, Bool.and_eq_true, Bool.or_eq_true, Bool.not_eq_true, ge_iff_le, gt_iff_lt, Int.not_le, Int.not_lt, beq_eq_false_iff_ne, bne_eq_false_iff_eq, ne_eq, Decidable.not_not, ZJ, ZZ, ZV] at hc1
    refine ZM (ZP (ZD (ZL (Zc (Ze (Za ?_))))))
    refine Zm (env' := u27) rfl rfl (Zb (.inl rfl) rfl) rfl ?_
    refine Zt rfl rfl rfl (by exact size_spec _ [] (by decide)) ?_
    rintro _ _ ⟨rfl, rfl⟩
    refine L_env (env' := u27) rfl ?_
    refine Zm (env' := u27) rfl rfl (Zb (.inl rfl) rfl) rfl ?_
    refine Zm (env' := u27) rfl rfl (rfl) rfl ?_
    refine Zm (env' := u27) rfl rfl (rfl) rfl ?_
    refine Zm (env' := u27) rfl rfl (Zb (.inr rfl) rfl) rfl ?_
    refine Zf (Zc (Zi ?_))
    refine YE (.inr rfl) (Zh rfl rfl) XH11 XH15 ?_
    exact ⟨rfl, rfl⟩
theorem full_c {x : SW} (H : Zd) (l : List (BitVec 64)) (t : BitVec 64) (hne : l ≠ []) (hl : l.length ≤ 1000000) : F (psys x) 102 [fzW l, iW t] H fun v G => v = .bool (fullB l t) ∧ G = H := by
  refine Zs Tryd.func102 rfl u27 rfl ?_
  refine Ze (Za ?_)
  refine Zm (env' := u27) rfl rfl (Zg (VVal.bool false) (.inr rfl) rfl) rfl ?_
  refine Zf (Zc (Ze (Za ?_)))
  refine Zm (env' := u27) rfl rfl (Zb (.inl rfl) rfl) rfl ?_
  refine Zt rfl rfl rfl (by exact Clone_L _ _ _ hne hl) ?_
  rintro _ _ ⟨rfl, rfl⟩
  refine L_env (env' := u27) rfl ?_
  refine Zm (env' := u27) rfl rfl (Zb (.inr rfl) rfl) rfl ?_
  refine Zf (Zc (Ze (Ze (Za ?_))))
  refine Zm (env' := u27) rfl rfl (Zb (.inl rfl) rfl) rfl ?_
  refine Zm (env' := u27) rfl rfl (rfl) rfl ?_
  refine Zm (env' := u27) rfl rfl (Zg (VVal.int .i64 0) (.inl rfl) rfl) rfl ?_
  refine Zf (Zc (Zn ?_))
  refine ZB [false,false,true,true,true,false,true,true,true,true,false,false,true,true,true,true,true,true,true,true,true,true,true,true,true,true,true] (env' := u27) rfl ?_
  refine ZO (fun (k : Nat) => l.length - k) (fun (k : Nat) => [(11, iI (k : Nat))]) (fun (k : Nat) G => (k ≤ l.length) ∧ G = H ++ [.cells ((mskT l t k).map iW) true]) 0 rfl ?_ ?_
  · refine ⟨?_, (by rw [mskT_0]; rfl)⟩
    exact Nat.zero_le _
  rintro k _ ⟨hk, rfl⟩
  refine Z6 (env' := u27) rfl ?_
  refine Ze (Za ?_)
  refine Zm (env' := u27) rfl rfl (rfl) rfl ?_
  refine Zf (Zc (Ze ?_))
  refine Zk _ rfl (fun hc1 => ?_) (fun hc1 => ?_)
  · try simp only [decide_eq_true_eq, decide_eq_false_iff_not, Bool.not_eq_true', Bool.not_eq_false', bne_iff_ne, beq_iff_eq, Bool.and_eq_true, Bool.or_eq_true, Bool.not_eq_true, ge_iff_le, gt_iff_lt, Int.not_le, Int.not_lt, beq_eq_false_iff_ne, bne_eq_false_iff_eq, ne_eq, Decidable.not_not, ZJ, ZZ, ZV] at hc1
    refine Zl (Zc (Ze (Zn (Ze (Za ?_)))))
    refine Zm (env' := u27) rfl rfl (Zb (.inl rfl) rfl) rfl ?_
    refine Zm (env' := u27) rfl rfl (Zb (.inr rfl) rfl) rfl ?_
    refine Zf (Zc (Za ?_))
    refine Zm (env' := u27) rfl rfl (Zb (.inl rfl) rfl) rfl ?_
    refine Zm (env' := u27) rfl rfl (Zb (.inl rfl) rfl) rfl ?_
    refine Zm (env' := u27) rfl rfl XH34 rfl ?_
    refine Zm (env' := u27) rfl rfl (by first | exact v_loadF rfl rfl rfl rfl (by first | exact fget0 (α := BitVec 64) 0 (by rw [mskT_len]; omega) | rfl) | exact v_load rfl rfl rfl rfl XH7 (by first | exact fget0 (α := BitVec 64) 0 (by rw [mskT_len]; omega) | rfl)) rfl ?_
    refine Zm (env' := u27) rfl rfl (Zb (.inl rfl) rfl) rfl ?_
    refine Zm (env' := u27) rfl rfl (v_andNotW rfl rfl rfl) rfl ?_
    refine Zm (env' := u27) rfl rfl XH34 rfl ?_
    refine Zm (env' := u27) rfl rfl (Z4 rfl rfl rfl rfl rfl rfl rfl XH7 (by first | (simp [mskT_len]; done) | (simp [mskT_len]; omega)) (by exact (ZG rfl).trans (by rw [splice_w (by rw [mskT_len]; omega)]))) rfl ?_
    refine Zf (Zx (Zc (Za ?_)))
    refine Zm (env' := u27) rfl rfl (v_addI rfl rfl rfl XH1) rfl ?_
    refine Zm (env' := u27) rfl rfl (Zb (.inl rfl) rfl) rfl ?_
    refine Zf ?_
    have hE : (mskT l t k).set (k : Int).toNat ((mskT l t k).getD (k : Int).toNat 0 &&& ~~~t) = mskT l t (k + 1) := by rw [Int.toNat_natCast, mskT_get (by omega), mskT_set (by omega)]
    refine ZE [false,false,true,true,true,false,true,true,true,true,false,false,true,true,true,true,true,true,true,true,true,true,true,true,true,true,true] (env' := u27) rfl ⟨k + 1, ?_, rfl, ?_⟩
    · first | omega | (simp only []; omega)
    · exact ⟨by omega, by rw [← hE]; rfl⟩
  · try simp only [decide_eq_true_eq, decide_eq_false_iff_not, Bool.not_eq_true', Bool.not_eq_false', bne_iff_ne, beq_iff_eq, Bool.and_eq_true, Bool.or_eq_true, Bool.not_eq_true, ge_iff_le, gt_iff_lt, Int.not_le, Int.not_lt, beq_eq_false_iff_ne, bne_eq_false_iff_eq, ne_eq, Decidable.not_not, ZJ, ZZ, ZV] at hc1
    refine ZM (ZP (ZD (ZL (Zc (Ze ?_)))))
    obtain rfl : k = l.length := by omega
    rw [mskT_all]
    refine Za ?_
    refine Zm (env' := u27) rfl rfl (Zb (.inl rfl) rfl) rfl ?_
    refine L_gh (Gh.freezeL (l := (msk l t).map iW) 22 0 rfl rfl (by rw [show l.length * 1 = (msk l t).length * 1 by rw [Yh]]; exact mapW_all) (Nat.le_refl _) rfl) ?_
    refine Zt rfl rfl rfl (by exact size_m _ _ _ (by rw [Yh]) (by rw [Yh]; omega)) ?_
    rintro _ _ ⟨rfl, rfl⟩
    refine L_env (env' := u27) rfl ?_
    refine Zm (env' := u27) rfl rfl (Zb (.inl rfl) rfl) rfl ?_
    refine Zm (env' := u27) rfl rfl (rfl) rfl ?_
    refine Zm (env' := u27) rfl rfl (rfl) rfl ?_
    refine Zm (env' := u27) rfl rfl (Zb (.inr rfl) rfl) rfl ?_
    refine Zf (Zc (Zi ?_))
    refine YE (.inr rfl) (Zh rfl rfl) XH11 XH15 ?_
    exact ⟨by unfold fullB; rw [beq_nat], rfl⟩
end MM
open Go Go.V Go.RowKit
abbrev u33 {a0 a1 a2 a3 a4 a5 a6 a7 a8 a9 a10 a11 a12 a13 a14 a15 a16 a17 a18 a19 a20 a21 a22 a23 a24 a25 a26 a27 a28 a29 a30 a31 a32 : VVal} : VEnv := a0 :: a1 :: a2 :: a3 :: a4 :: a5 :: a6 :: a7 :: a8 :: a9 :: a10 :: a11 :: a12 :: a13 :: a14 :: a15 :: a16 :: a17 :: a18 :: a19 :: a20 :: a21 :: a22 :: a23 :: a24 :: a25 :: a26 :: a27 :: a28 :: a29 :: a30 :: a31 :: a32 :: []
abbrev u43 {a0 a1 a2 a3 a4 a5 a6 a7 a8 a9 a10 a11 a12 a13 a14 a15 a16 a17 a18 a19 a20 a21 a22 a23 a24 a25 a26 a27 a28 a29 a30 a31 a32 a33 a34 a35 a36 a37 a38 a39 a40 a41 a42 : VVal} : VEnv := a0 :: a1 :: a2 :: a3 :: a4 :: a5 :: a6 :: a7 :: a8 :: a9 :: a10 :: a11 :: a12 :: a13 :: a14 :: a15 :: a16 :: a17 :: a18 :: a19 :: a20 :: a21 :: a22 :: a23 :: a24 :: a25 :: a26 :: a27 :: a28 :: a29 :: a30 :: a31 :: a32 :: a33 :: a34 :: a35 :: a36 :: a37 :: a38 :: a39 :: a40 :: a41 :: a42 :: []
namespace MM
theorem full_spec {x : SW} (H : Zd) (l : List (BitVec 64)) (t : BitVec 64) (hl : l.length ≤ 1000000) : F (psys x) 102 [fzW l, iW t] H fun v G => v = .bool (fullB l t) ∧ G = H := by
  by_cases h : l = []
  · subst h; exact full_0 H t
  · exact full_c H l t h hl
theorem del_cells {l : List (BitVec 64)} {i : Nat} (hi : i < l.length) : Zu (Zu (l.map iW) i ((l.map iW).drop (i + 1))) (0 + (l.length - 1)) (Zw [VVal.int .u64 0] (l.length - (l.length - 1))) = (l.eraseIdx i ++ [0#64]).map iW := by
  rw [show l.length - (l.length - 1) = 1 by omega, show 0 + (l.length - 1) = l.length - 1 by omega]
  have hlen : ((l.eraseIdx i).map iW).length = l.length - 1 := by rw [List.length_map, List.length_eraseIdx_of_lt hi]
  have h1 : Zu (l.map iW) i ((l.map iW).drop (i + 1)) = (l.eraseIdx i).map iW ++ (l.map iW).drop (l.length - 1) := by
    unfold Zu
    rw [List.length_drop, List.length_map, show i + (l.length - (i + 1)) = l.length - 1 by omega, List.eraseIdx_eq_take_drop_succ, List.map_append, List.map_take, List.map_drop]
  rw [h1]
  unfold Zu
  rw [List.take_append_of_le_length (by omega), List.take_of_length_le (by omega), List.drop_of_length_le (by
    rw [List.length_append, hlen, List.length_drop, List.length_map]
    show _ ≤ l.length - 1 + 1
    omega), List.append_nil, List.map_append]
  rfl
theorem erase_all {l : List (BitVec 64)} {i : Nat} : Zp ((l.eraseIdx i ++ [0#64]).map iW) 0 ((l.eraseIdx i).length * 1) = some ((l.eraseIdx i).map iW) := by
  unfold Zp
  rw [if_pos (by rw [List.length_map, List.length_append]; omega), List.drop_zero, List.map_append, List.take_append_of_le_length XH17, List.take_of_length_le XH17]
theorem Delete_spec {x : SW} (H : Zd) (p : Nat) (l : List (BitVec 64)) (i : Nat) (ex : Bool) (hp : H[p]? = some (.cells (l.map iW) true)) (hi : i < l.length) (hl : l.length ≤ 1000000) : F (psys x) 98 [.slice (some (p, 0)) l.length l.length ex 1, iI (i : Nat), iI ((i : Int) + 1)] H fun v G => v = .slice (some (p, 0)) (l.length - 1) l.length ex 1 ∧ G = H.set p (.cells ((l.eraseIdx i ++ [0#64]).map iW) true) := by
  have hpl := ZQ hp
  refine Zs Tryd.func98 rfl u33 rfl ?_
  refine Ze (Za ?_)
  refine Zm (env' := u33) rfl rfl (Zg (VVal.slice none 0 0 true 0) (.inr rfl) rfl) rfl ?_
  refine Zf (Zc (Ze (Za ?_)))
  refine Zm (env' := u33) rfl rfl (Zb (.inl rfl) rfl) rfl ?_
  refine Zm (env' := u33) rfl rfl (Zb (.inl rfl) rfl) rfl ?_
  refine Zm (env' := u33) rfl rfl (Zb (.inl rfl) rfl) rfl ?_
  refine Zm (env' := u33) rfl rfl (Zb (.inl rfl) rfl) rfl ?_
  refine Zm (env' := u33) rfl rfl (rfl) rfl ?_
  refine Zm (env' := u33) rfl rfl (v_slLH (l := i) (h := i + 1) (m := l.length) rfl rfl rfl rfl rfl rfl (vb_lhm (l := i) (h := i + 1) (m := l.length) (len := l.length) (cap := l.length) (by omega) (by omega) (by omega)) rfl (Nat.le_refl _) (by omega)) rfl ?_
  refine Zf (Zc (Ze (Ze (Za ?_))))
  refine Zm (env' := u33) rfl rfl (Zb (.inl rfl) rfl) rfl ?_
  refine Zm (env' := u33) rfl rfl (Zb (.inl rfl) rfl) rfl ?_
  refine Zm (env' := u33) rfl rfl (v_is false rfl (by rw [beq_eq_false_iff_ne]; omega)) rfl ?_
  refine Zf (Zc ?_)
  refine Yp rfl rfl ?_
  refine Zl (Zc (Ze (Za ?_)))
  refine Zm (env' := u33) rfl rfl (Zb (.inl rfl) rfl) rfl ?_
  refine Zm (env' := u33) rfl rfl (rfl) rfl ?_
  refine Zm (env' := u33) rfl rfl (Zb (.inr rfl) rfl) rfl ?_
  refine Zf (Zc (Ze ?_))
  refine ZY [0, 1, 2, 3, 4, 5, 6, 7] #[0, 0, 3, 0, 0, 24, 63, 127] XH5 XH5 XH5 ?_
  refine ZT (env' := u33) (c := .calm) rfl rfl rfl (Zb (.inl rfl) rfl) rfl rfl rfl ?_
  refine ZT (env' := u33) (c := .calm) rfl rfl rfl (Zb (.inl rfl) rfl) rfl rfl rfl ?_
  refine ZT (env' := u33) (c := .calm) rfl rfl rfl (YL (v_slLH (l := 0) (h := i) (m := l.length) rfl rfl rfl rfl rfl rfl (vb_hi (by omega)) rfl (Nat.le_refl _) (by omega)) (show _ = VVal.slice (some (p, 0)) i l.length ex 1 by simp)) rfl rfl rfl ?_
  refine ZT (env' := u33) (c := .calm) rfl rfl rfl (Zb (.inl rfl) rfl) rfl rfl rfl ?_
  refine ZT (env' := u33) (c := .calm) rfl rfl rfl (Zb (.inl rfl) rfl) rfl rfl rfl ?_
  refine O_opX .calm rfl rfl rfl (v_slTail (l := i + 1) rfl rfl rfl rfl rfl rfl rfl (by omega) (get_out hp) (by rw [List.length_map])) rfl rfl ?_
  rintro v2 _ ⟨rfl, hsl, hsc⟩
  refine O_env (env' := u33) rfl ?_
  refine ZT (env' := u33) (c := .turn) rfl rfl rfl (v_appIn rfl rfl rfl rfl rfl rfl rfl (get_out hp) hsl hsc (by rw [List.length_drop, List.length_map]) (by rw [← List.map_drop]; exact mapW_one _) (by show (i + (l.length - (i + 1))) * 8 ≤ _ ∧ _; omega) (by omega) XH17) rfl rfl rfl ?_
  refine ZT (env' := u33) (c := .calm) rfl rfl rfl (Zb (.inr rfl) rfl) rfl rfl rfl ?_
  refine Yf [] XH5 (trivial) ?_
  refine Zc (Ze ?_)
  rw [Yo hpl, show i + (l.length - (i + 1)) = l.length - 1 by omega]
  refine Za ?_
  refine Zm (env' := u33) rfl rfl (Zb (.inl rfl) rfl) rfl ?_
  refine Zm (env' := u33) rfl rfl (Zb (.inl rfl) rfl) rfl ?_
  refine Zm (env' := u33) rfl rfl (rfl) rfl ?_
  refine Zm (env' := u33) rfl rfl (Zb (.inl rfl) rfl) rfl ?_
  refine Zm (env' := u33) rfl rfl (v_slLH (l := l.length - 1) (h := l.length) (m := l.length) rfl rfl rfl rfl rfl rfl (vb_lh (by omega) (Nat.le_refl _)) rfl (by omega) (by omega)) rfl ?_
  refine Zm (env' := u33) rfl rfl (v_clear1 rfl rfl rfl rfl rfl rfl rfl (get_out (List.getElem?_set_self hpl)) (by unfold Zu; simp; omega)) rfl ?_
  refine L_heap (H' := H.set p (.cells ((l.eraseIdx i ++ [0#64]).map iW) true) ++ []) (by rw [Yo (by rw [List.length_set]; exact hpl), List.set_set]; exact congrArg (fun c => H.set p (.cells c true) ++ []) (del_cells hi)) ?_
  refine Zf (Zc (Ze (Za ?_)))
  refine Zm (env' := u33) rfl rfl (Zb (.inl rfl) rfl) rfl ?_
  refine Zm (env' := u33) rfl rfl (Zb (.inr rfl) rfl) rfl ?_
  refine Zf (Zc (Zi ?_))
  refine YE (.inr rfl) (Zh rfl rfl) (by exact BaseOk.set (BaseOk.refl _) _ (Ys _ _)) XH15 ?_
  exact ⟨rfl, rfl⟩
theorem Del_at {x : SW} (H : Zd) (l : List (BitVec 64)) (i : Nat) (ex : Bool) (hi : i < l.length) (hl : l.length ≤ 1000000) : F (psys x) 98 [.slice (some (H.length + 0, 0)) l.length l.length ex 1, iI (i : Nat), iI ((i : Int) + 1)] (H ++ [.cells (l.map iW) true]) fun v G => v = fzW (l.eraseIdx i) ∧ G = H ++ [.dead] := by
  refine F.gh (Delete_spec (H ++ [.cells (l.map iW) true]) (H.length + 0) l i ex (Zz rfl rfl) hi hl) fun v G h => ?_
  obtain ⟨rfl, rfl⟩ := h
  refine ⟨fzW (l.eraseIdx i), H ++ [.dead], ?_, rfl, rfl⟩
  rw [ZG rfl, show l.length - 1 = (l.eraseIdx i).length by rw [List.length_eraseIdx_of_lt hi]]
  exact Gh.freezeL 0 0 rfl rfl erase_all (by rw [List.length_eraseIdx_of_lt hi]; omega) rfl
theorem Del_atI {x : SW} (H : Zd) (l : List (BitVec 64)) (i : Int) (ex : Bool) (h0 : 0 ≤ i) (hi : i < l.length) (hl : l.length ≤ 1000000) : F (psys x) 98 [.slice (some (H.length + 0, 0)) l.length l.length ex 1, iI i, iI (i + 1)] (H ++ [.cells (l.map iW) true]) fun v G => v = fzW (l.eraseIdx i.toNat) ∧ G = H ++ [.dead] := by
  have := Del_at (x := x) H l i.toNat ex (by omega) hl
  rw [show ((i.toNat : Nat) : Int) = i by omega] at this
  exact this
def freeV (l : List (BitVec 64)) (i : Int) : BitVec 64 := if l.length ≤ 12 ∧ 0 ≤ i ∧ i < l.length then frW l i.toNat else 0#64
theorem Free_spec {x : SW} (H : Zd) (l : List (BitVec 64)) (i : Int) (hl : l.length ≤ 1000000) : F (psys x) 61 [fzW l, iI i] H fun v G => v = iW (freeV l i) ∧ G = H := by
  refine Zs Tryd.func61 rfl u43 rfl ?_
  refine Ze (Za ?_)
  refine Zm (env' := u43) rfl rfl (Zg (VVal.int .u64 0) (.inr rfl) rfl) rfl ?_
  refine Zf (Zc (Ze (Ze (Za ?_))))
  refine Zm (env' := u43) rfl rfl (Zb (.inl rfl) rfl) rfl ?_
  refine Zt rfl rfl rfl (by exact fits_spec _ _) ?_
  rintro _ _ ⟨rfl, rfl⟩
  refine L_env (env' := u43) rfl ?_
  refine Zm (env' := u43) rfl rfl (rfl) rfl ?_
  refine Zm (env' := u43) rfl rfl (Zb (.inl rfl) rfl) rfl ?_
  refine ZH 11 (env1 := u43) (env2 := u43) rfl rfl rfl (fun hg1 => ?_) (fun hg1 => ?_)
  · try simp only [decide_eq_true_eq, decide_eq_false_iff_not, Bool.not_eq_true', Bool.not_eq_false', bne_iff_ne, beq_iff_eq, Bool.and_eq_true, Bool.or_eq_true, Bool.not_eq_true, ge_iff_le, gt_iff_lt, Int.not_le, Int.not_lt, beq_eq_false_iff_ne, bne_eq_false_iff_eq, ne_eq, Decidable.not_not, ZJ, ZZ, ZV] at hg1
    refine L_off (env' := u43) rfl rfl ?_
    refine L_off (env' := u43) rfl rfl ?_
    refine Zm (env' := u43) rfl rfl (Z8 (VVal.bool true) rfl rfl rfl) rfl ?_
    refine Zm (env' := u43) rfl rfl (Zb (.inl rfl) rfl) rfl ?_
    refine L_off (env' := u43) rfl rfl ?_
    refine L_off (env' := u43) rfl rfl ?_
    refine L_off (env' := u43) rfl rfl ?_
    refine L_off (env' := u43) rfl rfl ?_
    refine Zm (env' := u43) rfl rfl (Z8 (VVal.bool true) rfl rfl rfl) rfl ?_
    refine Zf (Zc ?_)
    refine ZX rfl rfl ?_
    refine Ze (Za ?_)
    refine Zm (env' := u43) rfl rfl (Zg (VVal.int .u64 0) (.inr rfl) rfl) rfl ?_
    refine Zf (Zc (Zi (Zo ?_)))
    refine YE (.inr rfl) (Zh rfl rfl) XH11 XH15 ?_
    first
      | exact ⟨by rw [freeV, if_neg (by omega)]; rfl, rfl⟩
      | exact ⟨by rw [freeV, if_pos (by omega)]; rfl, rfl⟩
  · try simp only [decide_eq_true_eq, decide_eq_false_iff_not, Bool.not_eq_true', Bool.not_eq_false', bne_iff_ne, beq_iff_eq, Bool.and_eq_true, Bool.or_eq_true, Bool.not_eq_true, ge_iff_le, gt_iff_lt, Int.not_le, Int.not_lt, beq_eq_false_iff_ne, bne_eq_false_iff_eq, ne_eq, Decidable.not_not, ZJ, ZZ, ZV] at hg1
    refine Zm (env' := u43) rfl rfl (Zb (.inl rfl) rfl) rfl ?_
    refine Zm (env' := u43) rfl rfl (rfl) rfl ?_
    refine Zm (env' := u43) rfl rfl (Yz rfl rfl rfl) rfl ?_
    refine Zm (env' := u43) rfl rfl (Zb (.inl rfl) rfl) rfl ?_
    refine ZH 15 (env1 := u43) (env2 := u43) rfl rfl rfl (fun hg2 => ?_) (fun hg2 => ?_)
    · try simp only [decide_eq_true_eq, decide_eq_false_iff_not, Bool.not_eq_true', Bool.not_eq_false', bne_iff_ne, beq_iff_eq, Bool.and_eq_true, Bool.or_eq_true, Bool.not_eq_true, ge_iff_le, gt_iff_lt, Int.not_le, Int.not_lt, beq_eq_false_iff_ne, bne_eq_false_iff_eq, ne_eq, Decidable.not_not, ZJ, ZZ, ZV] at hg2
      refine L_off (env' := u43) rfl rfl ?_
      refine L_off (env' := u43) rfl rfl ?_
      refine L_off (env' := u43) rfl rfl ?_
      refine L_off (env' := u43) rfl rfl ?_
      refine Zm (env' := u43) rfl rfl (Z8 (VVal.bool true) rfl rfl rfl) rfl ?_
      refine Zf (Zc ?_)
      refine ZX rfl rfl ?_
      refine Ze (Za ?_)
      refine Zm (env' := u43) rfl rfl (Zg (VVal.int .u64 0) (.inr rfl) rfl) rfl ?_
      refine Zf (Zc (Zi (Zo ?_)))
      refine YE (.inr rfl) (Zh rfl rfl) XH11 XH15 ?_
      first
        | exact ⟨by rw [freeV, if_neg (by omega)]; rfl, rfl⟩
        | exact ⟨by rw [freeV, if_pos (by omega)]; rfl, rfl⟩
    · try simp only [decide_eq_true_eq, decide_eq_false_iff_not, Bool.not_eq_true', Bool.not_eq_false', bne_iff_ne, beq_iff_eq, Bool.and_eq_true, Bool.or_eq_true, Bool.not_eq_true, ge_iff_le, gt_iff_lt, Int.not_le, Int.not_lt, beq_eq_false_iff_ne, bne_eq_false_iff_eq, ne_eq, Decidable.not_not, ZJ, ZZ, ZV] at hg2
      refine Zm (env' := u43) rfl rfl (Zb (.inl rfl) rfl) rfl ?_
      refine Zm (env' := u43) rfl rfl (Zb (.inl rfl) rfl) rfl ?_
      refine Zm (env' := u43) rfl rfl (rfl) rfl ?_
      refine Zm (env' := u43) rfl rfl (rfl) rfl ?_
      refine Zm (env' := u43) rfl rfl (Yz rfl rfl rfl) rfl ?_
      refine Zf (Zc ?_)
      refine Zk _ rfl (fun hc3 => ?_) (fun hc3 => ?_)
      · try simp only [decide_eq_true_eq, decide_eq_false_iff_not, Bool.not_eq_true', Bool.not_eq_false', bne_iff_ne, beq_iff_eq, Bool.and_eq_true, Bool.or_eq_true, Bool.not_eq_true, ge_iff_le, gt_iff_lt, Int.not_le, Int.not_lt, beq_eq_false_iff_ne, bne_eq_false_iff_eq, ne_eq, Decidable.not_not, ZJ, ZZ, ZV] at hc3
        refine Ze (Za ?_)
        refine Zm (env' := u43) rfl rfl (Zg (VVal.int .u64 0) (.inr rfl) rfl) rfl ?_
        refine Zf (Zc (Zi (Zo ?_)))
        refine YE (.inr rfl) (Zh rfl rfl) XH11 XH15 ?_
        first
          | exact ⟨by rw [freeV, if_neg (by omega)]; rfl, rfl⟩
          | exact ⟨by rw [freeV, if_pos (by omega)]; rfl, rfl⟩
      · try simp only [decide_eq_true_eq, decide_eq_false_iff_not, Bool.not_eq_true', Bool.not_eq_false', bne_iff_ne, beq_iff_eq, Bool.and_eq_true, Bool.or_eq_true, Bool.not_eq_true, ge_iff_le, gt_iff_lt, Int.not_le, Int.not_lt, beq_eq_false_iff_ne, bne_eq_false_iff_eq, ne_eq, Decidable.not_not, ZJ, ZZ, ZV] at hc3
        refine Zl (Zc (Ze (Za ?_)))
        have hne : l ≠ [] := fun e => by have h9 := congrArg List.length e; simp only [List.length_nil] at h9; omega
        refine Zm (env' := u43) rfl rfl (Zb (.inl rfl) rfl) rfl ?_
        refine Zt rfl rfl rfl (by exact Clone_L _ _ _ hne hl) ?_
        rintro _ _ ⟨rfl, rfl⟩
        refine L_env (env' := u43) rfl ?_
        refine Zm (env' := u43) rfl rfl (Zb (.inl rfl) rfl) rfl ?_
        refine Zm (env' := u43) rfl rfl (Zb (.inl rfl) rfl) rfl ?_
        refine Zm (env' := u43) rfl rfl (v_addI rfl rfl rfl XH1) rfl ?_
        refine Zt rfl rfl rfl (by exact Del_atI _ _ i _ (by omega) (by omega) hl) ?_
        rintro _ _ ⟨rfl, rfl⟩
        refine L_env (env' := u43) rfl ?_
        refine Zm (env' := u43) rfl rfl (ZF rfl rfl) rfl ?_
        refine Zm (env' := u43) rfl rfl (ZF rfl rfl) rfl ?_
        refine Zm (env' := u43) rfl rfl (Z4 rfl rfl rfl rfl rfl rfl rfl XH7 XH6 XH18) rfl ?_
        refine Zm (env' := u43) rfl rfl (YJ (VVal.int .u64 0) rfl rfl rfl rfl rfl rfl rfl XH7 XH6 XH18) rfl ?_
        refine Zf (Zc (Ze (Ze (Za ?_))))
        refine Zm (env' := u43) rfl rfl (Zb (.inl rfl) rfl) rfl ?_
        refine Zm (env' := u43) rfl rfl (Zb (.inl rfl) rfl) rfl ?_
        refine Zm (env' := u43) rfl rfl XH34 rfl ?_
        refine Zm (env' := u43) rfl rfl XH35 rfl ?_
        refine Zt rfl rfl rfl (by exact mset_spec _ _) ?_
        rintro _ _ ⟨rfl, rfl⟩
        refine L_env (env' := u43) rfl ?_
        refine Zt rfl rfl rfl (by exact All_spec _ _) ?_
        rintro _ _ ⟨rfl, rfl⟩
        refine L_env (env' := u43) rfl ?_
        refine Zf (Zc (Zn ?_))
        refine ZB [true,true,true,true,true,false,false,true,true,true,true,true,true,true,true,true,true,true,true,true,true,true,true,true,true,true,true,true,true,true,true,true,false,true,true,true,true,true,true,true,true,true,true] (env' := u43) rfl ?_
        refine B_rangeM cI (pl (l.getD i.toNat 0) 0) (fun l0 h => by cases h) rfl (fun l G R h => All1_spec _ _ _ _ h) (σ := BitVec 64) (fun k s => H ++ [.dead, .cells [fzW (l.eraseIdx i.toNat)] true, .cells [iW s] true, k]) 0#64 (fun k => by rw [List.append_assoc]; rfl) (fun k s => by rw [List.length_append]; exact Zz rfl rfl) (fun k k1 s => by rw [List.length_append]; exact ZG rfl) (fun pre s => s = frF l i.toNat pre) ?_ (fun j pre c s => False) rfl ?_ ?_ ?_
        · rfl
        · intro pre c post s hx hI kr kb hkr hkb
          try dsimp only at hI ⊢
          subst hI
          have hc : c ∈ pl (l.getD i.toNat 0) 0 := by rw [hx]; simp
          obtain ⟨_, hc64, hcb⟩ := mem_pl.1 hc
          refine Z6 (env' := u43) rfl ?_
          refine Za ?_
          refine Zm (env' := u43) rfl rfl (Zb (.inr rfl) rfl) rfl ?_
          refine Zf ?_
          refine ⟨rfl, (frF l i.toNat pre), rfl, ?_⟩
          try dsimp only
          refine Zn (Ze ?_)
          refine ZY [0, 1, 2, 3] #[0, 0, 2, 7] XH5 XH5 XH5 ?_
          refine ZT (env' := u43) (c := .look) rfl rfl rfl XH35 rfl rfl rfl ?_
          refine ZT (env' := u43) (c := .calm) rfl rfl rfl (Zb (.inl rfl) rfl) rfl rfl rfl ?_
          refine ZT (env' := u43) (c := .calm) rfl rfl rfl (v_shl1 rfl rfl rfl XH1) rfl rfl rfl ?_
          refine Ye (env' := u43) rfl rfl rfl rfl rfl (by exact full_spec _ _ _ (by first | assumption | (rw [List.length_eraseIdx_of_lt (by omega)]; omega))) XH10 rfl rfl ?_
          refine Yf [] XH5 (trivial) ?_
          refine Zc ?_
          refine Zk _ rfl (fun hc4 => ?_) (fun hc4 => ?_)
          · try simp only [decide_eq_true_eq, decide_eq_false_iff_not, Bool.not_eq_true', Bool.not_eq_false', bne_iff_ne, beq_iff_eq, Bool.and_eq_true, Bool.or_eq_true, Bool.not_eq_true, ge_iff_le, gt_iff_lt, Int.not_le, Int.not_lt, beq_eq_false_iff_ne, bne_eq_false_iff_eq, ne_eq, Decidable.not_not, ZJ, ZZ, ZV] at hc4
            refine ZY [0, 1, 2, 3, 4] #[0, 0, 2, 7, 15] XH5 XH5 XH5 ?_
            refine ZT (env' := u43) (c := .look) rfl rfl rfl XH35 rfl rfl rfl ?_
            refine ZT (env' := u43) (c := .calm) rfl rfl rfl (Zb (.inl rfl) rfl) rfl rfl rfl ?_
            refine ZT (env' := u43) (c := .calm) rfl rfl rfl (v_shl1 rfl rfl rfl XH1) rfl rfl rfl ?_
            refine ZT (env' := u43) (c := .calm) rfl rfl rfl (v_orW rfl rfl rfl) rfl rfl rfl ?_
            refine ZT (env' := u43) (c := .turn) rfl rfl rfl (Z4 rfl rfl rfl rfl rfl rfl rfl XH7 XH6 XH18) rfl rfl rfl ?_
            refine Yf [] XH5 (trivial) ?_
            refine Zx ?_
            refine ⟨_, rfl, .inl ⟨rfl, ?_⟩⟩
            rw [frF_snoc]
            first
              | rw [if_pos (by assumption)]; rfl
              | rw [if_neg (not_of_f (by assumption))]
          · try simp only [decide_eq_true_eq, decide_eq_false_iff_not, Bool.not_eq_true', Bool.not_eq_false', bne_iff_ne, beq_iff_eq, Bool.and_eq_true, Bool.or_eq_true, Bool.not_eq_true, ge_iff_le, gt_iff_lt, Int.not_le, Int.not_lt, beq_eq_false_iff_ne, bne_eq_false_iff_eq, ne_eq, Decidable.not_not, ZJ, ZZ, ZV] at hc4
            refine Zl (Zx ?_)
            refine ⟨_, rfl, .inl ⟨rfl, ?_⟩⟩
            rw [frF_snoc]
            first
              | rw [if_pos (by assumption)]; rfl
              | rw [if_neg (not_of_f (by assumption))]
        · intro s k hk hI
          try dsimp only at hI ⊢
          subst hI
          refine Zx (Zc (Ze (Za ?_)))
          refine Zm (env' := u43) rfl rfl XH35 rfl ?_
          refine Zm (env' := u43) rfl rfl (Zb (.inr rfl) rfl) rfl ?_
          refine Zf (Zc (Zi ?_))
          refine YE (.inr rfl) (Zh rfl rfl) XH11 XH15 ?_
          first
            | exact ⟨by rw [freeV, if_neg (by omega)]; rfl, rfl⟩
            | exact ⟨by rw [freeV, if_pos (by omega)]; rfl, rfl⟩
        · rintro j pre c post s k hk hx ⟨⟩
end MM
open Go Go.V Go.RowKit
abbrev u77 {a0 a1 a2 a3 a4 a5 a6 a7 a8 a9 a10 a11 a12 a13 a14 a15 a16 a17 a18 a19 a20 a21 a22 a23 a24 a25 a26 a27 a28 a29 a30 a31 a32 a33 a34 a35 a36 a37 a38 a39 a40 a41 a42 a43 a44 a45 a46 a47 a48 a49 a50 a51 a52 a53 a54 a55 a56 a57 a58 a59 a60 a61 a62 a63 a64 a65 a66 a67 a68 a69 a70 a71 a72 a73 a74 a75 a76 : VVal} : VEnv := a0 :: a1 :: a2 :: a3 :: a4 :: a5 :: a6 :: a7 :: a8 :: a9 :: a10 :: a11 :: a12 :: a13 :: a14 :: a15 :: a16 :: a17 :: a18 :: a19 :: a20 :: a21 :: a22 :: a23 :: a24 :: a25 :: a26 :: a27 :: a28 :: a29 :: a30 :: a31 :: a32 :: a33 :: a34 :: a35 :: a36 :: a37 :: a38 :: a39 :: a40 :: a41 :: a42 :: a43 :: a44 :: a45 :: a46 :: a47 :: a48 :: a49 :: a50 :: a51 :: a52 :: a53 :: a54 :: a55 :: a56 :: a57 :: a58 :: a59 :: a60 :: a61 :: a62 :: a63 :: a64 :: a65 :: a66 :: a67 :: a68 :: a69 :: a70 :: a71 :: a72 :: a73 :: a74 :: a75 :: a76 :: []
namespace MM
theorem minW {a b : BitVec 64} : (if (b.toNat : Int) < (a.toNat : Int) then (b.toNat : Int) else (a.toNat : Int)) = ((ZK a b.toNat).toNat : Int) := by
  rw [Ya]; split <;> omega
theorem rep_w : ∀ {n : Nat}, Zw [VVal.int .u64 0] n = (List.replicate n 0#64).map iW
  | 0 => rfl
  | n + 1 => by rw [Zw, rep_w, List.replicate_succ]; rfl
section
variable {T : TypeId → Option VTy} {ρ : Operand → VVal} {H : Zd} {op : Op}
theorem pow12 {i : Nat} (h : i ≤ 12) : 2 ^ i ≤ 4096 := Nat.pow_le_pow_right (by decide) h
theorem v_shlI1 {t ty : TypeId} {y : Operand} {k : IntKind} {i : Nat} (ho : op = .binOp .shl t (.const (.int .i64 1)) y ty) (hy : ρ y = .int k (i : Nat)) (hr : ρ (.const (.int .i64 1)) = .int .i64 1) (h : i ≤ 12) : vop T ρ H op = some (.int .i64 ((2 ^ i : Nat) : Int), H) := by
  rw [ho]; simp only [vop, hr, hy, vbin, vshift]
  rw [if_neg (by omega), show min (i : Int).toNat IntKind.i64.bits = i from by show min (i : Int).toNat 64 = i; omega, Int.one_mul]
  have e : (2 : Int) ^ i = ((2 ^ i : Nat) : Int) := by rw [Int.natCast_pow]; rfl
  have := pow12 h
  rw [e]
  generalize 2 ^ i = p at this ⊢
  rw [wrap_i _ (by omega)]; rfl
theorem v_shrI {t ty : TypeId} {x y : Operand} {k : IntKind} {s i : Nat} (ho : op = .binOp .shr t x y ty) (hx : ρ x = .int .i64 (s : Nat)) (hy : ρ y = .int k (i : Nat)) (h : i ≤ 12) : vop T ρ H op = some (.int .i64 ((s / 2 ^ i : Nat) : Int), H) := by
  rw [ho]; simp only [vop, hx, hy, vbin, vshift]
  rw [if_neg (by omega), show min (i : Int).toNat IntKind.i64.bits = i from by show min (i : Int).toNat 64 = i; omega]
  have e : (2 : Int) ^ i = ((2 ^ i : Nat) : Int) := by rw [Int.natCast_pow]; rfl
  rw [e, ← Int.ofNat_fdiv]; rfl
end
theorem and1 {n : Nat} (h : n < 2 ^ 63) : vbits .and .i64 (n : Int) 1 = ((n % 2 : Nat) : Int) := by
  show IntKind.i64.wrap ((BitVec.ofInt 64 (n : Int) &&& BitVec.ofInt 64 ((1 : Nat) : Int)).toNat : Int) = _
  rw [BitVec.ofInt_natCast, BitVec.ofInt_natCast, BitVec.toNat_and, BitVec.toNat_ofNat, BitVec.toNat_ofNat, Nat.mod_eq_of_lt (Nat.lt_trans h (by decide)), Nat.mod_eq_of_lt (by decide : 1 < 2 ^ 64), show (1 : Nat) = 2 ^ 1 - 1 from rfl, Nat.and_two_pow_sub_one_eq_mod]
  exact wrap_i _ (by have : n % 2 ^ 1 < 2 := Nat.mod_lt _ (by decide); omega)
theorem tb_is {s i : Nat} (hs : s < 4096) : (vbits .and .i64 ((s / 2 ^ i : Nat) : Int) 1 == 1) = s.testBit i := by
  have h1 : s / 2 ^ i ≤ s := Nat.div_le_self _ _
  rw [and1 (by omega), Nat.testBit_eq_decide_div_mod_eq, Bool.eq_iff_iff, beq_iff_eq, decide_eq_true_eq]; omega
theorem andNot_less {s i : Nat} (hs : s < 4096) (hi : i ≤ 12) (h : s.testBit i = true) : vbits .andNot .i64 (s : Int) ((2 ^ i : Nat) : Int) = ((less s i : Nat) : Int) := by
  have hl := less_lt h
  have hp := pow12 hi
  show IntKind.i64.wrap ((BitVec.ofInt 64 (s : Int) &&& ~~~(BitVec.ofInt 64 ((2 ^ i : Nat) : Int))).toNat : Int) = _
  have e : (BitVec.ofInt 64 (s : Int) &&& ~~~(BitVec.ofInt 64 ((2 ^ i : Nat) : Int))).toNat = less s i := by
    rw [BitVec.ofInt_natCast, BitVec.ofInt_natCast]
    apply Nat.eq_of_testBit_eq
    intro j
    rw [less_bit h]
    by_cases hj : j < 64
    · have : (BitVec.ofNat 64 s &&& ~~~BitVec.ofNat 64 (2 ^ i)).getLsbD j = (s.testBit j && decide (j ≠ i)) := by
        rw [BitVec.getLsbD_and, BitVec.getLsbD_not, BitVec.getLsbD_ofNat, BitVec.getLsbD_ofNat, Nat.testBit_two_pow, decide_eq_true hj]
        by_cases e : j = i
        · subst e; simp
        · have : ¬ i = j := fun x => e x.symm
          simp [e, this]
      exact this
    · have h1 : s.testBit j = false := Nat.testBit_lt_two_pow (Nat.lt_of_lt_of_le (show s < 2 ^ 12 from hs) (Nat.pow_le_pow_right (by decide) (by omega)))
      rw [h1, Bool.false_and]
      exact Nat.testBit_lt_two_pow (Nat.lt_of_lt_of_le (BitVec.isLt _) (Nat.pow_le_pow_right (by decide) (by omega)))
  rw [e]
  exact wrap_i _ (by omega)
theorem way_start {rows : List (BitVec 64)} {most : BitVec 64} : (List.replicate (2 ^ rows.length) 0#64).set 0 (ZK most 1) = wayL rows.length (wU rows most 0) := by
  have h0 : List.replicate (2 ^ rows.length) 0#64 = wayL rows.length fun _ => 0#64 := by
    unfold wayL
    rw [List.map_const', List.length_range]
  rw [h0]
  refine wayL_set ?_ fun s hs hne => ?_
  · unfold wU; rw [wS_0]
  · unfold wU; rw [wS_start hs, if_neg hne, satW_0]
theorem way_top {rows : List (BitVec 64)} {most : BitVec 64} {u : Nat} : wayL rows.length (wU rows most u) = wayL rows.length (wF rows most u (2 ^ rows.length - 1) 0) := wayL_congr fun s hs => by
  unfold wU wF; rw [if_neg (by omega)]; split
  · rename_i h; subst h; rfl
  · rfl
theorem way_down {rows : List (BitVec 64)} {most : BitVec 64} {u s : Nat} (hu : u < 64) (hs : 0 < s) : wayL rows.length (wF rows most u s rows.length) = wayL rows.length (wF rows most u (s - 1) 0) := wayL_congr fun s' hs' => by
  unfold wF
  by_cases h1 : s < s'
  · rw [if_pos h1, if_pos (by omega)]
  · by_cases h2 : s' = s
    · subst h2; rw [if_neg h1, if_pos rfl, if_pos (by omega), wP_all hu]
    · rw [if_neg h1, if_neg h2, if_neg (by omega)]
      by_cases h3 : s' = s - 1
      · rw [if_pos h3, h3]; rfl
      · rw [if_neg h3]
theorem way_end {rows : List (BitVec 64)} {most : BitVec 64} {u : Nat} : wayL rows.length (wF rows most u 0 0) = wayL rows.length (wU rows most (u + 1)) := wayL_congr fun s' _ => by
  unfold wF wU
  by_cases h : s' = 0
  · subst h; rw [if_neg (by omega), if_pos rfl, wS_0]; show ZK most (wS rows u 0) = _; rw [wS_0]
  · rw [if_pos (by omega)]
theorem way_set {rows : List (BitVec 64)} {most : BitVec 64} {u s k : Nat} (hm : most.toNat ≤ 65536) (hs : s < 2 ^ rows.length) (h1 : s.testBit k = true) (h2 : (rows.getD k 0).getLsbD u = true) :
    (wayL rows.length (wF rows most u s k)).set s (ZK most (wP rows u s k + wS rows u (less s k))) = wayL rows.length (wF rows most u s (k + 1)) := by
  refine wayL_set ?_ fun s' hs' hne => ?_
  · unfold wF; rw [if_neg (by omega), if_pos rfl, wP, if_pos ⟨h1, h2⟩]
  · unfold wF; rw [if_neg hne, if_neg hne]
theorem way_same {rows : List (BitVec 64)} {most : BitVec 64} {u s k : Nat} (h : ¬ (s.testBit k = true ∧ (rows.getD k 0).getLsbD u = true)) : wF rows most u s k = wF rows most u s (k + 1) := by
  funext s'
  unfold wF; rw [wP, if_neg h]
theorem way_at {rows : List (BitVec 64)} {most : BitVec 64} {u s k : Nat} (hs : s < 2 ^ rows.length) : (wayL rows.length (wF rows most u s k)).getD s 0 = ZK most (wP rows u s k) := by
  rw [wayL_get hs]; unfold wF; rw [if_neg (by omega), if_pos rfl]
theorem way_less {rows : List (BitVec 64)} {most : BitVec 64} {u s k i : Nat} (hs : s < 2 ^ rows.length) (h : s.testBit i = true) : (wayL rows.length (wF rows most u s k)).getD (less s i) 0 = ZK most (wS rows u (less s i)) := by
  have hl := less_lt h
  rw [wayL_get (by omega)]; unfold wF; rw [if_neg (by omega), if_neg (by omega)]
def coV (rows : List (BitVec 64)) (m : BitVec 64) : BitVec 64 := if rows.length ≤ 12 then ZK m (cnT rows 0#64) else 0#64
theorem mCount_spec {x : SW} (H : Zd) (rows : List (BitVec 64)) (most : BitVec 64) (hl : rows.length ≤ 1000000) : F (psys x) 58 [fzW rows, iW most] H fun v G => v = iW (coV rows (ZK most 65536)) ∧ G = H := by
  refine Zs Tryd.func58 rfl u77 rfl ?_
  refine Ze (Za ?_)
  refine Zm (env' := u77) rfl rfl (Zg (VVal.int .u64 0) (.inr rfl) rfl) rfl ?_
  refine Zf (Zc (Ze (Ze (Za ?_))))
  refine Zm (env' := u77) rfl rfl (Zb (.inl rfl) rfl) rfl ?_
  refine Zt rfl rfl rfl (by exact fits_spec _ _) ?_
  rintro _ _ ⟨rfl, rfl⟩
  refine L_env (env' := u77) rfl ?_
  refine Zm (env' := u77) rfl rfl (rfl) rfl ?_
  refine Zf (Zc ?_)
  refine Zk _ rfl (fun hc1 => ?_) (fun hc1 => ?_)
  · try simp only [decide_eq_true_eq, decide_eq_false_iff_not, Bool.not_eq_true', Bool.not_eq_false', bne_iff_ne, beq_iff_eq, Bool.and_eq_true, Bool.or_eq_true, Bool.not_eq_true, ge_iff_le, gt_iff_lt, Int.not_le, Int.not_lt, beq_eq_false_iff_ne, bne_eq_false_iff_eq, ne_eq, Decidable.not_not, ZJ, ZZ, ZV] at hc1
    refine Ze (Za ?_)
    refine Zm (env' := u77) rfl rfl (Zg (VVal.int .u64 0) (.inr rfl) rfl) rfl ?_
    refine Zf (Zc (Zi (Zo ?_)))
    refine YE (.inr rfl) (Zh rfl rfl) XH11 XH15 ?_
    first
      | exact ⟨by rw [coV, if_neg (by omega)]; rfl, rfl⟩
      | (obtain rfl : u = 64 := by omega); exact ⟨by rw [coV, if_pos (by omega), show (wayL rows.length (wU rows (ZK most 65536) 64)).getD ((2 ^ rows.length - 1 : Nat) : Int).toNat 0 = _ from wayL_get (by omega)]; unfold wU; rw [Int.toNat_natCast, wS_end], rfl⟩
  · try simp only [decide_eq_true_eq, decide_eq_false_iff_not, Bool.not_eq_true', Bool.not_eq_false', bne_iff_ne, beq_iff_eq, Bool.and_eq_true, Bool.or_eq_true, Bool.not_eq_true, ge_iff_le, gt_iff_lt, Int.not_le, Int.not_lt, beq_eq_false_iff_ne, bne_eq_false_iff_eq, ne_eq, Decidable.not_not, ZJ, ZZ, ZV] at hc1
    refine Zl (Zc (Ze (Za ?_)))
    have hm : (ZK most 65536).toNat ≤ 65536 := by rw [Ya]; omega
    have hp := pow12 (i := rows.length) (by omega)
    have hp0 : 0 < 2 ^ rows.length := Nat.two_pow_pos _
    refine Zm (env' := u77) rfl rfl (Zb (.inl rfl) rfl) rfl ?_
    refine Zm (env' := u77) rfl rfl (YL rfl ((congrArg (VVal.int .u64) (minW (a := most) (b := 65536#64))).trans rfl)) rfl ?_
    refine Zm (env' := u77) rfl rfl (Zb (.inr rfl) rfl) rfl ?_
    refine Zf (Zc (Ze (Za ?_)))
    refine Zm (env' := u77) rfl rfl (Zb (.inl rfl) rfl) rfl ?_
    refine Zm (env' := u77) rfl rfl (rfl) rfl ?_
    refine Zm (env' := u77) rfl rfl (v_shlI1 rfl rfl rfl (by omega)) rfl ?_
    refine Zm (env' := u77) rfl rfl (v_makeSlice rfl rfl rfl rfl rfl (by decide) ⟨by omega, Int.le_refl _, by show ((2 ^ rows.length : Nat) : Int) * (8 : Nat) ≤ _; omega, by omega⟩) rfl ?_
    refine L_heap (H' := H ++ [.cells ((List.replicate (2 ^ rows.length) 0#64).map iW) true]) (by show _ ++ [VBlk.cells (Zw [VVal.int .u64 0] _) true] = _; rw [rep_w]; rfl) ?_
    refine Zm (env' := u77) rfl rfl (Zb (.inr rfl) rfl) rfl ?_
    refine Zf (Zc (Ze (Za ?_)))
    refine Zm (env' := u77) rfl rfl (Zb (.inl rfl) rfl) rfl ?_
    refine Zm (env' := u77) rfl rfl (Zb (.inl rfl) rfl) rfl ?_
    refine Zm (env' := u77) rfl rfl (YL rfl ((congrArg (VVal.int .u64) (minW (a := 1#64) (b := (ZK most 65536)))).trans (by rw [show ZK 1#64 (ZK most 65536).toNat = ZK (ZK most 65536) 1 from by apply BitVec.eq_of_toNat_eq; rw [Ya, Ya (most := (ZK most 65536)) (n := 1)]; exact Nat.min_comm _ _]))) rfl ?_
    refine Zm (env' := u77) rfl rfl (by first | exact v_idxF rfl rfl rfl rfl rfl rfl rfl (by show (0 : Int) ≤ 0 ∧ (0 : Int) < ((2 ^ rows.length : Nat) : Int); omega) | exact v_idx rfl rfl rfl rfl rfl rfl rfl (by show (0 : Int) ≤ 0 ∧ (0 : Int) < ((2 ^ rows.length : Nat) : Int); omega)) rfl ?_
    refine Zm (env' := u77) rfl rfl (Z4 rfl rfl rfl rfl rfl rfl rfl XH7 (by rw [List.length_map, List.length_replicate]; show 0 + 0 * 1 + 1 ≤ _; omega) (by exact (ZG rfl).trans (congrArg (fun c => H ++ [VBlk.cells c true]) ((splice_w (l := List.replicate (2 ^ rows.length) 0#64) (k := 0) (w := ZK (ZK most 65536) 1) (by rw [List.length_replicate]; omega)).trans (by rw [way_start]))))) rfl ?_
    refine Zf (Zc (Ze (Ze (Za ?_))))
    refine Zm (env' := u77) rfl rfl (Zg (VVal.int .i64 0) (.inl rfl) rfl) rfl ?_
    refine Zf (Zc (Zn ?_))
    refine ZB (false :: false :: true :: true :: true :: false :: true :: true :: true :: true :: true :: true :: true :: true :: true :: true :: true :: true :: true :: true :: true :: true :: true :: false :: true :: true :: true :: true :: true :: true :: true :: true :: true :: true :: true :: true :: true :: true :: true :: true :: true :: true :: true :: true :: true :: true :: true :: true :: true :: true :: true :: true :: true :: true :: true :: true :: true :: true :: true :: true :: true :: true :: true :: true :: true :: true :: true :: true :: true :: true :: true :: true :: true :: true :: true :: true :: true :: []) (env' := u77) rfl ?_
    refine ZO (fun (u : Nat) => 64 - u) (fun (u : Nat) => [(23, iI (u : Nat))]) (fun (u : Nat) G => (u ≤ 64) ∧ G = H ++ [.cells ((wayL rows.length (wU rows (ZK most 65536) u)).map iW) true]) 0 rfl ?_ ?_
    · refine ⟨?_, rfl⟩
      exact Nat.zero_le _
    rintro u _ ⟨hu, rfl⟩
    refine Z6 (env' := u77) rfl ?_
    refine Ze (Za ?_)
    refine Zm (env' := u77) rfl rfl (rfl) rfl ?_
    refine Zf (Zc (Ze ?_))
    refine Zk _ rfl (fun hc2 => ?_) (fun hc2 => ?_)
    · try simp only [decide_eq_true_eq, decide_eq_false_iff_not, Bool.not_eq_true', Bool.not_eq_false', bne_iff_ne, beq_iff_eq, Bool.and_eq_true, Bool.or_eq_true, Bool.not_eq_true, ge_iff_le, gt_iff_lt, Int.not_le, Int.not_lt, beq_eq_false_iff_ne, bne_eq_false_iff_eq, ne_eq, Decidable.not_not, ZJ, ZZ, ZV] at hc2
      refine Zl (Zc (Ze (Zn (Ze (Za ?_)))))
      refine Zm (env' := u77) rfl rfl (Zb (.inl rfl) rfl) rfl ?_
      refine Zm (env' := u77) rfl rfl (Zb (.inr rfl) rfl) rfl ?_
      refine Zf (Zc (Ze (Za ?_)))
      refine Zm (env' := u77) rfl rfl (Zb (.inl rfl) rfl) rfl ?_
      refine Zm (env' := u77) rfl rfl (rfl) rfl ?_
      refine Zm (env' := u77) rfl rfl (YL (v_subI rfl rfl rfl (by show -9223372036854775808 ≤ ((2 ^ rows.length : Nat) : Int) - 1 ∧ ((2 ^ rows.length : Nat) : Int) - 1 < 9223372036854775808; omega)) (congrArg iI (show ((2 ^ rows.length : Nat) : Int) - 1 = ((2 ^ rows.length - 1 : Nat) : Int) by omega))) rfl ?_
      refine Zm (env' := u77) rfl rfl (Zb (.inr rfl) rfl) rfl ?_
      refine Zf (Zc (Zn ?_))
      refine ZB (false :: false :: true :: true :: true :: false :: false :: false :: true :: true :: true :: true :: true :: true :: true :: true :: true :: true :: true :: true :: true :: true :: true :: false :: true :: true :: true :: true :: true :: true :: true :: true :: true :: true :: true :: true :: true :: true :: true :: true :: true :: true :: true :: true :: true :: true :: true :: true :: true :: true :: true :: true :: true :: true :: true :: true :: true :: true :: true :: true :: true :: true :: true :: true :: true :: true :: true :: true :: true :: true :: true :: true :: true :: true :: true :: true :: true :: []) (env' := u77) rfl ?_
      refine ZO (fun (s : Nat) => s) (fun (s : Nat) => [(7, iI (s : Nat))]) (fun (s : Nat) G => (s < 2 ^ rows.length) ∧ G = H ++ [.cells ((wayL rows.length (wF rows (ZK most 65536) u s 0)).map iW) true]) (2 ^ rows.length - 1) rfl ?_ ?_
      · refine ⟨?_, (by rw [way_top])⟩
        omega
      rintro s _ ⟨hs, rfl⟩
      refine Z6 (env' := u77) rfl ?_
      refine Ze (Ze (Za ?_))
      refine Zm (env' := u77) rfl rfl (Zb (.inl rfl) rfl) rfl ?_
      refine Zm (env' := u77) rfl rfl (rfl) rfl ?_
      refine Zf (Zc ?_)
      refine Zk _ rfl (fun hc3 => ?_) (fun hc3 => ?_)
      · try simp only [decide_eq_true_eq, decide_eq_false_iff_not, Bool.not_eq_true', Bool.not_eq_false', bne_iff_ne, beq_iff_eq, Bool.and_eq_true, Bool.or_eq_true, Bool.not_eq_true, ge_iff_le, gt_iff_lt, Int.not_le, Int.not_lt, beq_eq_false_iff_ne, bne_eq_false_iff_eq, ne_eq, Decidable.not_not, ZJ, ZZ, ZV] at hc3
        refine Zl (Zc (Ze (Zn (Ze (Za ?_)))))
        refine Zm (env' := u77) rfl rfl (Zb (.inl rfl) rfl) rfl ?_
        refine Zm (env' := u77) rfl rfl (rfl) rfl ?_
        refine Zm (env' := u77) rfl rfl (Zg (VVal.int .i64 0) (.inl rfl) rfl) rfl ?_
        refine Zf (Zc (Zn ?_))
        refine ZB (false :: false :: true :: true :: true :: false :: false :: false :: true :: true :: true :: true :: true :: true :: true :: true :: true :: true :: true :: true :: true :: true :: true :: false :: true :: true :: true :: true :: true :: true :: true :: true :: true :: false :: false :: false :: true :: true :: true :: true :: true :: true :: true :: true :: true :: true :: true :: true :: true :: true :: true :: true :: true :: true :: true :: true :: true :: true :: true :: true :: true :: true :: true :: true :: true :: true :: true :: true :: true :: true :: true :: true :: true :: true :: true :: true :: true :: []) (env' := u77) rfl ?_
        refine ZO (fun (k : Nat) => rows.length - k) (fun (k : Nat) => [(35, iI (k : Nat))]) (fun (k : Nat) G => (k ≤ rows.length) ∧ G = H ++ [.cells ((wayL rows.length (wF rows (ZK most 65536) u s k)).map iW) true]) 0 rfl ?_ ?_
        · refine ⟨?_, rfl⟩
          exact Nat.zero_le _
        rintro k _ ⟨hk, rfl⟩
        refine Z6 (env' := u77) rfl ?_
        refine Ze (Za ?_)
        refine Zm (env' := u77) rfl rfl (rfl) rfl ?_
        refine Zf (Zc (Ze ?_))
        refine Zk _ rfl (fun hc4 => ?_) (fun hc4 => ?_)
        · try simp only [decide_eq_true_eq, decide_eq_false_iff_not, Bool.not_eq_true', Bool.not_eq_false', bne_iff_ne, beq_iff_eq, Bool.and_eq_true, Bool.or_eq_true, Bool.not_eq_true, ge_iff_le, gt_iff_lt, Int.not_le, Int.not_lt, beq_eq_false_iff_ne, bne_eq_false_iff_eq, ne_eq, Decidable.not_not, ZJ, ZZ, ZV] at hc4
          refine Zl (Zc (Ze (Zn (Ze (Za ?_)))))
          refine Zm (env' := u77) rfl rfl (Zb (.inl rfl) rfl) rfl ?_
          refine Zm (env' := u77) rfl rfl XH34 rfl ?_
          refine Zm (env' := u77) rfl rfl (by first | exact v_loadF rfl rfl rfl rfl (by first | exact fget (α := BitVec 64) 0 (by omega) | exact fget0 (α := BitVec 64) 0 (by omega) | rfl) | exact v_load rfl rfl rfl rfl XH7 (by first | exact fget (α := BitVec 64) 0 (by omega) | exact fget0 (α := BitVec 64) 0 (by omega) | rfl)) rfl ?_
          refine Zm (env' := u77) rfl rfl (Zb (.inr rfl) rfl) rfl ?_
          refine Zm (env' := u77) rfl rfl (Zb (.inr rfl) rfl) rfl ?_
          refine Zf (Zc (Ze (Za ?_)))
          refine Zm (env' := u77) rfl rfl (Zb (.inl rfl) rfl) rfl ?_
          refine Zm (env' := u77) rfl rfl (Zb (.inl rfl) rfl) rfl ?_
          refine Zm (env' := u77) rfl rfl (v_shrI rfl rfl rfl (by omega)) rfl ?_
          refine Zm (env' := u77) rfl rfl (rfl) rfl ?_
          refine Zm (env' := u77) rfl rfl (v_is (s.testBit k) rfl (tb_is (by omega))) rfl ?_
          refine Zm (env' := u77) rfl rfl (Zb (.inl rfl) rfl) rfl ?_
          refine ZH 45 (env1 := u77) (env2 := u77) rfl rfl rfl (fun hg5 => ?_) (fun hg5 => ?_)
          · try simp only [decide_eq_true_eq, decide_eq_false_iff_not, Bool.not_eq_true', Bool.not_eq_false', bne_iff_ne, beq_iff_eq, Bool.and_eq_true, Bool.or_eq_true, Bool.not_eq_true, ge_iff_le, gt_iff_lt, Int.not_le, Int.not_lt, beq_eq_false_iff_ne, bne_eq_false_iff_eq, ne_eq, Decidable.not_not, ZJ, ZZ, ZV] at hg5
            refine Zm (env' := u77) rfl rfl (Zb (.inl rfl) rfl) rfl ?_
            refine Zm (env' := u77) rfl rfl (Zb (.inl rfl) rfl) rfl ?_
            refine Zm (env' := u77) rfl rfl (v_shrW rfl rfl rfl XH1) rfl ?_
            refine Zm (env' := u77) rfl rfl (v_andW (b := 1#64) rfl rfl rfl) rfl ?_
            refine Zm (env' := u77) rfl rfl (rfl) rfl ?_
            refine Zm (env' := u77) rfl rfl (ZN rfl rfl rfl) rfl ?_
            refine Zf (Zc ?_)
            refine Zk _ rfl (fun hc6 => ?_) (fun hc6 => ?_)
            · try simp only [decide_eq_true_eq, decide_eq_false_iff_not, Bool.not_eq_true', Bool.not_eq_false', bne_iff_ne, beq_iff_eq, Bool.and_eq_true, Bool.or_eq_true, Bool.not_eq_true, ge_iff_le, gt_iff_lt, Int.not_le, Int.not_lt, beq_eq_false_iff_ne, bne_eq_false_iff_eq, ne_eq, Decidable.not_not, ZJ, ZZ, ZV] at hc6
              refine ZY [0, 1, 2, 3, 4, 5, 6, 7, 8, 9, 10, 11, 12, 13, 14, 15, 16, 17] #[0, 0, 0, 0, 12, 28, 0, 0, 0, 256, 896, 1984, 4032, 8188, 0, 32764, 65535, 131071] XH5 XH5 XH5 ?_
              refine ZT (env' := u77) (c := .calm) rfl rfl rfl (Zb (.inl rfl) rfl) rfl rfl rfl ?_
              refine ZT (env' := u77) (c := .calm) rfl rfl rfl (Zb (.inl rfl) rfl) rfl rfl rfl ?_
              refine ZT (env' := u77) (c := .calm) rfl rfl rfl (Zb (.inl rfl) rfl) rfl rfl rfl ?_
              refine ZT (env' := u77) (c := .calm) rfl rfl rfl (Zb (.inl rfl) rfl) rfl rfl rfl ?_
              refine ZT (env' := u77) (c := .calm) rfl rfl rfl XH34 rfl rfl rfl ?_
              refine ZT (env' := u77) (c := .look) rfl rfl rfl (by first | exact v_loadF rfl rfl rfl rfl (by exact fget0 (α := BitVec 64) (l := wayL rows.length (wF rows (ZK most 65536) u s k)) (n := (s : Nat)) 0 (by rw [wayL_len]; omega)) | exact v_load rfl rfl rfl rfl XH7 (by exact fget0 (α := BitVec 64) (l := wayL rows.length (wF rows (ZK most 65536) u s k)) (n := (s : Nat)) 0 (by rw [wayL_len]; omega))) rfl rfl rfl ?_
              refine ZT (env' := u77) (c := .calm) rfl rfl rfl (Zb (.inl rfl) rfl) rfl rfl rfl ?_
              refine ZT (env' := u77) (c := .calm) rfl rfl rfl (Zb (.inl rfl) rfl) rfl rfl rfl ?_
              refine ZT (env' := u77) (c := .calm) rfl rfl rfl (Zb (.inl rfl) rfl) rfl rfl rfl ?_
              refine ZT (env' := u77) (c := .calm) rfl rfl rfl (v_shlI1 rfl rfl rfl (by omega)) rfl rfl rfl ?_
              refine ZT (env' := u77) (c := .calm) rfl rfl rfl (YL rfl (congrArg (VVal.int .i64) (andNot_less (by omega) (by omega) (by assumption)))) rfl rfl rfl ?_
              refine ZT (env' := u77) (c := .calm) rfl rfl rfl (by first | exact v_idxF rfl rfl rfl rfl rfl rfl rfl XH27 | exact v_idx rfl rfl rfl rfl rfl rfl rfl XH27) rfl rfl rfl ?_
              refine ZT (env' := u77) (c := .look) rfl rfl rfl (by first | exact v_loadF rfl rfl rfl rfl XH25 | exact v_load rfl rfl rfl rfl XH7 XH25) rfl rfl rfl ?_
              refine ZT (env' := u77) (c := .calm) rfl rfl rfl (v_addW rfl rfl rfl) rfl rfl rfl ?_
              refine ZT (env' := u77) (c := .calm) rfl rfl rfl (Zb (.inl rfl) rfl) rfl rfl rfl ?_
              refine ZT (env' := u77) (c := .calm) rfl rfl rfl (YL rfl ((congrArg (VVal.int .u64) (by rw [show (wayL rows.length (wF rows (ZK most 65536) u s k)).getD (s : Int).toNat 0 = ZK (ZK most 65536) (wP rows u s k) from way_at hs, show (wayL rows.length (wF rows (ZK most 65536) u s k)).getD ((less s k : Nat) : Int).toNat 0 = ZK (ZK most 65536) (wS rows u (less s k)) from way_less hs (by assumption)]; exact sat_add hm) : _ = VVal.int .u64 ((ZK (ZK most 65536) (wP rows u s k + wS rows u (less s k))).toNat : Int)))) rfl rfl rfl ?_
              refine ZT (env' := u77) (c := .calm) rfl rfl rfl XH34 rfl rfl rfl ?_
              refine ZT (env' := u77) (c := .turn) rfl rfl rfl (Z4 rfl rfl rfl rfl rfl rfl rfl XH7 (by rw [List.length_map, wayL_len]; show 0 + s * 1 + 1 ≤ _; omega) (by exact (ZG rfl).trans (congrArg (fun c => H ++ [VBlk.cells c true]) ((splice_w (l := wayL rows.length (wF rows (ZK most 65536) u s k)) (k := s) (w := ZK (ZK most 65536) (wP rows u s k + wS rows u (less s k))) (by rw [wayL_len]; exact hs)).trans (by rw [way_set hm hs (by assumption) (sh1.1 (by assumption))]))))) rfl rfl rfl ?_
              refine Yf [] XH5 (trivial) ?_
              refine Zx (Zc (Za ?_))
              refine Zm (env' := u77) rfl rfl (v_addI rfl rfl rfl XH1) rfl ?_
              refine Zm (env' := u77) rfl rfl (Zb (.inl rfl) rfl) rfl ?_
              refine Zf ?_
              refine ZE (false :: false :: true :: true :: true :: false :: false :: false :: true :: true :: true :: true :: true :: true :: true :: true :: true :: true :: true :: true :: true :: true :: true :: false :: true :: true :: true :: true :: true :: true :: true :: true :: true :: false :: false :: false :: true :: true :: true :: true :: true :: true :: true :: true :: true :: true :: true :: true :: true :: true :: true :: true :: true :: true :: true :: true :: true :: true :: true :: true :: true :: true :: true :: true :: true :: true :: true :: true :: true :: true :: true :: true :: true :: true :: true :: true :: true :: []) (env' := u77) rfl ⟨k + 1, ?_, rfl, ?_⟩
              · first | omega | (simp only []; omega)
              · first | exact ⟨by omega, rfl⟩ | exact ⟨by omega, by rw [way_same (fun e => absurd e.1 (not_of_f (by assumption)))]⟩ | exact ⟨by omega, by rw [way_same (fun e => absurd (sh1.2 e.2) (by assumption))]⟩
            · try simp only [decide_eq_true_eq, decide_eq_false_iff_not, Bool.not_eq_true', Bool.not_eq_false', bne_iff_ne, beq_iff_eq, Bool.and_eq_true, Bool.or_eq_true, Bool.not_eq_true, ge_iff_le, gt_iff_lt, Int.not_le, Int.not_lt, beq_eq_false_iff_ne, bne_eq_false_iff_eq, ne_eq, Decidable.not_not, ZJ, ZZ, ZV] at hc6
              refine Zl (Zx (Zc (Za ?_)))
              refine Zm (env' := u77) rfl rfl (v_addI rfl rfl rfl XH1) rfl ?_
              refine Zm (env' := u77) rfl rfl (Zb (.inl rfl) rfl) rfl ?_
              refine Zf ?_
              refine ZE (false :: false :: true :: true :: true :: false :: false :: false :: true :: true :: true :: true :: true :: true :: true :: true :: true :: true :: true :: true :: true :: true :: true :: false :: true :: true :: true :: true :: true :: true :: true :: true :: true :: false :: false :: false :: true :: true :: true :: true :: true :: true :: true :: true :: true :: true :: true :: true :: true :: true :: true :: true :: true :: true :: true :: true :: true :: true :: true :: true :: true :: true :: true :: true :: true :: true :: true :: true :: true :: true :: true :: true :: true :: true :: true :: true :: true :: []) (env' := u77) rfl ⟨k + 1, ?_, rfl, ?_⟩
              · first | omega | (simp only []; omega)
              · first | exact ⟨by omega, rfl⟩ | exact ⟨by omega, by rw [way_same (fun e => absurd e.1 (not_of_f (by assumption)))]⟩ | exact ⟨by omega, by rw [way_same (fun e => absurd (sh1.2 e.2) (by assumption))]⟩
          · try simp only [decide_eq_true_eq, decide_eq_false_iff_not, Bool.not_eq_true', Bool.not_eq_false', bne_iff_ne, beq_iff_eq, Bool.and_eq_true, Bool.or_eq_true, Bool.not_eq_true, ge_iff_le, gt_iff_lt, Int.not_le, Int.not_lt, beq_eq_false_iff_ne, bne_eq_false_iff_eq, ne_eq, Decidable.not_not, ZJ, ZZ, ZV] at hg5
            refine L_off (env' := u77) rfl rfl ?_
            refine L_off (env' := u77) rfl rfl ?_
            refine L_off (env' := u77) rfl rfl ?_
            refine L_off (env' := u77) rfl rfl ?_
            refine L_off (env' := u77) rfl rfl ?_
            refine Zm (env' := u77) rfl rfl (ZC (VVal.bool false) rfl rfl rfl) rfl ?_
            refine Zf (Zc ?_)
            refine Yp rfl rfl ?_
            refine Zl (Zx (Zc (Za ?_)))
            refine Zm (env' := u77) rfl rfl (v_addI rfl rfl rfl XH1) rfl ?_
            refine Zm (env' := u77) rfl rfl (Zb (.inl rfl) rfl) rfl ?_
            refine Zf ?_
            refine ZE (false :: false :: true :: true :: true :: false :: false :: false :: true :: true :: true :: true :: true :: true :: true :: true :: true :: true :: true :: true :: true :: true :: true :: false :: true :: true :: true :: true :: true :: true :: true :: true :: true :: false :: false :: false :: true :: true :: true :: true :: true :: true :: true :: true :: true :: true :: true :: true :: true :: true :: true :: true :: true :: true :: true :: true :: true :: true :: true :: true :: true :: true :: true :: true :: true :: true :: true :: true :: true :: true :: true :: true :: true :: true :: true :: true :: true :: []) (env' := u77) rfl ⟨k + 1, ?_, rfl, ?_⟩
            · first | omega | (simp only []; omega)
            · first | exact ⟨by omega, rfl⟩ | exact ⟨by omega, by rw [way_same (fun e => absurd e.1 (not_of_f (by assumption)))]⟩ | exact ⟨by omega, by rw [way_same (fun e => absurd (sh1.2 e.2) (by assumption))]⟩
        · try simp only [decide_eq_true_eq, decide_eq_false_iff_not, Bool.not_eq_true', Bool.not_eq_false', bne_iff_ne, beq_iff_eq, Bool.and_eq_true, Bool.or_eq_true, Bool.not_eq_true, ge_iff_le, gt_iff_lt, Int.not_le, Int.not_lt, beq_eq_false_iff_ne, bne_eq_false_iff_eq, ne_eq, Decidable.not_not, ZJ, ZZ, ZV] at hc4
          refine ZM (ZP (ZD (ZL (Zx (Zc (Za ?_))))))
          refine Zm (env' := u77) rfl rfl (Zb (.inl rfl) rfl) rfl ?_
          refine Zm (env' := u77) rfl rfl (v_subI rfl rfl rfl XH1) rfl ?_
          refine Zm (env' := u77) rfl rfl (Zb (.inr rfl) rfl) rfl ?_
          refine Zf ?_
          obtain rfl : k = rows.length := by omega
          rw [show (s : Int) - 1 = ((s - 1 : Nat) : Int) by omega]
          refine ZE (false :: false :: true :: true :: true :: false :: false :: false :: true :: true :: true :: true :: true :: true :: true :: true :: true :: true :: true :: true :: true :: true :: true :: false :: true :: true :: true :: true :: true :: true :: true :: true :: true :: true :: true :: true :: true :: true :: true :: true :: true :: true :: true :: true :: true :: true :: true :: true :: true :: true :: true :: true :: true :: true :: true :: true :: true :: true :: true :: true :: true :: true :: true :: true :: true :: true :: true :: true :: true :: true :: true :: true :: true :: true :: true :: true :: true :: []) (env' := u77) rfl ⟨(s - 1), ?_, rfl, ?_⟩
          · first | omega | (simp only []; omega)
          · exact ⟨by omega, by rw [way_down (by omega) (by omega)]⟩
      · try simp only [decide_eq_true_eq, decide_eq_false_iff_not, Bool.not_eq_true', Bool.not_eq_false', bne_iff_ne, beq_iff_eq, Bool.and_eq_true, Bool.or_eq_true, Bool.not_eq_true, ge_iff_le, gt_iff_lt, Int.not_le, Int.not_lt, beq_eq_false_iff_ne, bne_eq_false_iff_eq, ne_eq, Decidable.not_not, ZJ, ZZ, ZV] at hc3
        refine ZM (ZP (ZD (ZL (Zx (Zc (Za ?_))))))
        refine Zm (env' := u77) rfl rfl (v_addI rfl rfl rfl XH1) rfl ?_
        refine Zm (env' := u77) rfl rfl (Zb (.inl rfl) rfl) rfl ?_
        refine Zf ?_
        refine ZE (false :: false :: true :: true :: true :: false :: true :: true :: true :: true :: true :: true :: true :: true :: true :: true :: true :: true :: true :: true :: true :: true :: true :: false :: true :: true :: true :: true :: true :: true :: true :: true :: true :: true :: true :: true :: true :: true :: true :: true :: true :: true :: true :: true :: true :: true :: true :: true :: true :: true :: true :: true :: true :: true :: true :: true :: true :: true :: true :: true :: true :: true :: true :: true :: true :: true :: true :: true :: true :: true :: true :: true :: true :: true :: true :: true :: true :: []) (env' := u77) rfl ⟨u + 1, ?_, rfl, ?_⟩
        · first | omega | (simp only []; omega)
        · exact ⟨by omega, by rw [← way_end, show s = 0 by omega]⟩
    · try simp only [decide_eq_true_eq, decide_eq_false_iff_not, Bool.not_eq_true', Bool.not_eq_false', bne_iff_ne, beq_iff_eq, Bool.and_eq_true, Bool.or_eq_true, Bool.not_eq_true, ge_iff_le, gt_iff_lt, Int.not_le, Int.not_lt, beq_eq_false_iff_ne, bne_eq_false_iff_eq, ne_eq, Decidable.not_not, ZJ, ZZ, ZV] at hc2
      refine ZM (ZP (ZD (ZL (Zc (Ze (Za ?_))))))
      refine Zm (env' := u77) rfl rfl (Zb (.inl rfl) rfl) rfl ?_
      refine Zm (env' := u77) rfl rfl (Zb (.inl rfl) rfl) rfl ?_
      refine Zm (env' := u77) rfl rfl (rfl) rfl ?_
      refine Zm (env' := u77) rfl rfl (YL (v_subI rfl rfl rfl (by show -9223372036854775808 ≤ ((2 ^ rows.length : Nat) : Int) - 1 ∧ ((2 ^ rows.length : Nat) : Int) - 1 < 9223372036854775808; omega)) (congrArg iI (show ((2 ^ rows.length : Nat) : Int) - 1 = ((2 ^ rows.length - 1 : Nat) : Int) by omega))) rfl ?_
      refine Zm (env' := u77) rfl rfl XH34 rfl ?_
      refine Zm (env' := u77) rfl rfl (by first | exact v_loadF rfl rfl rfl rfl XH28 | exact v_load rfl rfl rfl rfl XH7 XH28) rfl ?_
      refine Zm (env' := u77) rfl rfl (Zb (.inr rfl) rfl) rfl ?_
      refine Zf (Zc (Zi ?_))
      refine YE (.inr rfl) (Zh rfl rfl) XH11 XH15 ?_
      first
        | exact ⟨by rw [coV, if_neg (by omega)]; rfl, rfl⟩
        | (obtain rfl : u = 64 := by omega); exact ⟨by rw [coV, if_pos (by omega), show (wayL rows.length (wU rows (ZK most 65536) 64)).getD ((2 ^ rows.length - 1 : Nat) : Int).toNat 0 = _ from wayL_get (by omega)]; unfold wU; rw [Int.toNat_natCast, wS_end], rfl⟩
end MM
end Go.Proofs.YtenkjadobkjaeaaDoor.VT
