/- Proved: Rows.TallyBoundsCardSaid, the statement TallyBounds with its card, of the given program at the commit; no conditions beyond those in the statement. -/
import Derived.Test.YtenkjadobkjaeaaDoorC10x12
set_option autoImplicit false
set_option linter.unusedVariables false
set_option linter.unusedSimpArgs false
set_option maxHeartbeats 4000000
set_option maxRecDepth 100000
namespace Go.Proofs.YtenkjadobkjaeaaDoor.VT
open Go Go.V Go.RowKit
abbrev u51 {a0 a1 a2 a3 a4 a5 a6 a7 a8 a9 a10 a11 a12 a13 a14 a15 a16 a17 a18 a19 a20 a21 a22 a23 a24 a25 a26 a27 a28 a29 a30 a31 a32 a33 a34 a35 a36 a37 a38 a39 a40 a41 a42 a43 a44 a45 a46 a47 a48 a49 a50 : VVal} : VEnv := a0 :: a1 :: a2 :: a3 :: a4 :: a5 :: a6 :: a7 :: a8 :: a9 :: a10 :: a11 :: a12 :: a13 :: a14 :: a15 :: a16 :: a17 :: a18 :: a19 :: a20 :: a21 :: a22 :: a23 :: a24 :: a25 :: a26 :: a27 :: a28 :: a29 :: a30 :: a31 :: a32 :: a33 :: a34 :: a35 :: a36 :: a37 :: a38 :: a39 :: a40 :: a41 :: a42 :: a43 :: a44 :: a45 :: a46 :: a47 :: a48 :: a49 :: a50 :: []
theorem W2p {T : TypeId → Option VTy} {H : Ze} {op : Op} {ρ : Operand → VVal} {t : TypeId} {a : Operand} {y : VTy} {p v : VVal} (ho : op = .load t a) (ha : ρ a = p) (hy : T t = some y) (hd : Zm y.desc = false) (h : LdOk H p v := by first | exact .inl ⟨_, _, rfl, by first | exact fget0 (α := BitVec 64) 0 (by rw [mkT_len]; omega) | rfl⟩ | exact .inr ⟨_, _, _, _, rfl, XH47, by first | exact fget0 (α := BitVec 64) 0 (by rw [mkT_len]; omega) | rfl⟩) : vop T ρ H op = some (v, H) := v_ld ho ha hy hd h
theorem W2r {T : TypeId → Option VTy} {H : Ze} {op : Op} {ρ : VEnv} {H' : Ze} {t : TypeId} {a : Operand} {i : Nat} {v : VVal} {y : VTy} {b off : Nat} {cs new : List VVal} (ho : op = .store t a (.tmp i)) (hv : ρ[i]? = some v) (ha : ρ.eval a = .ptr (some (b, off))) (hy : T t = some y) (hx : v.cells = some new) (hn : new.length = y.size) (h1 : new.all VVal.one = true) (hb : H[b]? = some (.cells cs true) := by exact XH47) (hl : off + new.length ≤ cs.length := by show 0 + (k : Int).toNat * 1 + 1 ≤ _; rw [List.length_map, mkT_len]; omega) (hH : H.set b (.cells (Zv cs off new) true) = H' := by exact (ZF rfl).trans (by show H ++ [VBlk.cells (Zv (List.map iW (mkT l t k)) (0 + (k : Int).toNat * 1) [_]) true, _] = _; rw [spl_w (by rw [mkT_len]; omega)])) : vop T ρ.eval H op = some (.skip, H') := ZT ho hv ha hy hx hn h1 hb hl hH
theorem W2t {S : V.Sys} {H : Ze} {fn : Func} {ex : Exit} {env : VEnv} {B L : Ze} {v : VVal} {R : VVal → Ze → Prop} (hx : ex = .normal ∨ ex = .ret) (hv : ZZ S.C.T env (B ++ L) fn.results = some v) (h : R v B) (hB : BaseOk H B := by exact BaseOk.set (BaseOk.refl _) _ rfl) (hu : v.under H.length = true := by first | rfl | simp [VVal.under, VVal.underL, *]) : fnK S fn H R ex env (B ++ L) := YE hx hv hB hu h
theorem W2u {P : Prop} (h : P := by first | exact ⟨by rw [(full_no (by omega) hz (by assumption)).1], by rw [show fuG l t = ⟨0, 0, edN (msk l t) (k + 1)⟩ from congrArg (Gz.mk 0 0) (full_no (by omega) hz (by assumption)).2]⟩ | (obtain rfl : k = l.length := by omega); exact ⟨by rw [full_yes hz], rfl⟩) : P := h
theorem hgrow_spec {x : SW} (p q y : Nat) (rows : List (BitVec 64)) (h62 : rows.length < 4611686018427387904) : ∀ (n : Nat) (H : Ze) (row : Int) (O : List Int) (S : BitVec 64) (g : Gz), Apart3 H p q y → H[p]? = some (hmB y rows O) → H[q]? = some (hsB S) → H[y]? = some (gaB (gw g S)) → 0 ≤ row → row < rows.length → Gok rows O → 64 - YK 64 S < n → F (psys x) 119 [.ptr (some (p, 0)), iI row, .ptr (some (q, 0))] H fun v G => v = .bool (grw rows n row (O, S)).1 ∧ G = htH H p q y rows (grw rows n row (O, S)).2 (gw g (grw rows n row (O, S)).2.2)
  | 0, _, _, _, _, _, _, _, _, _, _, _, _, h => absurd h (by omega)
  | n + 1, H, row, O, S, g, a, hp, hq, hs, h0, h1, hO, hm => hgrow_s p q y n rows (fun H row O S g a b c d e f h i => hgrow_spec p q y rows h62 n H row O S g a b c d e f h i) H a row O S g hp hq hs h0 h1 hO hm h62
theorem gw_0 (g : Gz) : gw g 0#64 = g := by unfold gw; rw [come_0]; rfl
theorem gw_ed {rows : List (BitVec 64)} {k : Nat} {g : Gz} (h : (szO rows k).2 = k) : gw (g + ⟨0, 0, edN rows k⟩) (grw rows 65 k ((szO rows k).1, 0#64)).2.2 = g + ⟨0, 0, edN rows (k + 1)⟩ := by
  rw [edN_yes h]; exact Gz.ext' rfl rfl (Nat.add_assoc _ _ _)
theorem hgrow_at {x : SW} {H : Ze} {y p q : Nat} (hp : p = H.length + 1) (hq : q = H.length + 2) (g : Gz) (hy : y < H.length) (rows : List (BitVec 64)) (O : List Int) (row : Int) (h0 : 0 ≤ row) (h1 : row < rows.length) (hO : Gok rows O) (h62 : rows.length < 4611686018427387904) : F (psys x) 119 [.ptr (some (p, 0)), iI row, .ptr (some (q, 0))] (H.set y (gaB g) ++ [.dead, hmB y rows O, hsB 0#64]) fun v G => v = .bool (grw rows 65 row (O, 0#64)).1 ∧ G = H.set y (gaB (gw g (grw rows 65 row (O, 0#64)).2.2)) ++ [.dead, hmB y rows (grw rows 65 row (O, 0#64)).2.1, hsB (grw rows 65 row (O, 0#64)).2.2] := by
  subst hp hq
  have := hgrow_spec (x := x) (H.length + 1) (H.length + 2) y rows h62 65 (H.set y (gaB g) ++ [.dead, hmB y rows O, hsB 0#64]) row O 0#64 g ⟨by simp, by simp, by simp; omega, by omega, by omega, by omega⟩ (ZB (List.length_set) rfl) (ZB (List.length_set) rfl) (by rw [gw_0]; exact get_out (List.getElem?_set_self hy)) h0 h1 hO (by rw [come_0]; omega)
  unfold htH at this
  rw [ZF (List.length_set), ZF (List.length_set), Yl XH34, List.set_set] at this
  exact this
theorem hmB_under {n y : Nat} {rows : List (BitVec 64)} {O : List Int} (h : y < n) : (hmB y rows O).under n = true := by
  show VVal.underL n (fzW rows :: (O.map iI ++ [.ptr (some (y, 0))])) = true
  have h1 : VVal.underL n (O.map iI ++ [.ptr (some (y, 0))]) = true := VVal.underL_app (VVal.underL_map fun _ => rfl) (by simp [VVal.underL, VVal.under, h])
  simp only [VVal.underL, h1, Bool.and_true]
  exact VVal.underL_map fun _ => rfl
theorem wApp_c {l : List (BitVec 64)} : Zs (l.map iW) 0 (l.length * 1) = some (l.map iW) := by
  unfold Zs; rw [if_pos XH20, List.drop_zero, List.take_of_length_le XH20]
theorem spl_w {l : List (BitVec 64)} {k : Nat} {w : BitVec 64} (h : k < l.length) : Zv (l.map iW) (0 + k * 1) [iW w] = (l.set k w).map iW := by
  rw [show 0 + k * 1 = k by omega]
  unfold Zv
  rw [List.map_set, List.set_eq_take_append_cons_drop, if_pos (by rw [List.length_map]; exact h)]; simp
section
variable {T : TypeId → Option VTy} {ρ : Operand → VVal} {H : Ze} {op : Op}
theorem v_eqNilC {t : TypeId} {x y : Operand} {ty : TypeId} {cs : List VVal} {len es : Nat} {ex : Bool} {i : VTy} {e : TypeId} (ho : op = .binOp .eql t x y ty) (hx : ρ x = .fsl cs len es ex) (hy : ρ y = .slice none 0 0 true 0) (hT : T t = some i) (hd : i.desc = .slice e) (hl : len ≠ 0) : vop T ρ H op = some (.bool false, H) := by
  rw [ho]; simp [vop, vbin, hx, hy, veq, hT, hd, hl]
end
theorem CloW_nil {x : SW} (H : Ze) : F (psys x) 99 [.slice none 0 0 true 0] H fun v G => v = .fsl [] 0 1 false ∧ G = H := by
 refine Zr Tryd.func99 rfl u8 rfl ?_
 refine Zd (Za ?_)
 refine Lo u8 (Zg (VVal.slice none 0 0 true 0) (.inr rfl) rfl) ?_
 refine Zf (Zc (Zd (Zd (Za ?_))))
 refine Lo u8 (Zb (.inl rfl) rfl) ?_
 refine Lo u8 (rfl) ?_
 refine Zf (Zc ?_)
 refine Z0 rfl rfl ?_
 refine Zd (Za ?_)
 refine Lo u8 (Zg (VVal.slice none 0 0 true 0) (.inr rfl) rfl) ?_
 refine Zf (Zc (Zl (Zt ?_)))
 refine E_gh (.inr rfl) (Zi rfl rfl) (Gh.ansLV (BaseOk.refl _) (LV.nil H.length 1 []) rfl) ?_
 exact ⟨rfl, rfl⟩
theorem CloW_emp {x : SW} (H : Ze) : F (psys x) 99 [.slice none 0 0 false 0] H fun v G => v = .fsl [] 0 1 false ∧ G = H := by
 refine Zr Tryd.func99 rfl u8 rfl ?_
 refine Zd (Za ?_)
 refine Lo u8 (Zg (VVal.slice none 0 0 true 0) (.inr rfl) rfl) ?_
 refine Zf (Zc (Zd (Zd (Za ?_))))
 refine Lo u8 (Zb (.inl rfl) rfl) ?_
 refine Lo u8 (rfl) ?_
 refine Zf (Zc ?_)
 refine ZV rfl rfl ?_
 refine Zk (Zc (Zd (Za ?_)))
 refine Lo u8 (Zx rfl rfl (by decide) rfl) ?_
 refine Lo u8 (Zb (.inl rfl) rfl) ?_
 refine Lo u8 (v_appIn rfl rfl rfl rfl rfl rfl rfl (ZB rfl rfl) rfl rfl rfl rfl (by decide) (by decide) (by decide)) ?_
 refine L_heap (H' := H ++ [.cells [] true]) (by rw [ZF rfl]; rfl) ?_
 refine Lo u8 (Zb (.inr rfl) rfl) ?_
 refine Zf (Zc (Zl ?_))
 refine E_gh (.inr rfl) (Zi rfl rfl) (Gh.fsl (j := 0) (off := 0) (len := 0) (l := []) (BaseOk.refl _) rfl rfl (Nat.le_refl _) rfl) ?_
 exact ⟨rfl, rfl⟩
theorem CloW_c {x : SW} (H : Ze) (l : List (BitVec 64)) (hne : l ≠ []) (hl : l.length ≤ 1000000) : F (psys x) 99 [fzW l] H fun v G => v = .slice (some (H.length, 0)) l.length l.length (decide (l.length = 0)) 1 ∧ G = H ++ [.cells (l.map iW) true] := by
 refine Zr Tryd.func99 rfl u8 rfl ?_
 refine Zd (Za ?_)
 refine Lo u8 (Zg (VVal.slice none 0 0 true 0) (.inr rfl) rfl) ?_
 refine Zf (Zc (Zd (Zd (Za ?_))))
 refine Lo u8 (Zb (.inl rfl) rfl) ?_
 refine Lo u8 (v_eqNilC rfl rfl rfl rfl rfl (fun e => hne (List.eq_nil_of_length_eq_zero e))) ?_
 refine Zf (Zc ?_)
 refine ZV rfl rfl ?_
 refine Zk (Zc (Zd (Za ?_)))
 refine Lo u8 (Zx rfl rfl (by decide) rfl) ?_
 refine Lo u8 (Zb (.inl rfl) rfl) ?_
 refine L_opX rfl rfl (v_appE rfl rfl rfl rfl rfl rfl rfl rfl (by rw [List.length_map]; exact (Nat.mul_one _).symm) (mapW_one _) (by decide) (by show l.length * 8 ≤ _ ∧ l.length ≤ _; omega)) ?_
 rintro _ _ ⟨Z, i, rfl, rfl, hi⟩
 refine Le u8 ?_
 refine Lo u8 (Zb (.inr rfl) rfl) ?_
 refine Zf (Zc (Zl ?_))
 refine E_gh (.inr rfl) (Zi rfl rfl) (Gh.pack (BaseOk.refl _) hi (YX _ _)) ?_
 exact ⟨rfl, rfl⟩
theorem CloW_0 {x : SW} (H : Ze) : F (psys x) 99 [fzW []] H fun v G => v = .fsl [] 0 1 false ∧ G = H := F_split0 (CloW_nil H) (CloW_emp H)
theorem CloW_L {x : SW} (H L : Ze) (l : List (BitVec 64)) (hne : l ≠ []) (hl : l.length ≤ 1000000) : F (psys x) 99 [fzW l] (H ++ L) fun v G => v = .slice (some (H.length + L.length, 0)) l.length l.length (decide (l.length = 0)) 1 ∧ G = H ++ (L ++ [.cells (l.map iW) true]) := by
  have := CloW_c (x := x) (H ++ L) l hne hl
  rw [List.length_append, List.append_assoc] at this
  exact this
abbrev huC (u : Int) (ws rs : VVal) (y : Nat) : List VVal := [iI u, ws, rs, .ptr (some (y, 0))]
abbrev huP (u : Int) (ws rs : VVal) (y : Nat) : VVal := .fptr (huC u ws rs y) 0
theorem hfull_0 {x : SW} {u : Int} {ws rs : VVal} (H : Ze) (y : Nat) (g : Gz) (hs : H[y]? = some (gaB g)) (t : BitVec 64) : F (psys x) 87 [huP u ws rs y, fzW [], iW t] H fun v G => v = .bool (YD [] t) ∧ G = H := by
 refine Zr Tryd.func87 rfl u51 rfl ?_
 refine Zd (Za ?_)
 refine Lo u51 (Zg (VVal.bool false) (.inr rfl) rfl) ?_
 refine Zf (Zc (Zd ?_))
 refine ZW [0, 2, 3, 4, 5, 1, 6, 7, 8] #[0, 1, 0, 4, 12, 28, 63, 127, 255] XH6 XH6 XH6 ?_
 refine Oo u51 .calm rfl (Zb (.inl rfl) rfl) ?_
 refine Oo u51 .calm rfl (Zb (.inl rfl) rfl) ?_
 refine Oo u51 .calm rfl (rfl) ?_
 refine Oo u51 .calm rfl (rfl) ?_
 refine Yh (env' := u51) (x := .look _ _) rfl rfl rfl (W12 rfl rfl rfl rfl) rfl rfl rfl ?_
 refine Yf (env' := u51) rfl rfl rfl rfl rfl (by exact CloW_0 _) XH9 rfl rfl ?_
 refine Oo u51 .calm rfl (rfl) ?_
 refine Oo u51 .grow rfl (Zy rfl rfl rfl) ?_
 refine Oo u51 .calm rfl (Zb (.inr rfl) rfl) ?_
 refine Z3 [_] (by rfl) (And.intro (And.intro (W12 rfl rfl rfl rfl) (W12 rfl rfl rfl rfl)) trivial) ?_
 refine Zc (Zd (Zd (Za ?_)))
 refine Lo u51 (Zb (.inl rfl) rfl) ?_
 refine Lo u51 (rfl) ?_
 refine Lo u51 (rfl) ?_
 refine Lo u51 (W12 rfl rfl rfl rfl) ?_
 refine Lo u51 (rfl) ?_
 refine Lo u51 (Zg (VVal.int .i64 0) (.inl rfl) rfl) ?_
 refine Zf (Zc (Zj ?_))
 refine ZC (mk 51 2251799788519291) (env' := u51) rfl ?_
 refine ZJ (fun (k : Nat) => 0) (fun (k : Nat) => [(24, iI (k : Nat))]) (fun (k : Nat) G => (k = 0) ∧ G = H ++ [hmB y [] (szO [] 0).1]) 0 rfl ?_ ?_
 ·refine ⟨?_, rfl⟩
  trivial
 rintro k _ ⟨_, rfl⟩
 refine ZU (env' := u51) rfl ?_
 refine Zd (Za ?_)
 refine Lo u51 (rfl) ?_
 refine Zf (Zc (Zd ?_))
 refine Zo _ rfl (fun hc1 => ?_) (fun hc1 => ?_)
 ·try simp only [qB] at hc1
  exfalso; try simp only [List.length_nil] at *
  omega
 ·try simp only [qB] at hc1
  refine ZP (ZR (ZH (ZO (Zc (Zd (Zd (Za ?_)))))))
  refine Lo u51 (Zb (.inl rfl) rfl) ?_
  refine Lo u51 (rfl) ?_
  refine Lo u51 (rfl) ?_
  refine Lo u51 (W12 rfl rfl rfl rfl) ?_
  refine Lo u51 (rfl) ?_
  refine Lo u51 (Zg (VVal.int .i64 0) (.inl rfl) rfl) ?_
  refine Zf (Zc (Zj ?_))
  refine ZC (mk 51 2238605674151807) (env' := u51) rfl ?_
  refine ZJ (fun (k : Nat) => 0) (fun (k : Nat) => [(43, iI (k : Nat))]) (fun (k : Nat) G => (k = 0) ∧ G = H ++ [hmB y [] (szO [] 0).1]) 0 rfl ?_ ?_
  ·refine ⟨?_, rfl⟩
   trivial
  rintro k _ ⟨_, rfl⟩
  refine ZU (env' := u51) rfl ?_
  refine Zd (Za ?_)
  refine Lo u51 (rfl) ?_
  refine Zf (Zc (Zd ?_))
  refine Zo _ rfl (fun hc2 => ?_) (fun hc2 => ?_)
  ·try simp only [qB] at hc2
   exfalso; try simp only [List.length_nil] at *
   omega
  ·try simp only [qB] at hc2
   refine ZP (ZR (ZH (ZO (Zc (Zd (Za ?_))))))
   refine Lo u51 (Zg (VVal.bool true) (.inr rfl) rfl) ?_
   refine Zf (Zc (Zl ?_))
   refine W10 (.inr rfl) (Zi rfl rfl) ?_
   exact ⟨rfl, rfl⟩
theorem hfull_c {x : SW} {u : Int} {ws rs : VVal} (H : Ze) (y : Nat) (g : Gz) (hs : H[y]? = some (gaB g)) (l : List (BitVec 64)) (t : BitVec 64) (hne : l ≠ []) (hl : l.length ≤ 1000000) : F (psys x) 87 [huP u ws rs y, fzW l, iW t] H fun v G => v = .bool (YD l t) ∧ G = H.set y (gaB (g + fuG l t)) := by
 have hy := ZI hs
 refine Zr Tryd.func87 rfl u51 rfl ?_
 refine Zd (Za ?_)
 refine Lo u51 (Zg (VVal.bool false) (.inr rfl) rfl) ?_
 refine Zf (Zc (Zd ?_))
 refine ZW [0, 2, 3, 4, 5, 1, 6, 7, 8] #[0, 1, 0, 4, 12, 28, 63, 127, 255] XH6 XH6 XH6 ?_
 refine Oo u51 .calm rfl (Zb (.inl rfl) rfl) ?_
 refine Oo u51 .calm rfl (Zb (.inl rfl) rfl) ?_
 refine Oo u51 .calm rfl (rfl) ?_
 refine Oo u51 .calm rfl (rfl) ?_
 refine Yh (env' := u51) (x := .look _ _) rfl rfl rfl (W2p rfl rfl rfl rfl) rfl rfl rfl ?_
 refine Yf (env' := u51) rfl rfl rfl rfl rfl (by exact CloW_L _ _ _ hne hl) XH9 rfl rfl ?_
 refine Oo u51 .calm rfl (rfl) ?_
 refine Oo u51 .grow rfl (Zy rfl rfl rfl) ?_
 refine Oo u51 .calm rfl (Zb (.inr rfl) rfl) ?_
 refine Z3 [_] (by rfl) (And.intro (And.intro (W2p rfl rfl rfl rfl) (W2p rfl rfl rfl rfl)) trivial) ?_
 refine Zc (Zd (Zd (Za ?_)))
 refine Lo u51 (Zb (.inl rfl) rfl) ?_
 refine Lo u51 (rfl) ?_
 refine Lo u51 (rfl) ?_
 refine Lo u51 (W2p rfl rfl rfl rfl) ?_
 refine Lo u51 (rfl) ?_
 refine Lo u51 (Zg (VVal.int .i64 0) (.inl rfl) rfl) ?_
 refine Zf (Zc (Zj ?_))
 refine ZC (mk 51 2251799788519291) (env' := u51) rfl ?_
 refine ZJ (fun (k : Nat) => l.length - k) (fun (k : Nat) => [(24, iI (k : Nat))]) (fun (k : Nat) G => (k ≤ l.length) ∧ G = H ++ [.cells ((mkT l t k).map iW) true, .cells (.slice (some (H.length + 0, 0)) l.length l.length (decide (l.length = 0)) 1 :: ((List.replicate 64 0).map iI ++ [.ptr (some (y, 0))])) true]) 0 rfl ?_ ?_
 ·refine ⟨?_, (by rw [mkT_0]; rfl)⟩
  exact Nat.zero_le _
 rintro k _ ⟨hk, rfl⟩
 refine ZU (env' := u51) rfl ?_
 refine Zd (Za ?_)
 refine Lo u51 (rfl) ?_
 refine Zf (Zc (Zd ?_))
 refine Zo _ rfl (fun hc1 => ?_) (fun hc1 => ?_)
 ·try simp only [qB] at hc1
  refine Zk (Zc (Zd (Zj (Zd (Za ?_)))))
  refine Lo u51 (Zb (.inl rfl) rfl) ?_
  refine Lo u51 (Zb (.inr rfl) rfl) ?_
  refine Zf (Zc (Za ?_))
  refine Lo u51 (Zb (.inl rfl) rfl) ?_
  refine Lo u51 (rfl) ?_
  refine Lo u51 (rfl) ?_
  refine Lo u51 (W2p rfl rfl rfl rfl) ?_
  refine Lo u51 (Zb (.inl rfl) rfl) ?_
  refine Lo u51 (W18 rfl rfl rfl rfl rfl rfl rfl) ?_
  refine Lo u51 (W2p rfl rfl rfl rfl) ?_
  refine Lo u51 (Zb (.inl rfl) rfl) ?_
  refine Lo u51 (v_andNotW rfl rfl rfl) ?_
  refine Lo u51 (W18 rfl rfl rfl rfl rfl rfl rfl) ?_
  refine Lo u51 (W2r rfl rfl rfl rfl rfl rfl rfl) ?_
  refine Zf (Zu (Zc (Za ?_)))
  refine Lo u51 (W14 rfl rfl rfl) ?_
  refine Lo u51 (Zb (.inl rfl) rfl) ?_
  refine Zf ?_
  have hE : (mkT l t k).set (k : Int).toNat ((mkT l t k).getD (k : Int).toNat 0 &&& ~~~t) = mkT l t (k + 1) := by rw [Int.toNat_natCast, mkT_get (by omega), mkT_set (by omega)]
  refine ZD (mk 51 2251799788519291) (env' := u51) rfl ⟨k + 1, ?_, rfl, ?_⟩
  ·first | omega | (simp only []; omega)
  ·exact ⟨by omega, by rw [← hE]⟩
 ·try simp only [qB] at hc1
  refine ZP (ZR (ZH (ZO (Zc (Zd (Zd ?_))))))
  obtain rfl : k = l.length := by omega
  rw [mkT_all]
  refine Yp (Gh.cellL (l := (msk l t).map iW) 1 0 0 rfl rfl (by decide) rfl (by rw [show l.length * 1 = (msk l t).length * 1 by rw [Yq]]; exact wApp_c) (Nat.le_refl _)) ?_
  refine Za ?_
  refine Lo u51 (Zb (.inl rfl) rfl) ?_
  refine Lo u51 (rfl) ?_
  refine Lo u51 (rfl) ?_
  refine Lo u51 (W2p rfl rfl rfl rfl) ?_
  refine Lo u51 (rfl) ?_
  refine Lo u51 (Zg (VVal.int .i64 0) (.inl rfl) rfl) ?_
  refine Zf (Zc (Zj ?_))
  refine ZC (mk 51 2238605674151807) (env' := u51) rfl ?_
  refine ZJ (fun (k : Nat) => l.length - k) (fun (k : Nat) => [(43, iI (k : Nat))]) (fun (k : Nat) G => (k ≤ l.length ∧ (szO (msk l t) k).2 = k) ∧ G = H.set y (gaB (g + ⟨0, 0, edN (msk l t) k⟩)) ++ [.dead, hmB y (msk l t) (szO (msk l t) k).1]) 0 rfl ?_ ?_
  ·refine ⟨?_, (by rw [edN, show g + ⟨0, 0, 0⟩ = g from Gz.add_zero g, ← YL hs]; show H ++ [VBlk.dead, VBlk.cells (VVal.fsl ((msk l t).map iW) l.length 1 false :: _) true] = H ++ [VBlk.dead, VBlk.cells (VVal.fsl ((msk l t).map iW) (msk l t).length 1 false :: _) true]; rw [Yq]; rfl)⟩
   exact ⟨Nat.zero_le _, rfl⟩
  rintro k _ ⟨⟨hk, hz⟩, rfl⟩
  refine ZU (env' := u51) rfl ?_
  refine Zd (Za ?_)
  refine Lo u51 (rfl) ?_
  refine Zf (Zc (Zd ?_))
  refine Zo _ rfl (fun hc2 => ?_) (fun hc2 => ?_)
  ·try simp only [qB] at hc2
   refine Zk (Zc (Zd (Zj (Zd (Za ?_)))))
   refine Lo u51 (Zb (.inl rfl) rfl) ?_
   refine Lo u51 (Zb (.inr rfl) rfl) ?_
   refine Zf (Zc (Zd (Za ?_)))
   refine Lo u51 (ZA rfl rfl) ?_
   refine Lo u51 (Z6 (VVal.int .u64 0) rfl rfl rfl rfl rfl rfl rfl XH0 XH3 XH1) ?_
   refine Zf (Zc (Zd (Za ?_)))
   refine Lo u51 (Zb (.inl rfl) rfl) ?_
   refine Lo u51 (Zb (.inl rfl) rfl) ?_
   refine Zn rfl rfl rfl (by exact hgrow_at (p := H.length + 1) (q := (H.set y (gaB (g + ⟨0, 0, edN (msk l t) k⟩))).length + 2) rfl (by rw [List.length_set]) (g + ⟨0, 0, edN (msk l t) k⟩) hy (msk l t) (szO (msk l t) k).1 k (by omega) (by rw [Yq]; omega) (szO_ok (by rw [Yq]; omega)) (by rw [Yq]; omega)) ?_
   rintro v _ ⟨rfl, rfl⟩; rw [gw_ed hz]
   refine Le u51 ?_
   refine Lo u51 (rfl) ?_
   refine Zf (Zc ?_)
   refine Zo _ rfl (fun hc3 => ?_) (fun hc3 => ?_)
   ·try simp only [qB] at hc3
    refine Zd (Za ?_)
    refine Lo u51 (Zg (VVal.bool false) (.inr rfl) rfl) ?_
    refine Zf (Zc (Zl (ZX (Zt (Y2 (ZX (Zt ?_)))))))
    refine W2t (.inr rfl) (Zi rfl rfl) ?_
    exact W2u
   ·try simp only [qB] at hc3
    refine Zk (Zu (Zc (Za ?_)))
    refine Lo u51 (W14 rfl rfl rfl) ?_
    refine Lo u51 (Zb (.inl rfl) rfl) ?_
    refine Zf ?_
    refine K_loopG (mk 51 2238605674151807) (env' := u51) rfl (Gh.dropTo (L := [.dead, hmB y (msk l t) (szO (msk l t) (k + 1)).1]) (X := [hsB _]) 2 rfl (BaseOk.set (BaseOk.refl _) _ rfl) (by first | (simp [VVal.underL, VVal.under]; done) | (simp [VVal.underL, VVal.under]; omega)) (by show (true && ((hmB y _ _).under _ && true)) = true; rw [hmB_under (by first | omega | (rw [List.length_set]; omega))]; rfl)) ⟨k + 1, ?_, rfl, ?_⟩
    ·first | omega | (simp only []; omega)
    ·exact ⟨⟨by omega, szO_yes hz (by assumption)⟩, rfl⟩
  ·try simp only [qB] at hc2
   refine ZP (ZR (ZH (ZO (Zc (Zd (Za ?_))))))
   refine Lo u51 (Zg (VVal.bool true) (.inr rfl) rfl) ?_
   refine Zf (Zc (Zl ?_))
   refine W2t (.inr rfl) (Zi rfl rfl) ?_
   exact W2u
abbrev u44 {a0 a1 a2 a3 a4 a5 a6 a7 a8 a9 a10 a11 a12 a13 a14 a15 a16 a17 a18 a19 a20 a21 a22 a23 a24 a25 a26 a27 a28 a29 a30 a31 a32 a33 a34 a35 a36 a37 a38 a39 a40 a41 a42 a43 : VVal} : VEnv := a0 :: a1 :: a2 :: a3 :: a4 :: a5 :: a6 :: a7 :: a8 :: a9 :: a10 :: a11 :: a12 :: a13 :: a14 :: a15 :: a16 :: a17 :: a18 :: a19 :: a20 :: a21 :: a22 :: a23 :: a24 :: a25 :: a26 :: a27 :: a28 :: a29 :: a30 :: a31 :: a32 :: a33 :: a34 :: a35 :: a36 :: a37 :: a38 :: a39 :: a40 :: a41 :: a42 :: a43 :: []
theorem W2w {T : TypeId → Option VTy} {H : Ze} {op : Op} {ρ : Operand → VVal} {t : TypeId} {a : Operand} {y : VTy} {p v : VVal} (ho : op = .load t a) (ha : ρ a = p) (hy : T t = some y) (hd : Zm y.desc = false) (h : LdOk H p v := by first | exact .inl ⟨_, _, rfl, by first | rfl | assumption | exact Y5 (α := Nat) 0 (by omega) | exact Y5 (α := BitVec 64) 0 (by omega)⟩ | exact .inr ⟨_, _, _, _, rfl, XH47, by first | rfl | assumption | exact Y5 (α := Nat) 0 (by omega) | exact Y5 (α := BitVec 64) 0 (by omega)⟩) : vop T ρ H op = some (v, H) := v_ld ho ha hy hd h
theorem W2y {T : TypeId → Option VTy} {H : Ze} {op : Op} {ρ : Operand → VVal} {t : TypeId} {a : Operand} {y : VTy} {p v : VVal} (ho : op = .load t a) (ha : ρ a = p) (hy : T t = some y) (hd : Zm y.desc = false) (h : LdOk H p v := by first | exact .inl ⟨_, _, rfl, by exact fget0N (f := iW) (l := Ya ws a k) (k := a.getD k 0) 0 hlt⟩ | exact .inr ⟨_, _, _, _, rfl, by exact ZB rfl hbX, by exact fget0N (f := iW) (l := Ya ws a k) (k := a.getD k 0) 0 hlt⟩) : vop T ρ H op = some (v, H) := v_ld ho ha hy hd h
theorem W2z {T : TypeId → Option VTy} {H : Ze} {op : Op} {ρ : VEnv} {H' : Ze} {t : TypeId} {a : Operand} {i : Nat} {v : VVal} {y : VTy} {b off : Nat} {cs new : List VVal} (ho : op = .store t a (.tmp i)) (hv : ρ[i]? = some v) (ha : ρ.eval a = .ptr (some (b, off))) (hy : T t = some y) (hx : v.cells = some new) (hn : new.length = y.size) (h1 : new.all VVal.one = true) (hb : H[b]? = some (.cells cs true) := by exact XH47) (hl : off + new.length ≤ cs.length := by show 0 + ((a.getD k 0 : Nat) : Int).toNat * 1 + 1 ≤ (List.map iW (Ya ws a k)).length; rw [List.length_map]; omega) (hH : H.set b (.cells (Zv cs off new) true) = H' := by exact (ZF rfl).trans (by show H ++ X.set b (VBlk.cells (Zv ((Ya ws a k).map iW) (0 + ((a.getD k 0 : Nat) : Int).toNat * 1) [_]) true) = _; rw [Int.toNat_natCast, spl_w hlt])) : vop T ρ.eval H op = some (.skip, H') := ZT ho hv ha hy hx hn h1 hb hl hH
theorem hfull_spec {x : SW} {u : Int} {ws rs : VVal} (H : Ze) (y : Nat) (g : Gz) (hs : H[y]? = some (gaB g)) (l : List (BitVec 64)) (t : BitVec 64) (hl : l.length ≤ 1000000) : F (psys x) 87 [huP u ws rs y, fzW l, iW t] H fun v G => v = .bool (YD l t) ∧ G = H.set y (gaB (g + fuG l t)) := by
  by_cases h : l = []
  · subst h
    refine (hfull_0 H y g hs t).mono ?_
    rintro v G ⟨rfl, rfl⟩
    exact ⟨rfl, by rw [show fuG [] t = 0 from rfl, Gz.add_zero, ← YL hs]⟩
  · exact hfull_c H y g hs l t h hl
theorem hBlocks_spec {x : SW} {u : Int} {rs : VVal} {y : Nat} (H : Ze) (ws : List (BitVec 64)) (a : List Nat) (ha : Pat a) (hw : a.length ≤ ws.length) (hn : ws.length ≤ 1000000) : F (psys x) 85 [huP u (fzW ws) rs y, fzN a] H fun v G => v = fzW (Ya ws a a.length) ∧ G = H := by
 refine Zr Tryd.func85 rfl u44 rfl ?_
 refine Zd (Za ?_)
 refine Lo u44 (Zg (VVal.slice none 0 0 true 0) (.inr rfl) rfl) ?_
 refine Zf (Zc (Zd (Za ?_)))
 refine Lo u44 (Zg (VVal.slice none 0 0 true 0) (.inr rfl) rfl) ?_
 refine Zf (Zc (Zd (Zd (Za ?_))))
 refine Lo u44 (Zb (.inl rfl) rfl) ?_
 refine Lo u44 (rfl) ?_
 refine Lo u44 (Zg (VVal.int .i64 0) (.inl rfl) rfl) ?_
 refine Zf (Zc (Zj ?_))
 refine ZC (mk 44 17592186042590) (env' := u44) rfl ?_
 refine ZJ (fun (⟨k, lv⟩ : Nat × VVal) => a.length - k) (fun (⟨k, lv⟩ : Nat × VVal) => [(5, lv), (10, iI (k : Nat))]) (fun (⟨k, lv⟩ : Nat × VVal) G => (k ≤ a.length) ∧ ∃ X, G = H ++ X ∧ LV H.length 1 X lv ((Ya ws a k).map iW) (Ya ws a k).length) ⟨0, _⟩ rfl ?_ ?_
 ·refine ⟨?_, ⟨_, rfl, LV.nil _ _ _⟩⟩
  exact Nat.zero_le _
 rintro ⟨k, lv⟩ _ ⟨hk, ⟨X, rfl, hl⟩⟩
 refine ZU (env' := u44) rfl ?_
 refine Zd (Za ?_)
 refine Lo u44 (rfl) ?_
 refine Zf (Zc (Zd ?_))
 refine Zo _ rfl (fun hc1 => ?_) (fun hc1 => ?_)
 ·try simp only [qB, qN] at hc1
  refine Zk (Zc (Zd (Zj (Zd (Za ?_)))))
  refine Lo u44 (Zb (.inl rfl) rfl) ?_
  refine Lo u44 (W18 rfl rfl rfl rfl rfl rfl rfl) ?_
  refine Lo u44 (W2w rfl rfl rfl rfl) ?_
  refine Lo u44 (Zb (.inr rfl) rfl) ?_
  refine Lo u44 (Zb (.inr rfl) rfl) ?_
  refine Zf (Zc (Zd (Za ?_)))
  refine Lo u44 (Zb (.inl rfl) rfl) ?_
  refine Lo u44 (Zb (.inl rfl) rfl) ?_
  refine Lo u44 (v_len rfl rfl rfl rfl hl) ?_
  refine Lo u44 (rfl) ?_
  refine Zf (Zc ?_)
  refine Zo _ rfl (fun hc2 => ?_) (fun hc2 => ?_)
  ·try simp only [qB, qN] at hc2
   refine Za ?_
   refine Lo u44 (Zb (.inl rfl) rfl) ?_
   refine Lo u44 (Zb (.inl rfl) rfl) ?_
   refine Lo u44 (rfl) ?_
   refine Lo u44 (rfl) ?_
   refine Lo u44 (W2w rfl rfl rfl rfl) ?_
   refine Lo u44 (Zb (.inl rfl) rfl) ?_
   refine Lo u44 (W18 rfl rfl rfl rfl rfl rfl rfl) ?_
   refine Lo u44 (W2w rfl rfl rfl rfl) ?_
   refine Lo u44 (Zx rfl rfl (by decide) rfl) ?_
   refine L_opX rfl rfl (v_appX rfl rfl rfl rfl rfl rfl rfl hl rfl rfl (by decide) (by have := @YY ws a k; have := @Y4 a k; show (_ + 1) * 8 ≤ _ ∧ _ + 1 ≤ _; omega) (by decide)) ?_
   rintro _ _ ⟨Y1, rfl, rfl, hY1, hY2, hY3⟩
   refine Le u44 ?_
   refine Lo u44 (Zb (.inr rfl) rfl) ?_
   refine Zf (Zu (Zc (Za ?_)))
   refine Lo u44 (W14 rfl rfl rfl) ?_
   refine Lo u44 (Zb (.inl rfl) rfl) ?_
   refine Zf ?_
   refine ZD (mk 44 17592186042590) (env' := u44) rfl ⟨⟨k + 1, _⟩, ?_, rfl, ?_⟩
   ·first | omega | (simp only []; omega)
   ·first | exact ⟨by omega, _, rfl, by rw [blkN_new (by assumption)]; exact LV.pushW hY3⟩ | exact ⟨by omega, _, rfl, by rw [blkN_old (by assumption), List.length_set]; exact LV.upW hl h0 (ZI hbX) (by rw [List.length_set])⟩
  ·try simp only [qB, qN] at hc2
   have hak := ha k (by omega)
   have hbl := @YY ws a k
   have hlt : a.getD k 0 < (Ya ws a k).length := by omega
   have h0 : 0 < (Ya ws a k).length := by omega
   obtain ⟨b, rfl, hbX⟩ := LV.pos hl h0
   refine ZW [0, 1, 2, 3, 4, 5, 6, 7, 8, 9, 10, 11, 12, 13] #[0, 0, 3, 7, 0, 16, 48, 112, 0, 496, 1008, 2047, 4095, 8191] XH6 XH6 XH6 ?_
   refine Oo u44 .calm rfl (Zb (.inl rfl) rfl) ?_
   refine Oo u44 .calm rfl (Zb (.inl rfl) rfl) ?_
   refine Oo u44 .calm rfl (W18 rfl rfl rfl rfl rfl rfl rfl) ?_
   refine Oo u44 .look rfl (W2y rfl rfl rfl rfl) ?_
   refine Oo u44 .calm rfl (Zb (.inl rfl) rfl) ?_
   refine Oo u44 .calm rfl (rfl) ?_
   refine Oo u44 .calm rfl (rfl) ?_
   refine Oo u44 .look rfl (W2w rfl rfl rfl rfl) ?_
   refine Oo u44 .calm rfl (Zb (.inl rfl) rfl) ?_
   refine Oo u44 .calm rfl (W18 rfl rfl rfl rfl rfl rfl rfl) ?_
   refine Oo u44 .look rfl (W2w rfl rfl rfl rfl) ?_
   refine Oo u44 .calm rfl (v_andW rfl rfl rfl) ?_
   refine Oo u44 .calm rfl (W18 rfl rfl rfl rfl rfl rfl rfl) ?_
   refine Oo u44 .turn rfl (W2z rfl rfl rfl rfl rfl rfl rfl) ?_
   refine Z3 [] XH6 (trivial) ?_
   refine Zu (Zc (Za ?_))
   refine Lo u44 (W14 rfl rfl rfl) ?_
   refine Lo u44 (Zb (.inl rfl) rfl) ?_
   refine Zf ?_
   refine ZD (mk 44 17592186042590) (env' := u44) rfl ⟨⟨k + 1, _⟩, ?_, rfl, ?_⟩
   ·first | omega | (simp only []; omega)
   ·first | exact ⟨by omega, _, rfl, by rw [blkN_new (by assumption)]; exact LV.pushW hY3⟩ | exact ⟨by omega, _, rfl, by rw [blkN_old (by assumption), List.length_set]; exact LV.upW hl h0 (ZI hbX) (by rw [List.length_set])⟩
 ·try simp only [qB, qN] at hc1
  refine ZP (ZR (ZH (ZO (Zc (Zd (Za ?_))))))
  refine Lo u44 (Zb (.inl rfl) rfl) ?_
  refine Lo u44 (Zb (.inr rfl) rfl) ?_
  refine Zf (Zc (Zl ?_))
  refine E_gh (.inr rfl) (Zi rfl rfl) (Gh.ansLV (BaseOk.refl _) hl (YX _ _)) ?_
  obtain rfl : k = a.length := by omega
  exact ⟨rfl, rfl⟩
abbrev u22 {a0 a1 a2 a3 a4 a5 a6 a7 a8 a9 a10 a11 a12 a13 a14 a15 a16 a17 a18 a19 a20 a21 : VVal} : VEnv := a0 :: a1 :: a2 :: a3 :: a4 :: a5 :: a6 :: a7 :: a8 :: a9 :: a10 :: a11 :: a12 :: a13 :: a14 :: a15 :: a16 :: a17 :: a18 :: a19 :: a20 :: a21 :: []
abbrev u73 {a0 a1 a2 a3 a4 a5 a6 a7 a8 a9 a10 a11 a12 a13 a14 a15 a16 a17 a18 a19 a20 a21 a22 a23 a24 a25 a26 a27 a28 a29 a30 a31 a32 a33 a34 a35 a36 a37 a38 a39 a40 a41 a42 a43 a44 a45 a46 a47 a48 a49 a50 a51 a52 a53 a54 a55 a56 a57 a58 a59 a60 a61 a62 a63 a64 a65 a66 a67 a68 a69 a70 a71 a72 : VVal} : VEnv := a0 :: a1 :: a2 :: a3 :: a4 :: a5 :: a6 :: a7 :: a8 :: a9 :: a10 :: a11 :: a12 :: a13 :: a14 :: a15 :: a16 :: a17 :: a18 :: a19 :: a20 :: a21 :: a22 :: a23 :: a24 :: a25 :: a26 :: a27 :: a28 :: a29 :: a30 :: a31 :: a32 :: a33 :: a34 :: a35 :: a36 :: a37 :: a38 :: a39 :: a40 :: a41 :: a42 :: a43 :: a44 :: a45 :: a46 :: a47 :: a48 :: a49 :: a50 :: a51 :: a52 :: a53 :: a54 :: a55 :: a56 :: a57 :: a58 :: a59 :: a60 :: a61 :: a62 :: a63 :: a64 :: a65 :: a66 :: a67 :: a68 :: a69 :: a70 :: a71 :: a72 :: []
theorem W32 {P : Prop} (h : P := by first | exact ⟨by unfold erl; rw [hck, decide_eq_true hg2]; rfl, rfl⟩ | exact ⟨by unfold erl; rw [hck, decide_eq_false (by omega)]; rfl, rfl⟩ | exact ⟨by unfold erl; rw [hck]; rfl, rfl⟩) : P := h
theorem W33 {T : TypeId → Option VTy} {H : Ze} {op : Op} {ρ : Operand → VVal} {t : TypeId} {a : Operand} {y : VTy} {p v : VVal} (ho : op = .load t a) (ha : ρ a = p) (hy : T t = some y) (hd : Zm y.desc = false) (h : LdOk H p v := by first | exact .inl ⟨_, _, rfl, XH53⟩ | exact .inr ⟨_, _, _, _, rfl, XH47, XH53⟩) : vop T ρ H op = some (v, H) := v_ld ho ha hy hd h
theorem W34 {T : TypeId → Option VTy} {H : Ze} {op : Op} {ρ : VEnv} {H' : Ze} {t : TypeId} {a : Operand} {i : Nat} {v : VVal} {y : VTy} {b off : Nat} {cs new : List VVal} (ho : op = .store t a (.tmp i)) (hv : ρ[i]? = some v) (ha : ρ.eval a = .ptr (some (b, off))) (hy : T t = some y) (hx : v.cells = some new) (hn : new.length = y.size) (h1 : new.all VVal.one = true) (hb : H[b]? = some (.cells cs true) := by exact XH47) (hl : off + new.length ≤ cs.length := by exact XH49) (hH : H.set b (.cells (Zv cs off new) true) = H' := by exact ga_n0 hs) : vop T ρ.eval H op = some (.skip, H') := ZT ho hv ha hy hx hn h1 hb hl hH
theorem W35 {T : TypeId → Option VTy} {H : Ze} {op : Op} {ρ : Operand → VVal} {t : TypeId} {a : Operand} {y : VTy} {p v : VVal} (ho : op = .load t a) (ha : ρ a = p) (hy : T t = some y) (hd : Zm y.desc = false) (h : LdOk H p v := by first | exact .inl ⟨_, _, rfl, XH53⟩ | exact .inr ⟨_, _, _, _, rfl, by exact get_out (List.getElem?_set_self hy), XH53⟩) : vop T ρ H op = some (v, H) := v_ld ho ha hy hd h
theorem W36 {T : TypeId → Option VTy} {H : Ze} {op : Op} {ρ : VEnv} {H' : Ze} {t : TypeId} {a : Operand} {i : Nat} {v : VVal} {y : VTy} {b off : Nat} {cs new : List VVal} (ho : op = .store t a (.tmp i)) (hv : ρ[i]? = some v) (ha : ρ.eval a = .ptr (some (b, off))) (hy : T t = some y) (hx : v.cells = some new) (hn : new.length = y.size) (h1 : new.all VVal.one = true) (hb : H[b]? = some (.cells cs true) := by exact get_out (List.getElem?_set_self hy)) (hl : off + new.length ≤ cs.length := by exact XH49) (hH : H.set b (.cells (Zv cs off new) true) = H' := by exact ga_p hy) : vop T ρ.eval H op = some (.skip, H') := ZT ho hv ha hy hx hn h1 hb hl hH
theorem W3a {P : Prop} (h : P := by first | exact ⟨by rw [(kpK_0 (u := u) (by assumption)).1], by rw [(kpK_0 (by assumption)).2]; rfl⟩ | exact ⟨by rw [(kpK_1 (u := u) (by assumption) (all_bad (k := k) (d := r0) (by omega) (by first | assumption | exact Bool.eq_false_iff.2 ‹_›))).1], by rw [(kpK_1 (by assumption) (all_bad (k := k) (d := r0) (by omega) (by first | assumption | exact Bool.eq_false_iff.2 ‹_›))).2]; rfl⟩ | exact ⟨by rw [(kpK_2 (u := u) (by assumption) (all_full (by omega) hall)).1], by rw [(kpK_2 (by assumption) (all_full (by omega) hall)).2, ← Gz.assoc]; rfl⟩) : P := h
theorem W3b {T : TypeId → Option VTy} {H : Ze} {op : Op} {ρ : Operand → VVal} {t : TypeId} {a : Operand} {y : VTy} {p v : VVal} (ho : op = .load t a) (ha : ρ a = p) (hy : T t = some y) (hd : Zm y.desc = false) (h : LdOk H p v := by first | exact .inl ⟨_, _, rfl, by exact Y5 (f := fzR) (l := rss) (k := a.length - 1) [] (by omega)⟩ | exact .inr ⟨_, _, _, _, rfl, XH47, by exact Y5 (f := fzR) (l := rss) (k := a.length - 1) [] (by omega)⟩) : vop T ρ H op = some (v, H) := v_ld ho ha hy hd h
theorem W3c {T : TypeId → Option VTy} {H : Ze} {op : Op} {ρ : Operand → VVal} {t : TypeId} {a : Operand} {y : VTy} {p : VVal} {n : Nat} {vs : List VVal} (ho : op = .load t a) (ha : ρ a = p) (hy : T t = some y) (hd : Zm y.desc = true) (hn : y.size = n) (h : LdOkA H p n vs := by first | exact .inl ⟨_, _, rfl, XH53⟩ | exact .inr ⟨_, _, _, _, rfl, XH47, XH53⟩) : vop T ρ H op = some (.agg vs, H) := v_ldA ho ha hy hd hn h
abbrev fzRR (rss : List (List Rul)) : VVal := .fsl (rss.map fzR) rss.length 1 false
theorem fzR_und (n : Nat) (l : List Rul) : (fzR l).under n = true := VVal.underL_all (n := n) (vs := l.flatMap rlB) fun v hv => by
  obtain ⟨r, _, h⟩ := List.mem_flatMap.1 hv
  simp only [List.mem_cons, List.not_mem_nil, or_false] at h
  rcases h with rfl | rfl | rfl
  · rfl
  · rfl
  · exact VVal.underL_map fun _ => rfl
theorem mapN_under (n : Nat) (l : List Nat) : VVal.underL n (l.map fun (m : Nat) => iI (m : Nat)) = true := VVal.underL_map fun _ => rfl
theorem rss_under (n : Nat) (rss : List (List Rul)) : VVal.underL n (rss.map fzR) = true := VVal.underL_map fun l => fzR_und n l
theorem huUnder {H : Ze} {y : Nat} (hy : y < H.length) (u : Int) (ws : List (BitVec 64)) (rss : List (List Rul)) : (huP u (fzW ws) (fzRR rss) y).under H.length = true := by
  show VVal.underL _ [iI u, fzW ws, fzRR rss, .ptr (some (y, 0))] = true
  simp only [VVal.underL, VVal.under, Yr, YX, rss_under, hy, decide_true, Bool.and_true]
theorem rEarly_spec {x : SW} (H : Ze) (r : Rul) (n : Int) (l : List Int) (hl : r.steps.length ≤ 1000000) : F (psys x) 86 [.agg (rlB r), iI n, fzI l] H fun v G => v = .bool (erl r n l) ∧ G = H := by
 refine Zr Tryd.func86 rfl u22 rfl ?_
 refine Zd (Za ?_)
 refine Lo u22 (Zy rfl rfl rfl) ?_
 refine Lo u22 (Zg (VVal.bool false) (.inr rfl) rfl) ?_
 refine Zf (Zc (Zd (Za ?_)))
 refine Lo u22 (Zb (.inl rfl) rfl) ?_
 refine Lo u22 (W11 rfl rfl rfl rfl rfl) ?_
 refine Zn rfl rfl rfl (by exact rCheck_spec _ _ _ (by omega)) ?_
 rintro _ _ ⟨rfl, rfl⟩
 refine Le u22 ?_
 refine Lo u22 (rfl) ?_
 refine Lo u22 (Zb (.inl rfl) rfl) ?_
 refine ZL 11 (env1 := u22) (env2 := u22) rfl rfl rfl (fun hg1 => ?_) (fun hg1 => ?_)
 ·try simp only [qB] at hg1
  have hck : rck n r = true := rcE_eq.1 hg1
  refine Lo u22 (Zb (.inl rfl) rfl) ?_
  refine Lo u22 (rfl) ?_
  refine Lo u22 (Zb (.inl rfl) rfl) ?_
  refine Lo u22 (rfl) ?_
  refine Lo u22 (Zz rfl rfl rfl) ?_
  refine Lo u22 (Zb (.inl rfl) rfl) ?_
  refine ZL 17 (env1 := u22) (env2 := u22) rfl rfl rfl (fun hg2 => ?_) (fun hg2 => ?_)
  ·try simp only [qB] at hg2
   refine Lo u22 (W11 rfl rfl rfl rfl rfl) ?_
   refine Lo u22 (Zb (.inl rfl) rfl) ?_
   refine Zn rfl rfl rfl (by exact keeps_spec _ _ _ (rck_kind hck) (rck_pos hck) (Nat.le_trans (rck_len hck) (by decide))) ?_
   rintro _ _ ⟨rfl, rfl⟩
   refine Le u22 ?_
   refine Lo u22 (Zz rfl rfl rfl) ?_
   refine Lo u22 (Zb (.inr rfl) rfl) ?_
   refine Zf (Zc (Zl ?_))
   refine W10 (.inr rfl) (Zi rfl rfl) ?_
   exact W32
  ·try simp only [qB] at hg2
   refine Lf u22 ?_
   refine Lf u22 ?_
   refine Lf u22 ?_
   refine Lo u22 (ZN (VVal.bool false) rfl rfl rfl) ?_
   refine Lo u22 (Zb (.inr rfl) rfl) ?_
   refine Zf (Zc (Zl ?_))
   refine W10 (.inr rfl) (Zi rfl rfl) ?_
   exact W32
 ·try simp only [qB] at hg1
  have hck : rck n r = false := bool_f fun e => hg1 (rcE_eq.2 e)
  refine Lf u22 ?_
  refine Lf u22 ?_
  refine Lf u22 ?_
  refine Lf u22 ?_
  refine Lo u22 (ZN (VVal.bool false) rfl rfl rfl) ?_
  refine Lo u22 (Zb (.inl rfl) rfl) ?_
  refine Lf u22 ?_
  refine Lf u22 ?_
  refine Lf u22 ?_
  refine Lo u22 (ZN (VVal.bool false) rfl rfl rfl) ?_
  refine Lo u22 (Zb (.inr rfl) rfl) ?_
  refine Zf (Zc (Zl ?_))
  refine W10 (.inr rfl) (Zi rfl rfl) ?_
  exact W32
theorem rEarlyN {x : SW} (H : Ze) (r : Rul) (n : Int) (a : List Nat) (hl : r.steps.length ≤ 1000000) : F (psys x) 86 [.agg (rlB r), iI n, fzN a] H fun v G => v = .bool (erl r n (zI a)) ∧ G = H := by
  rw [fzN_is]; exact rEarly_spec H r n (zI a) hl
theorem hKeep_spec {x : SW} {u : Nat} (H : Ze) (y : Nat) (g : Gz) (hs : H[y]? = some (gaB g)) (ws : List (BitVec 64)) (rss : List (List Rul)) (a : List Nat) (ha : Pat a) (h0 : 0 < a.length) (hw : a.length ≤ ws.length) (hn : ws.length ≤ 1000000) (hr : rss.length = ws.length) (hR : ∀ i, (rss.getD i []).length ≤ 1000000 ∧ ∀ r, r ∈ rss.getD i [] → r.steps.length ≤ 1000000) : F (psys x) 53 [huP (u : Nat) (fzW ws) (fzRR rss) y, fzN a] H fun v G => v = .bool (kpB ws rss a) ∧ G = H.set y (gaB (g + kpG u ws rss a)) := by
 have hy := ZI hs
 have hbl := @YY ws a a.length
 have hla := ha (a.length - 1) (by omega)
 have hsl : a.getD (a.length - 1) 0 < szP a a.length := by
    obtain ⟨m, hm⟩ : ∃ m, a.length = m + 1 := ⟨a.length - 1, by omega⟩
    rw [hm] at hla ⊢; rw [szP]; rw [Nat.add_sub_cancel] at hla ⊢; split <;> omega
 have hR1 := hR (a.length - 1)
 refine Zr Tryd.func53 rfl u73 rfl ?_
 refine Zd (Za ?_)
 refine Lo u73 (Zg (VVal.bool false) (.inr rfl) rfl) ?_
 refine Zf (Zc (Zd (Za ?_)))
 refine Lo u73 (Zb (.inl rfl) rfl) ?_
 refine Lo u73 (rfl) ?_
 refine Lo u73 (rfl) ?_
 refine Lo u73 (W33 rfl rfl rfl rfl) ?_
 refine Lo u73 (rfl) ?_
 refine Lo u73 (rfl) ?_
 refine Lo u73 (W33 rfl rfl rfl rfl) ?_
 refine Lo u73 (v_addW (b := 1#64) rfl rfl rfl) ?_
 refine Lo u73 (rfl) ?_
 refine Lo u73 (rfl) ?_
 refine Lo u73 (W34 rfl rfl rfl rfl rfl rfl rfl) ?_
 refine Zf (Zc (Zd ?_))
 refine ZW [0, 1, 2, 3, 4, 5, 6, 7, 8, 9, 10, 11, 12, 13, 14, 15] #[0, 1, 3, 7, 15, 31, 63, 0, 128, 384, 896, 1920, 4095, 8191, 16383, 32767] XH6 XH6 XH6 ?_
 refine Oo u73 .calm rfl (Zb (.inl rfl) rfl) ?_
 refine Oo u73 .calm rfl (rfl) ?_
 refine Oo u73 .calm rfl (rfl) ?_
 refine Oo u73 .look rfl (W33 rfl rfl rfl rfl) ?_
 refine Oo u73 .calm rfl (rfl) ?_
 refine Oo u73 .calm rfl (rfl) ?_
 refine Oo u73 .look rfl (W35 rfl rfl rfl rfl) ?_
 refine Oo u73 .calm rfl (Zb (.inl rfl) rfl) ?_
 refine Oo u73 .calm rfl (rfl) ?_
 refine Oo u73 .calm rfl (rfl) ?_
 refine Oo u73 .look rfl (W33 rfl rfl rfl rfl) ?_
 refine Oo u73 .calm rfl (v_cvW rfl rfl rfl rfl rfl) ?_
 refine Oo u73 .calm rfl (v_addW rfl rfl rfl) ?_
 refine Oo u73 .calm rfl (rfl) ?_
 refine Oo u73 .calm rfl (rfl) ?_
 refine Oo u73 .turn rfl (W36 rfl rfl rfl rfl rfl rfl rfl) ?_
 refine Z3 [] XH6 (trivial) ?_
 refine Zc (Zd (Za ?_))
 refine Lo u73 (Zb (.inl rfl) rfl) ?_
 refine Lo u73 (Zb (.inl rfl) rfl) ?_
 refine Zn rfl rfl rfl (by exact hBlocks_spec _ _ _ ha hw hn) ?_
 rintro _ _ ⟨rfl, rfl⟩
 refine Le u73 ?_
 refine Lo u73 (Zb (.inl rfl) rfl) ?_
 refine Lo u73 (rfl) ?_
 refine Lo u73 (W2l rfl rfl rfl) ?_
 refine Lo u73 (Zb (.inr rfl) rfl) ?_
 refine Lo u73 (Zb (.inr rfl) rfl) ?_
 refine Zf (Zc (Zd (Zd ?_)))
 rw [show ((a.length : Nat) : Int) - 1 = ((a.length - 1 : Nat) : Int) by omega]
 refine Za ?_
 refine Lo u73 (Zb (.inl rfl) rfl) ?_
 refine Lo u73 (Zb (.inl rfl) rfl) ?_
 refine Lo u73 (Zb (.inl rfl) rfl) ?_
 refine Lo u73 (W18 rfl rfl rfl rfl rfl rfl rfl) ?_
 refine Lo u73 (W33 rfl rfl rfl rfl) ?_
 refine Lo u73 (W18 rfl rfl rfl rfl rfl rfl rfl) ?_
 refine Lo u73 (W33 rfl rfl rfl rfl) ?_
 refine Lo u73 (rfl) ?_
 refine Zf (Zc ?_)
 refine Zo _ rfl (fun hc1 => ?_) (fun hc1 => ?_)
 ·try simp only [qB, qN] at hc1
  refine Zd (Za ?_)
  refine Lo u73 (Zg (VVal.bool false) (.inr rfl) rfl) ?_
  refine Zf (Zc (Zl (Zt ?_)))
  refine W2t (.inr rfl) (Zi rfl rfl) ?_
  exact W3a
 ·try simp only [qB, qN] at hc1
  refine Zk (Zc (Zd (Zd (Za ?_))))
  refine Lo u73 (Zb (.inl rfl) rfl) ?_
  refine Lo u73 (rfl) ?_
  refine Lo u73 (rfl) ?_
  refine Lo u73 (W33 rfl rfl rfl rfl) ?_
  refine Lo u73 (Zb (.inl rfl) rfl) ?_
  refine Lo u73 (W18 rfl rfl rfl rfl rfl rfl rfl) ?_
  refine Lo u73 (W3b rfl rfl rfl rfl) ?_
  refine Lo u73 (rfl) ?_
  refine Lo u73 (Zg (VVal.int .i64 0) (.inl rfl) rfl) ?_
  refine Zf (Zc (Zj ?_))
  refine ZC (mk 73 9444606864949724053468) (env' := u73) rfl ?_
  refine ZJ (fun (k : Nat) => (rss.getD (a.length - 1) []).length - k) (fun (k : Nat) => [(56, iI (k : Nat))]) (fun (k : Nat) G => (k ≤ (rss.getD (a.length - 1) []).length ∧ ((rss.getD (a.length - 1) []).take k).all (fun r => erl r ws.length (zI a)) = true) ∧ G = H.set y (gaB (⟨g.n + 1, g.p + u, g.e⟩ : Gz)) ++ []) 0 rfl ?_ ?_
  ·refine ⟨?_, rfl⟩
   exact ⟨Nat.zero_le _, rfl⟩
  rintro k _ ⟨⟨hk, hall⟩, rfl⟩
  refine ZU (env' := u73) rfl ?_
  refine Zd (Za ?_)
  refine Lo u73 (rfl) ?_
  refine Zf (Zc (Zd ?_))
  refine Zo _ rfl (fun hc2 => ?_) (fun hc2 => ?_)
  ·try simp only [qB, qN] at hc2
   refine Zk (Zc (Zd (Zj (Zd (Za ?_)))))
   refine Lo u73 (W18 rfl rfl rfl rfl rfl rfl rfl) ?_
   refine Lo u73 (W3c rfl rfl rfl rfl rfl) ?_
   refine Lo u73 (ZA rfl rfl) ?_
   refine Lo u73 (W13 rfl rfl rfl rfl rfl rfl rfl) ?_
   refine Zf (Zc (Zd ?_))
   refine ZW [0, 1, 2, 3, 4, 5, 6, 7, 8] #[0, 0, 2, 6, 14, 30, 0, 127, 255] XH6 XH6 XH6 ?_
   refine Oo u73 .look rfl (W3c rfl rfl rfl rfl rfl) ?_
   refine Oo u73 .calm rfl (Zb (.inl rfl) rfl) ?_
   refine Oo u73 .calm rfl (rfl) ?_
   refine Oo u73 .calm rfl (rfl) ?_
   refine Oo u73 .look rfl (W33 rfl rfl rfl rfl) ?_
   refine Oo u73 .look rfl (rfl) ?_
   refine Oo u73 .calm rfl (Zb (.inl rfl) rfl) ?_
   refine Yf (env' := u73) rfl rfl rfl rfl rfl (by exact rEarlyN _ _ _ _ (hR1.2 _ (rul_mem (by omega)))) XH9 rfl rfl ?_
   refine Oo u73 .calm rfl (rfl) ?_
   refine Z3 [] XH6 (trivial) ?_
   refine Zc ?_
   refine Zo _ rfl (fun hc3 => ?_) (fun hc3 => ?_)
   ·try simp only [qB, qN] at hc3
    refine Zd (Za ?_)
    refine Lo u73 (Zg (VVal.bool false) (.inr rfl) rfl) ?_
    refine Zf (Zc (Zl (ZX (Zt (Y2 (ZX (Zt ?_)))))))
    refine W2t (.inr rfl) (Zi rfl rfl) ?_
    exact W3a
   ·try simp only [qB, qN] at hc3
    refine Zk (Zu (Zc (Za ?_)))
    refine Lo u73 (W14 rfl rfl rfl) ?_
    refine Lo u73 (Zb (.inl rfl) rfl) ?_
    refine Zf ?_
    refine K_loopG (mk 73 9444606864949724053468) (env' := u73) rfl (Gh.dropTo (L := []) (X := [_]) 0 rfl (BaseOk.set (BaseOk.refl _) _ rfl) (by first | (simp [VVal.underL, VVal.under, Yr]; done) | (simp [VVal.underL, VVal.under, Yr, rss_under, YX, mapN_under, fzR_und, List.length_set, hy]; done) | (simp [VVal.underL, VVal.under, Yr]; omega)) rfl) ⟨k + 1, ?_, rfl, ?_⟩
    ·first | omega | (simp only []; omega)
    ·exact ⟨⟨by omega, all_step (by omega) hall (by assumption)⟩, rfl⟩
  ·try simp only [qB, qN] at hc2
   refine ZP (ZR (ZH (ZO (Zc (Zd (Za ?_))))))
   refine Lo u73 (Zb (.inl rfl) rfl) ?_
   refine Lo u73 (Zb (.inl rfl) rfl) ?_
   refine Zn rfl rfl rfl (by exact hfull_spec (H.set y (gaB (⟨g.n + 1, g.p + u, g.e⟩ : Gz)) ++ []) y (⟨g.n + 1, g.p + u, g.e⟩ : Gz) (Zp (List.getElem?_set_self hy)) (Ya ws a a.length) 0#64 (by have := @Y4 a a.length; omega)) ?_
   rintro v _ ⟨rfl, rfl⟩; rw [Yl XH34, List.set_set]
   refine Le u73 ?_
   refine Lo u73 (Zb (.inr rfl) rfl) ?_
   refine Zf (Zc (Zl ?_))
   refine W2t (.inr rfl) (Zi rfl rfl) ?_
   exact W3a
theorem W3f {T : TypeId → Option VTy} {H : Ze} {op : Op} {ρ : Operand → VVal} {t : TypeId} {a : Operand} {y : VTy} {p v : VVal} (ho : op = .load t a) (ha : ρ a = p) (hy : T t = some y) (hd : Zm y.desc = false) (h : LdOk H p v := by first | exact .inl ⟨_, _, rfl, XH48⟩ | exact .inr ⟨_, _, _, _, rfl, by exact get_out hq, XH48⟩) : vop T ρ H op = some (v, H) := v_ld ho ha hy hd h
theorem W3g {T : TypeId → Option VTy} {H : Ze} {op : Op} {ρ : VEnv} {H' : Ze} {t : TypeId} {a : Operand} {i : Nat} {v : VVal} {y : VTy} {b off : Nat} {cs new : List VVal} (ho : op = .store t a (.tmp i)) (hv : ρ[i]? = some v) (ha : ρ.eval a = .ptr (some (b, off))) (hy : T t = some y) (hx : v.cells = some new) (hn : new.length = y.size) (h1 : new.all VVal.one = true) (hb : H[b]? = some (.cells cs true) := by exact get_out hq) (hl : off + new.length ≤ cs.length := by exact XH49) (hH : H.set b (.cells (Zv cs off new) true) = H' := by exact Yl hql) : vop T ρ.eval H op = some (.skip, H') := ZT ho hv ha hy hx hn h1 hb hl hH
theorem W3h {T : TypeId → Option VTy} {H : Ze} {op : Op} {ρ : Operand → VVal} {t : TypeId} {a : Operand} {y : VTy} {p v : VVal} (ho : op = .load t a) (ha : ρ a = p) (hy : T t = some y) (hd : Zm y.desc = false) (h : LdOk H p v := by first | exact .inl ⟨_, _, rfl, by rfl⟩ | exact .inr ⟨_, _, _, _, rfl, by exact get_out (List.getElem?_set_self hql), by rfl⟩) : vop T ρ H op = some (v, H) := v_ld ho ha hy hd h
theorem W3i {T : TypeId → Option VTy} {H : Ze} {op : Op} {ρ : Operand → VVal} {t : TypeId} {a : Operand} {y : VTy} {p v : VVal} (ho : op = .load t a) (ha : ρ a = p) (hy : T t = some y) (hd : Zm y.desc = false) (h : LdOk H p v := by first | exact .inl ⟨_, _, rfl, XH48⟩ | exact .inr ⟨_, _, _, _, rfl, by exact get_out ((List.getElem?_set_ne (Ne.symm hqm)).trans hm), XH48⟩) : vop T ρ H op = some (v, H) := v_ld ho ha hy hd h
theorem Found_spec {x : SW} (H : Ze) (q m : Nat) (hq : H[q]? = some (.cells [.slice none 0 0 true 0] true)) (hm : H[m]? = some (.cells [iI 1] true)) (a : List Nat) : F (psys x) 83 [fzN a, .ptr (some (q, 0)), .ptr (some (m, 0))] H fun v G => v = .bool false ∧ ∃ X w, G = H.set q (.cells [w] true) ++ X ∧ LV H.length 1 X w [fzN a] 1 := by
 have hql := ZI hq
 have hqm : m ≠ q := fun e => by subst e; rw [hm] at hq; cases hq
 refine Zr Tryd.func83 rfl u13 rfl ?_
 refine Zd (Za ?_)
 refine Lo u13 (Zg (VVal.bool false) (.inr rfl) rfl) ?_
 refine Zf (Zc (Zd (Za ?_)))
 refine Lo u13 (W3f rfl rfl rfl rfl) ?_
 refine Lo u13 (Zb (.inl rfl) rfl) ?_
 refine Lo u13 (Zx rfl rfl (by decide) rfl) ?_
 refine L_opX rfl rfl (v_appX rfl rfl rfl rfl rfl rfl rfl (LV.nil _ _ _) rfl rfl (by decide) (by decide) (by decide)) ?_
 rintro _ _ ⟨Y1, rfl, rfl, hY1, hY2, hY3⟩
 refine Le u13 ?_
 refine Lo u13 (W3g rfl rfl rfl rfl rfl rfl rfl) ?_
 refine Zf (Zc (Zd (Za ?_)))
 refine Lo u13 (W3h rfl rfl rfl rfl) ?_
 refine Lo u13 (v_len rfl rfl rfl rfl hY3) ?_
 refine Lo u13 (W3i rfl rfl rfl rfl) ?_
 refine Lo u13 (rfl) ?_
 refine Lo u13 (Zb (.inr rfl) rfl) ?_
 refine Zf (Zc (Zl ?_))
 refine YG (.inr rfl) (Zi rfl rfl) ?_
 exact ⟨rfl, _, _, rfl, hY3⟩
theorem CloI_nil {x : SW} (H : Ze) : F (psys x) 109 [.slice none 0 0 true 0] H fun v G => v = .fsl [] 0 1 false ∧ G = H := by
 refine Zr Tryd.func109 rfl u8 rfl ?_
 refine Zd (Za ?_)
 refine Lo u8 (Zg (VVal.slice none 0 0 true 0) (.inr rfl) rfl) ?_
 refine Zf (Zc (Zd (Zd (Za ?_))))
 refine Lo u8 (Zb (.inl rfl) rfl) ?_
 refine Lo u8 (rfl) ?_
 refine Zf (Zc ?_)
 refine Z0 rfl rfl ?_
 refine Zd (Za ?_)
 refine Lo u8 (Zg (VVal.slice none 0 0 true 0) (.inr rfl) rfl) ?_
 refine Zf (Zc (Zl (Zt ?_)))
 refine E_gh (.inr rfl) (Zi rfl rfl) (Gh.ansLV (BaseOk.refl _) (LV.nil H.length 1 []) rfl) ?_
 exact ⟨rfl, rfl⟩
theorem CloI_b {x : SW} (H : Ze) (b cap : Nat) (cs l : List VVal) (hb : H[b]? = some (.cells cs true)) (hc : cs.take l.length = l) (hl : l.length ≤ cs.length) (h0 : 0 < l.length) (hm : l.length ≤ 1000000) (h1 : l.all VVal.one = true) (hu : VVal.underL H.length l = true) : F (psys x) 109 [.slice (some (b, 0)) l.length cap false 1] H fun v G => v = .fsl l l.length 1 false ∧ G = H := by
 refine Zr Tryd.func109 rfl u8 rfl ?_
 refine Zd (Za ?_)
 refine Lo u8 (Zg (VVal.slice none 0 0 true 0) (.inr rfl) rfl) ?_
 refine Zf (Zc (Zd (Zd (Za ?_))))
 refine Lo u8 (Zb (.inl rfl) rfl) ?_
 refine Lo u8 (rfl) ?_
 refine Zf (Zc ?_)
 refine ZV rfl rfl ?_
 refine Zk (Zc (Zd (Za ?_)))
 refine Lo u8 (Zx rfl rfl (by decide) rfl) ?_
 refine Lo u8 (Zb (.inl rfl) rfl) ?_
 refine L_opX rfl rfl (v_appEs rfl rfl rfl rfl rfl rfl rfl rfl (srcLive hb hc hl) (by exact (Nat.mul_one _).symm) h1 (by decide) (by show l.length * 8 ≤ _ ∧ l.length ≤ _; omega)) ?_
 rintro _ _ ⟨Z, i, rfl, rfl, hi⟩
 refine Le u8 ?_
 refine Lo u8 (Zb (.inr rfl) rfl) ?_
 refine Zf (Zc (Zl ?_))
 refine E_gh (.inr rfl) (Zi rfl rfl) (Gh.fsl (BaseOk.refl _) hi (by show Zs l 0 (l.length * 1) = some l; unfold Zs; rw [if_pos (by omega), List.drop_zero, Nat.mul_one, List.take_length]) (Nat.le_refl _) hu) ?_
 exact ⟨rfl, rfl⟩
theorem rc_under (n : Nat) (row : List Nat) : VVal.underL n (rcN row) = true := VVal.underL_map fun _ => rfl
theorem rc_one (row : List Nat) : (rcN row).all VVal.one = true := List.all_eq_true.2 fun v hv => by
  obtain ⟨n, _, rfl⟩ := List.mem_map.1 hv; rfl
theorem CloR {x : SW} (B X : Ze) (rv : VVal) (row : List Nat) (r : RV B.length X rv (rcN row)) (h : row = [] → rv = .slice none 0 0 true 0) (hm : row.length ≤ 1000000) : F (psys x) 109 [rv] (B ++ X) fun v G => v = fzN row ∧ G = B ++ X := by
  rcases r with ⟨h1, rfl⟩ | ⟨b, cap, cs, rfl, h2, h3, h4, h5⟩
  · obtain rfl : row = [] := by simpa using h1
    exact CloI_nil _
  · by_cases h0 : row = []
    · exact absurd (h h0) (by simp)
    · have hlen : (rcN row).length = row.length := by simp
      have hpos : 0 < row.length := List.length_pos_iff.2 h0
      have := CloI_b (x := x) (B ++ X) (B.length + b) cap cs (rcN row) (ZB rfl h2) h5 (by omega) (by omega) (by omega) (rc_one _) (rc_under _ _)
      rw [hlen] at this ⊢
      exact this
abbrev kpV (u : Nat) (ws : List (BitVec 64)) (rss : List (List Rul)) (y : Nat) : VVal := .func 53 [huP (u : Nat) (fzW ws) (fzRR rss) y] []
abbrev fdV (H : Ze) : VVal := .func 83 [] [.ptr (some (H.length + 1, 0)), .ptr (some (H.length, 0))]
abbrev niS : VVal := .slice none 0 0 true 0
def wkH (H : Ze) (y : Nat) (kv rv fnd : VVal) (g : Gz) : Ze := H.set y (gaB g) ++ [.cells [iI 1] true, .cells [fnd] true, .cells [rv, kv, fdV H] true]
section
variable {H X : Ze} {y : Nat} {kv rv fnd : VVal} {g : Gz}
theorem wk_len : (wkH H y kv rv fnd g).length = H.length + 3 := by unfold wkH; rw [List.length_append, List.length_set]; rfl
theorem wk_at {n : Nat} {k : VBlk} (h : n < 3) (hk : [VBlk.cells [iI 1] true, .cells [fnd] true, .cells [rv, kv, fdV H] true][n]? = some k) : (wkH H y kv rv fnd g ++ X)[H.length + n]? = some k := by
  unfold wkH; rw [List.append_assoc]; exact ZB (List.length_set) (by rw [List.getElem?_append_left h]; exact hk)
theorem wk_ga (hy : y < H.length) : (wkH H y kv rv fnd g ++ X)[y]? = some (gaB g) := by
  unfold wkH; rw [List.append_assoc]; exact get_out (List.getElem?_set_self hy)
theorem wk_setg {g' : Gz} (hy : y < H.length) : (wkH H y kv rv fnd g ++ X).set y (gaB g') = wkH H y kv rv fnd g' ++ X := by
  unfold wkH; rw [List.append_assoc, Yl XH34, List.set_set, List.append_assoc]
theorem wk_setf {w : VVal} : (wkH H y kv rv fnd g ++ X).set (H.length + 1) (.cells [w] true) = wkH H y kv rv w g ++ X := by
  unfold wkH; rw [List.append_assoc, ZF (List.length_set), List.append_assoc]; rfl
theorem wk_setr {w : VVal} : (wkH H y kv rv fnd g ++ X).set (H.length + 2) (.cells (Zv [rv, kv, fdV H] (0 + 0) [w]) true) = wkH H y kv w fnd g ++ X := by
  unfold wkH; rw [List.append_assoc, ZF (List.length_set), List.append_assoc]; rfl
end
def frPost (H : Ze) (y : Nat) (kv : VVal) (g : Gz) (row : List Nat) (r : Gz × Option (List Nat)) (v : VVal) (G : Ze) : Prop :=
  ∃ rv X, RV (H.length + 3) X rv (rcN row) ∧ ((r.2 = none ∧ v = .bool true ∧ G = wkH H y kv rv niS (g + r.1) ++ X) ∨ ∃ s w, r.2 = some s ∧ v = .bool false ∧ G = wkH H y kv rv w (g + r.1) ++ X ∧ LV (H.length + 3) 1 X w [fzN s] 1)
theorem hKeep_in {x : SW} {H X : Ze} {u y : Nat} {ws : List (BitVec 64)} {rss : List (List Rul)} {rv fnd : VVal} {g : Gz} (hy : y < H.length) (a : List Nat) (ha : Pat a) (h0 : 0 < a.length) (hw : a.length ≤ ws.length) (hn : ws.length ≤ 1000000) (hr : rss.length = ws.length) (hR : ∀ i, (rss.getD i []).length ≤ 1000000 ∧ ∀ r, r ∈ rss.getD i [] → r.steps.length ≤ 1000000) :
    F (psys x) 53 [huP (u : Nat) (fzW ws) (fzRR rss) y, fzN a] (wkH H y (kpV u ws rss y) rv fnd g ++ X) fun v G => (v = .bool true ∧ kpB ws rss a = true ∧ G = wkH H y (kpV u ws rss y) rv fnd (g + kpG u ws rss a) ++ X) ∨ (v = .bool false ∧ kpB ws rss a = false ∧ G = wkH H y (kpV u ws rss y) rv fnd (g + kpG u ws rss a) ++ X) := by
  refine (hKeep_spec _ y g (wk_ga hy) ws rss a ha h0 hw hn hr hR).mono ?_
  rintro v G ⟨rfl, rfl⟩
  rw [wk_setg hy]
  cases h : kpB ws rss a
  · exact .inr ⟨rfl, rfl, rfl⟩
  · exact .inl ⟨rfl, rfl, rfl⟩
abbrev u84 {a0 a1 a2 a3 a4 a5 a6 a7 a8 a9 a10 a11 a12 a13 a14 a15 a16 a17 a18 a19 a20 a21 a22 a23 a24 a25 a26 a27 a28 a29 a30 a31 a32 a33 a34 a35 a36 a37 a38 a39 a40 a41 a42 a43 a44 a45 a46 a47 a48 a49 a50 a51 a52 a53 a54 a55 a56 a57 a58 a59 a60 a61 a62 a63 a64 a65 a66 a67 a68 a69 a70 a71 a72 a73 a74 a75 a76 a77 a78 a79 a80 a81 a82 a83 : VVal} : VEnv := a0 :: a1 :: a2 :: a3 :: a4 :: a5 :: a6 :: a7 :: a8 :: a9 :: a10 :: a11 :: a12 :: a13 :: a14 :: a15 :: a16 :: a17 :: a18 :: a19 :: a20 :: a21 :: a22 :: a23 :: a24 :: a25 :: a26 :: a27 :: a28 :: a29 :: a30 :: a31 :: a32 :: a33 :: a34 :: a35 :: a36 :: a37 :: a38 :: a39 :: a40 :: a41 :: a42 :: a43 :: a44 :: a45 :: a46 :: a47 :: a48 :: a49 :: a50 :: a51 :: a52 :: a53 :: a54 :: a55 :: a56 :: a57 :: a58 :: a59 :: a60 :: a61 :: a62 :: a63 :: a64 :: a65 :: a66 :: a67 :: a68 :: a69 :: a70 :: a71 :: a72 :: a73 :: a74 :: a75 :: a76 :: a77 :: a78 :: a79 :: a80 :: a81 :: a82 :: a83 :: []
theorem W3j {T : TypeId → Option VTy} {H : Ze} {op : Op} {ρ : Operand → VVal} {t : TypeId} {a : Operand} {y : VTy} {p v : VVal} (ho : op = .load t a) (ha : ρ a = p) (hy : T t = some y) (hd : Zm y.desc = false) (h : LdOk H p v := by first | exact .inl ⟨_, _, rfl, by first | rfl | assumption⟩ | exact .inr ⟨_, _, _, _, rfl, by exact wk_at (n := 2) (by decide) rfl, by first | rfl | assumption⟩) : vop T ρ H op = some (v, H) := v_ld ho ha hy hd h
theorem W3l {T : TypeId → Option VTy} {H : Ze} {op : Op} {ρ : Operand → VVal} {t ty : TypeId} {x y : Operand} {n m : Int} (ho : op = .binOp .sub t x y ty) (hx : ρ x = .int .i64 n) (hy : ρ y = .int .i64 m) (h : -9223372036854775808 ≤ n - m ∧ n - m < 9223372036854775808 := by simp; omega) : vop T ρ H op = some (.int .i64 (n - m), H) := v_subI ho hx hy h
theorem W3m {P : Prop} (h : P := by first | exact ⟨_, _, hr4, .inr ⟨s, w, by rw [frm_R, hx, frR_hit (by omega) hk1 ho], rfl, by rw [frm_R, hx, frR_hit (by omega) hk1 ho]; simp only [Gz.assoc], hw⟩⟩ | exact ⟨_, _, hr1, .inl ⟨by rw [frm_R, hx, frR_end (by omega)], rfl, by rw [frm_R, hx, frR_end (by omega)]; show _ = wkH _ _ _ _ _ (g + (d + 0)) ++ _; rw [Gz.add_zero]⟩⟩) : P := h
theorem from_0 {x : SW} (H : Ze) {u y : Nat} {ws : List (BitVec 64)} {rss : List (List Rul)} (hy : y < H.length) (hn : ws.length ≤ 1000000) (hr : rss.length = ws.length) (hR : ∀ i, (rss.getD i []).length ≤ 1000000 ∧ ∀ r, r ∈ rss.getD i [] → r.steps.length ≤ 1000000) (row : List Nat) (rv : VVal) (X : Ze) (g : Gz) (hp : Pat row) (hrv : RV (H.length + 3) X rv (rcN row)) (h0 : row = [] → rv = niS) (hl : row.length = ws.length) : F (psys x) 84 [.ptr (some (H.length + 2, 0)), iI (ws.length : Nat), iI (szP row row.length : Nat)] (wkH H y (kpV u ws rss y) rv niS g ++ X) (frPost H y (kpV u ws rss y) g row (frm (kpB ws rss) (kpG u ws rss) 0 row (szP row row.length))) := by
 refine Zr Tryd.func84 rfl u84 rfl ?_
 refine Zd (Za ?_)
 refine Lo u84 (Zg (VVal.bool false) (.inr rfl) rfl) ?_
 refine Zf (Zc (Zd (Zd ?_)))
 rw [List.append_nil]
 refine Za ?_
 refine Lo u84 (Zb (.inl rfl) rfl) ?_
 refine Lo u84 (rfl) ?_
 refine Lo u84 (rfl) ?_
 refine Lo u84 (W3j rfl rfl rfl rfl) ?_
 refine Lo u84 (v_lenN rfl rfl rfl rfl hrv) ?_
 refine Lo u84 (Zb (.inl rfl) rfl) ?_
 refine Lo u84 (Yy true rfl (by rw [hl]; simp)) ?_
 refine Zf (Zc ?_)
 refine Z0 rfl rfl ?_
 refine Zd ?_
 refine B_drawP #[0, 1, 3, 7, 0, 16, 48, 112, 240, 511, 1023] XH6 ?_
 refine P_seg [0, 1, 2, 3, 4, 5, 6, 7, 8] (bef := #[0, 1, 3, 7, 0, 16, 48, 112, 240, 511, 1023]) XH6 XH6 XH6 ?_
 refine Oo u84 .calm rfl (Zb (.inl rfl) rfl) ?_
 refine Oo u84 .calm rfl (rfl) ?_
 refine Oo u84 .calm rfl (rfl) ?_
 refine Yh (env' := u84) (x := .look _ _) rfl rfl rfl (W3j rfl rfl rfl rfl) rfl rfl rfl ?_
 refine Oo u84 .calm rfl (Zb (.inl rfl) rfl) ?_
 refine Oo u84 .calm rfl (rfl) ?_
 refine Oo u84 .calm rfl (rfl) ?_
 refine Oo u84 .look rfl (W3j rfl rfl rfl rfl) ?_
 refine Yf (env' := u84) rfl rfl rfl rfl rfl (by exact CloR _ _ _ _ (by rw [wk_len]; exact hrv) h0 (by omega)) XH9 rfl rfl ?_
 refine Z3 [_] (by rfl) (And.intro (And.intro (W3j rfl rfl rfl rfl) (W3j rfl rfl rfl rfl)) trivial) ?_
 refine P_call 9 (bef := #[0, 1, 3, 7, 0, 16, 48, 112, 240, 511, 1023]) XH6 XH6 rfl rfl rfl rfl (by exact Found_spec _ (H.length + 1) H.length (wk_at (n := 1) (by decide) rfl) (wk_at (n := 0) (by decide) rfl) row) ?_
 rintro _ _ ⟨rfl, X2, w, rfl, hw⟩; rw [wk_setf, List.append_assoc]
 refine P_env (env' := u84) rfl ?_
 refine P_seg [10] (bef := #[0, 1, 3, 7, 0, 16, 48, 112, 240, 511, 1023]) XH6 XH6 XH6 ?_
 refine Oo u84 .calm rfl (Zb (.inr rfl) rfl) ?_
 refine Z3 [] XH6 (trivial) ?_
 refine P_end XH6 ?_
 refine Zc (Zl (Zt ?_))
 refine YG (.inr rfl) (Zi rfl rfl) ?_
 exact ⟨rv, X ++ X2, hrv.app _, .inr ⟨row, w, rfl, rfl, by rw [show (frm (kpB ws rss) (kpG u ws rss) 0 row (szP row row.length)).1 = 0 from rfl, Gz.add_zero, List.append_assoc], LV.behind (by rw [List.length_append, wk_len]) hw⟩⟩
theorem from_s {x : SW} (H : Ze) {u y : Nat} {ws : List (BitVec 64)} {rss : List (List Rul)} (hy : y < H.length) (hn : ws.length ≤ 1000000) (hr : rss.length = ws.length) (hR : ∀ i, (rss.getD i []).length ≤ 1000000 ∧ ∀ r, r ∈ rss.getD i [] → r.steps.length ≤ 1000000) (n : Nat) (ih : ∀ (row : List Nat) (rv : VVal) (X : Ze) (g : Gz) (hp : Pat row) (hrv : RV (H.length + 3) X rv (rcN row)) (h0 : row = [] → rv = niS), row.length + n = ws.length → F (psys x) 84 [.ptr (some (H.length + 2, 0)), iI (ws.length : Nat), iI (szP row row.length : Nat)] (wkH H y (kpV u ws rss y) rv niS g ++ X) (frPost H y (kpV u ws rss y) g row (frm (kpB ws rss) (kpG u ws rss) n row (szP row row.length)))) (row : List Nat) (rv : VVal) (X : Ze) (g : Gz) (hp : Pat row) (hrv : RV (H.length + 3) X rv (rcN row)) (h0 : row = [] → rv = niS) (hl : row.length + (n + 1) = ws.length) : F (psys x) 84 [.ptr (some (H.length + 2, 0)), iI (ws.length : Nat), iI (szP row row.length : Nat)] (wkH H y (kpV u ws rss y) rv niS g ++ X) (frPost H y (kpV u ws rss y) g row (frm (kpB ws rss) (kpG u ws rss) (n + 1) row (szP row row.length))) := by
 refine Zr Tryd.func84 rfl u84 rfl ?_
 refine Zd (Za ?_)
 refine Lo u84 (Zg (VVal.bool false) (.inr rfl) rfl) ?_
 refine Zf (Zc (Zd (Zd ?_)))
 rw [List.append_nil]
 refine Za ?_
 refine Lo u84 (Zb (.inl rfl) rfl) ?_
 refine Lo u84 (rfl) ?_
 refine Lo u84 (rfl) ?_
 refine Lo u84 (W3j rfl rfl rfl rfl) ?_
 refine Lo u84 (v_lenN rfl rfl rfl rfl hrv) ?_
 refine Lo u84 (Zb (.inl rfl) rfl) ?_
 refine Lo u84 (Yy false rfl (by simp; omega)) ?_
 refine Zf (Zc ?_)
 refine ZV rfl rfl ?_
 refine Zk (Zc (Zd (Zd (Za ?_))))
 refine Lo u84 (Zg (VVal.int .i64 0) (.inr rfl) rfl) ?_
 refine Zf (Zc (Zj ?_))
 refine ZC (mk 84 19342813113834066795298680) (env' := u84) rfl ?_
 refine ZJ (fun (k : Nat) => szP row row.length + 1 - k) (fun (k : Nat) => [(7, iI (k : Nat))]) (fun (k : Nat) G => (k ≤ szP row row.length + 1) ∧ ∃ X1 rv1 d, G = wkH H y (kpV u ws rss y) rv1 niS (g + d) ++ X1 ∧ RV (H.length + 3) X1 rv1 (rcN row) ∧ frR (kpB ws rss) (kpG u ws rss) (frm (kpB ws rss) (kpG u ws rss) n) row (szP row row.length) 0 = (d + (frR (kpB ws rss) (kpG u ws rss) (frm (kpB ws rss) (kpG u ws rss) n) row (szP row row.length) k).1, (frR (kpB ws rss) (kpG u ws rss) (frm (kpB ws rss) (kpG u ws rss) n) row (szP row row.length) k).2)) 0 rfl ?_ ?_
 ·refine ⟨?_, ⟨X, rv, 0, by rw [Gz.add_zero], hrv, by rw [Gz.zero_add]⟩⟩
  exact Nat.zero_le _
 rintro k _ ⟨hk, ⟨X1, rv1, d, rfl, hr1, hx⟩⟩
 refine ZU (env' := u84) rfl ?_
 have hsz := @Y4 row row.length
 refine Zd (Zd (Za ?_))
 refine Lo u84 (Zb (.inl rfl) rfl) ?_
 refine Lo u84 (Zb (.inl rfl) rfl) ?_
 refine Lo u84 (rfl) ?_
 refine Zf (Zc ?_)
 refine Zo _ rfl (fun hc1 => ?_) (fun hc1 => ?_)
 ·try simp only [qB, qN] at hc1
  refine Zk (Zc (Zd (Zj (Zd (Za ?_)))))
  refine Lo u84 (Zb (.inl rfl) rfl) ?_
  refine Lo u84 (Zb (.inl rfl) rfl) ?_
  refine Lo u84 (rfl) ?_
  refine Lo u84 (rfl) ?_
  refine Lo u84 (W3j rfl rfl rfl rfl) ?_
  refine Lo u84 (Zb (.inl rfl) rfl) ?_
  refine Lo u84 (Zx rfl rfl (by decide) rfl) ?_
  refine L_opX rfl rfl (v_rvApp rfl rfl rfl rfl rfl rfl rfl rfl (by rw [wk_len]; exact hr1) rfl (by rw [List.length_map]; show (row.length + 1) * 8 ≤ _ ∧ _; omega)) ?_
  rintro v2 _ ⟨Y1, rfl, hY⟩; have hY : RV (H.length + 3) Y1 v2 (rcN (row ++ [k])) := by rw [rcN_snoc]; rw [wk_len] at hY; exact hY
  refine Le u84 ?_
  refine Lo u84 (rfl) ?_
  refine Lo u84 (rfl) ?_
  refine Lo u84 (ZT rfl rfl rfl rfl hY.cells rfl (by simp [hY.one]) (wk_at (n := 2) (by decide) rfl) (Nat.le_of_ble_eq_true rfl) wk_setr) ?_
  refine Zf (Zc (Zd ?_))
  refine B_drawP #[0, 1, 3, 7, 15, 31, 63, 127, 255, 511, 63, 1087, 3135, 7231, 15423, 32767, 65535, 131071, 262143, 524287, 524287, 524287, 524287, 4718591, 15204351, 33554431, 67108863, 134217727] XH6 ?_
  refine P_seg [0, 1, 2, 3, 4, 5, 6, 7, 8, 9, 10, 11, 12, 13, 14] (bef := #[0, 1, 3, 7, 15, 31, 63, 127, 255, 511, 63, 1087, 3135, 7231, 15423, 32767, 65535, 131071, 262143, 524287, 524287, 524287, 524287, 4718591, 15204351, 33554431, 67108863, 134217727]) XH6 XH6 XH6 ?_
  refine Oo u84 .calm rfl (Zb (.inl rfl) rfl) ?_
  refine Oo u84 .calm rfl (rfl) ?_
  refine Oo u84 .calm rfl (rfl) ?_
  refine Oo u84 .look rfl (W3j rfl rfl rfl rfl) ?_
  refine Oo u84 .calm rfl (rfl) ?_
  refine Oo u84 .calm rfl (Zb (.inl rfl) rfl) ?_
  refine Oo u84 .calm rfl (Zb (.inl rfl) rfl) ?_
  refine Oo u84 .calm rfl (rfl) ?_
  refine Oo u84 .calm rfl (rfl) ?_
  refine Yh (env' := u84) (x := .look _ _) rfl rfl rfl (W3j rfl rfl rfl rfl) rfl rfl rfl ?_
  refine Oo u84 .calm rfl (Zb (.inl rfl) rfl) ?_
  refine Oo u84 .calm rfl (rfl) ?_
  refine Oo u84 .calm rfl (rfl) ?_
  refine Oo u84 .look rfl (W3j rfl rfl rfl rfl) ?_
  refine Yf (env' := u84) rfl rfl rfl rfl rfl (by exact CloR _ _ _ (row ++ [k]) (by rw [wk_len]; exact hY) (by simp) (by simp; omega)) XH9 rfl rfl ?_
  refine Z3 [_] (by rfl) (And.intro (And.intro (W3j rfl rfl rfl rfl) (W3j rfl rfl rfl rfl)) trivial) ?_
  refine P_call 15 (bef := #[0, 1, 3, 7, 15, 31, 63, 127, 255, 511, 63, 1087, 3135, 7231, 15423, 32767, 65535, 131071, 262143, 524287, 524287, 524287, 524287, 4718591, 15204351, 33554431, 67108863, 134217727]) XH6 XH6 rfl rfl rfl rfl (by exact hKeep_in hy (row ++ [k]) (Pat_snoc hp (by omega)) (by simp) (by simp; omega) hn hr hR) ?_
  rintro _ _ (⟨rfl, hk1, rfl⟩ | ⟨rfl, hk1, rfl⟩)
  ·skip
   refine P_env (env' := u84) rfl ?_
   refine P_seg [16, 17, 18, 19, 20, 21, 22, 23, 24] (bef := #[0, 1, 3, 7, 15, 31, 63, 127, 255, 511, 63, 1087, 3135, 7231, 15423, 32767, 65535, 131071, 262143, 524287, 524287, 524287, 524287, 4718591, 15204351, 33554431, 67108863, 134217727]) XH6 XH6 XH6 ?_
   refine Oo u84 .calm rfl (rfl) ?_
   refine Oo u84 .calm rfl (Zz rfl rfl rfl) ?_
   refine Oo u84 .calm rfl (Zb (.inl rfl) rfl) ?_
   refine Oo u84 .calm rfl (Zb (.inl rfl) rfl) ?_
   refine Oo u84 .calm rfl (Zb (.inl rfl) rfl) ?_
   refine Oo u84 .calm rfl (Zb (.inl rfl) rfl) ?_
   refine Oo u84 .calm rfl (Zb (.inl rfl) rfl) ?_
   refine Oo u84 .calm rfl (W14 rfl rfl rfl) ?_
   refine Oo u84 .calm rfl (v_val rfl (by show iI _ = iI ((max (szP row row.length) (k + 1) : Nat)); congr 1; omega)) ?_
   refine Z3 [] XH6 (trivial) ?_
   refine P_call 25 (bef := #[0, 1, 3, 7, 15, 31, 63, 127, 255, 511, 63, 1087, 3135, 7231, 15423, 32767, 65535, 131071, 262143, 524287, 524287, 524287, 524287, 4718591, 15204351, 33554431, 67108863, 134217727]) XH6 XH6 rfl rfl rfl rfl (by have := ih (row ++ [k]) _ _ (g + d + kpG u ws rss (row ++ [k])) (Pat_snoc hp (by omega)) hY (by simp) (by simp; omega); rw [szP_next (by omega)] at this; exact this) ?_
   rintro _ _ ⟨rv3, X3, hr3, (⟨ho, rfl, rfl⟩ | ⟨s, w, ho, rfl, rfl, hw⟩)⟩
   ·skip
    refine P_env (env' := u84) rfl ?_
    refine P_seg [26, 27] (bef := #[0, 1, 3, 7, 15, 31, 63, 127, 255, 511, 63, 1087, 3135, 7231, 15423, 32767, 65535, 131071, 262143, 524287, 524287, 524287, 524287, 4718591, 15204351, 33554431, 67108863, 134217727]) XH6 XH6 XH6 ?_
    refine Oo u84 .calm rfl (ZQ rfl rfl rfl) ?_
    refine Oo u84 .calm rfl (Zb (.inr rfl) rfl) ?_
    refine Z3 [] XH6 (trivial) ?_
    refine P_end XH6 ?_
    refine Zc (Zd ?_)
    refine ZW [0, 1, 2, 3, 4, 5, 6, 7, 8, 9, 10, 11, 12, 13, 14] #[0, 0, 2, 6, 14, 0, 32, 96, 224, 480, 992, 2046, 4095, 8191, 16383] XH6 XH6 XH6 ?_
    refine Oo u84 .calm rfl (Zb (.inl rfl) rfl) ?_
    refine Oo u84 .calm rfl (Zb (.inl rfl) rfl) ?_
    refine Oo u84 .calm rfl (rfl) ?_
    refine Oo u84 .calm rfl (rfl) ?_
    refine Oo u84 .look rfl (W3j rfl rfl rfl rfl) ?_
    refine Oo u84 .calm rfl (Zb (.inl rfl) rfl) ?_
    refine Oo u84 .calm rfl (rfl) ?_
    refine Oo u84 .calm rfl (rfl) ?_
    refine Oo u84 .look rfl (W3j rfl rfl rfl rfl) ?_
    refine Oo u84 .look rfl (XH39) ?_
    refine Oo u84 .calm rfl (W3l rfl rfl rfl) ?_
    refine O_opX .calm rfl rfl rfl (XH22) rfl rfl ?_
    rintro v4 _ ⟨rfl, hr4⟩
    refine O_env (env' := u84) rfl ?_
    refine Oo u84 .calm rfl (rfl) ?_
    refine Oo u84 .calm rfl (rfl) ?_
    refine Oo u84 .turn rfl (ZT rfl rfl rfl rfl hr4.cells rfl (by simp [hr4.one]) (wk_at (n := 2) (by decide) rfl) (Nat.le_of_ble_eq_true rfl) wk_setr) ?_
    refine Z3 [] XH6 (trivial) ?_
    refine Zc (Zd (Za ?_))
    refine Lo u84 (Zb (.inl rfl) rfl) ?_
    refine Lo u84 (rfl) ?_
    refine Zf (Zc ?_)
    refine ZV rfl rfl ?_
    refine Zk (Zu (Zc (Za ?_)))
    refine Lo u84 (Zb (.inl rfl) rfl) ?_
    refine Lo u84 (W14 rfl rfl rfl) ?_
    refine Lo u84 (Zb (.inr rfl) rfl) ?_
    refine Zf ?_
    refine ZD (mk 84 19342813113834066795298680) (env' := u84) rfl ⟨k + 1, ?_, rfl, ?_⟩
    ·first | omega | (simp only []; omega)
    ·first | exact ⟨by omega, _, _, d + (kpG u ws rss (row ++ [k]) + (frm (kpB ws rss) (kpG u ws rss) n (row ++ [k]) (max (szP row row.length) (k + 1))).1), by simp only [Gz.assoc], hr4, by rw [hx, frR_on (by omega) hk1 ho]; simp only [Gz.assoc]⟩ | exact ⟨by omega, _, _, d + kpG u ws rss (row ++ [k]), by simp only [Gz.assoc], hr4, by rw [hx, frR_no (by omega) hk1]; simp only [Gz.assoc]⟩
   ·skip
    refine P_env (env' := u84) rfl ?_
    refine P_seg [26, 27] (bef := #[0, 1, 3, 7, 15, 31, 63, 127, 255, 511, 63, 1087, 3135, 7231, 15423, 32767, 65535, 131071, 262143, 524287, 524287, 524287, 524287, 4718591, 15204351, 33554431, 67108863, 134217727]) XH6 XH6 XH6 ?_
    refine Oo u84 .calm rfl (ZQ rfl rfl rfl) ?_
    refine Oo u84 .calm rfl (Zb (.inr rfl) rfl) ?_
    refine Z3 [] XH6 (trivial) ?_
    refine P_end XH6 ?_
    refine Zc (Zd ?_)
    refine ZW [0, 1, 2, 3, 4, 5, 6, 7, 8, 9, 10, 11, 12, 13, 14] #[0, 0, 2, 6, 14, 0, 32, 96, 224, 480, 992, 2046, 4095, 8191, 16383] XH6 XH6 XH6 ?_
    refine Oo u84 .calm rfl (Zb (.inl rfl) rfl) ?_
    refine Oo u84 .calm rfl (Zb (.inl rfl) rfl) ?_
    refine Oo u84 .calm rfl (rfl) ?_
    refine Oo u84 .calm rfl (rfl) ?_
    refine Oo u84 .look rfl (W3j rfl rfl rfl rfl) ?_
    refine Oo u84 .calm rfl (Zb (.inl rfl) rfl) ?_
    refine Oo u84 .calm rfl (rfl) ?_
    refine Oo u84 .calm rfl (rfl) ?_
    refine Oo u84 .look rfl (W3j rfl rfl rfl rfl) ?_
    refine Oo u84 .look rfl (XH39) ?_
    refine Oo u84 .calm rfl (W3l rfl rfl rfl) ?_
    refine O_opX .calm rfl rfl rfl (XH22) rfl rfl ?_
    rintro v4 _ ⟨rfl, hr4⟩
    refine O_env (env' := u84) rfl ?_
    refine Oo u84 .calm rfl (rfl) ?_
    refine Oo u84 .calm rfl (rfl) ?_
    refine Oo u84 .turn rfl (ZT rfl rfl rfl rfl hr4.cells rfl (by simp [hr4.one]) (wk_at (n := 2) (by decide) rfl) (Nat.le_of_ble_eq_true rfl) wk_setr) ?_
    refine Z3 [] XH6 (trivial) ?_
    refine Zc (Zd (Za ?_))
    refine Lo u84 (Zb (.inl rfl) rfl) ?_
    refine Lo u84 (rfl) ?_
    refine Zf (Zc ?_)
    refine Z0 rfl rfl ?_
    refine Zd (Za ?_)
    refine Lo u84 (Zg (VVal.bool false) (.inr rfl) rfl) ?_
    refine Zf (Zc (Zl (ZX (Zt (Y2 (ZX (Zt ?_)))))))
    refine YG (.inr rfl) (Zi rfl rfl) ?_
    exact W3m
  ·skip
   refine P_env (env' := u84) rfl ?_
   refine P_seg [16, 17, 18, 19, 20, 21, 22, 23, 24] (bef := #[0, 1, 3, 7, 15, 31, 63, 127, 255, 511, 63, 1087, 3135, 7231, 15423, 32767, 65535, 131071, 262143, 524287, 524287, 524287, 524287, 4718591, 15204351, 33554431, 67108863, 134217727]) XH6 XH6 XH6 ?_
   refine Oo u84 .calm rfl (rfl) ?_
   refine Oo u84 .calm rfl (Zz rfl rfl rfl) ?_
   refine Oo u84 .calm rfl (Zb (.inl rfl) rfl) ?_
   refine Of u84 rfl ?_
   refine Of u84 rfl ?_
   refine Of u84 rfl ?_
   refine Of u84 rfl ?_
   refine Of u84 rfl ?_
   refine Of u84 rfl ?_
   refine Z3 [] XH6 (trivial) ?_
   refine P_seg [25, 26, 27] (bef := #[0, 1, 3, 7, 15, 31, 63, 127, 255, 511, 63, 1087, 3135, 7231, 15423, 32767, 65535, 131071, 262143, 524287, 524287, 524287, 524287, 4718591, 15204351, 33554431, 67108863, 134217727]) XH6 XH6 XH6 ?_
   refine Of u84 rfl ?_
   refine Oo u84 .calm rfl (ZY (VVal.bool true) rfl rfl rfl) ?_
   refine Oo u84 .calm rfl (Zb (.inr rfl) rfl) ?_
   refine Z3 [] XH6 (trivial) ?_
   refine P_end XH6 ?_
   refine Zc (Zd ?_)
   refine ZW [0, 1, 2, 3, 4, 5, 6, 7, 8, 9, 10, 11, 12, 13, 14] #[0, 0, 2, 6, 14, 0, 32, 96, 224, 480, 992, 2046, 4095, 8191, 16383] XH6 XH6 XH6 ?_
   refine Oo u84 .calm rfl (Zb (.inl rfl) rfl) ?_
   refine Oo u84 .calm rfl (Zb (.inl rfl) rfl) ?_
   refine Oo u84 .calm rfl (rfl) ?_
   refine Oo u84 .calm rfl (rfl) ?_
   refine Oo u84 .look rfl (W3j rfl rfl rfl rfl) ?_
   refine Oo u84 .calm rfl (Zb (.inl rfl) rfl) ?_
   refine Oo u84 .calm rfl (rfl) ?_
   refine Oo u84 .calm rfl (rfl) ?_
   refine Oo u84 .look rfl (W3j rfl rfl rfl rfl) ?_
   refine Oo u84 .look rfl (XH39) ?_
   refine Oo u84 .calm rfl (W3l rfl rfl rfl) ?_
   refine O_opX .calm rfl rfl rfl (XH22) rfl rfl ?_
   rintro v4 _ ⟨rfl, hr4⟩
   refine O_env (env' := u84) rfl ?_
   refine Oo u84 .calm rfl (rfl) ?_
   refine Oo u84 .calm rfl (rfl) ?_
   refine Oo u84 .turn rfl (ZT rfl rfl rfl rfl hr4.cells rfl (by simp [hr4.one]) (wk_at (n := 2) (by decide) rfl) (Nat.le_of_ble_eq_true rfl) wk_setr) ?_
   refine Z3 [] XH6 (trivial) ?_
   refine Zc (Zd (Za ?_))
   refine Lo u84 (Zb (.inl rfl) rfl) ?_
   refine Lo u84 (rfl) ?_
   refine Zf (Zc ?_)
   refine ZV rfl rfl ?_
   refine Zk (Zu (Zc (Za ?_)))
   refine Lo u84 (Zb (.inl rfl) rfl) ?_
   refine Lo u84 (W14 rfl rfl rfl) ?_
   refine Lo u84 (Zb (.inr rfl) rfl) ?_
   refine Zf ?_
   refine ZD (mk 84 19342813113834066795298680) (env' := u84) rfl ⟨k + 1, ?_, rfl, ?_⟩
   ·first | omega | (simp only []; omega)
   ·first | exact ⟨by omega, _, _, d + (kpG u ws rss (row ++ [k]) + (frm (kpB ws rss) (kpG u ws rss) n (row ++ [k]) (max (szP row row.length) (k + 1))).1), by simp only [Gz.assoc], hr4, by rw [hx, frR_on (by omega) hk1 ho]; simp only [Gz.assoc]⟩ | exact ⟨by omega, _, _, d + kpG u ws rss (row ++ [k]), by simp only [Gz.assoc], hr4, by rw [hx, frR_no (by omega) hk1]; simp only [Gz.assoc]⟩
 ·try simp only [qB, qN] at hc1
  refine ZP (ZR (ZH (ZO (Zc (Zd (Za ?_))))))
  refine Lo u84 (Zg (VVal.bool true) (.inr rfl) rfl) ?_
  refine Zf (Zc (Zl ?_))
  refine YG (.inr rfl) (Zi rfl rfl) ?_
  exact W3m
abbrev u29 {a0 a1 a2 a3 a4 a5 a6 a7 a8 a9 a10 a11 a12 a13 a14 a15 a16 a17 a18 a19 a20 a21 a22 a23 a24 a25 a26 a27 a28 : VVal} : VEnv := a0 :: a1 :: a2 :: a3 :: a4 :: a5 :: a6 :: a7 :: a8 :: a9 :: a10 :: a11 :: a12 :: a13 :: a14 :: a15 :: a16 :: a17 :: a18 :: a19 :: a20 :: a21 :: a22 :: a23 :: a24 :: a25 :: a26 :: a27 :: a28 :: []
theorem W3p {T : TypeId → Option VTy} {H : Ze} {op : Op} {ρ : Operand → VVal} {t : TypeId} {a : Operand} {y : VTy} {p v : VVal} (ho : op = .load t a) (ha : ρ a = p) (hy : T t = some y) (hd : Zm y.desc = false) (h : LdOk H p v := by first | exact .inl ⟨_, _, rfl, by rfl⟩ | exact .inr ⟨_, _, _, _, rfl, by exact ZB (List.length_set) hX, by rfl⟩) : vop T ρ H op = some (v, H) := v_ld ho ha hy hd h
theorem from_spec {x : SW} (H : Ze) {u y : Nat} {ws : List (BitVec 64)} {rss : List (List Rul)} (hy : y < H.length) (hn : ws.length ≤ 1000000) (hr : rss.length = ws.length) (hR : ∀ i, (rss.getD i []).length ≤ 1000000 ∧ ∀ r, r ∈ rss.getD i [] → r.steps.length ≤ 1000000) : ∀ (n : Nat) (row : List Nat) (rv : VVal) (X : Ze) (g : Gz) (hp : Pat row) (hrv : RV (H.length + 3) X rv (rcN row)) (h0 : row = [] → rv = niS), row.length + n = ws.length → F (psys x) 84 [.ptr (some (H.length + 2, 0)), iI (ws.length : Nat), iI (szP row row.length : Nat)] (wkH H y (kpV u ws rss y) rv niS g ++ X) (frPost H y (kpV u ws rss y) g row (frm (kpB ws rss) (kpG u ws rss) n row (szP row row.length)))
  | 0, row, rv, X, g, hp, hrv, h0, hl => from_0 H hy hn hr hR row rv X g hp hrv h0 hl
  | n + 1, row, rv, X, g, hp, hrv, h0, hl => from_s H hy hn hr hR n (fun row rv X g a b c d => from_spec H hy hn hr hR n row rv X g a b c d) row rv X g hp hrv h0 hl
theorem from_in {x : SW} (H : Ze) {u y : Nat} {ws : List (BitVec 64)} {rss : List (List Rul)} (g : Gz) (hs : H[y]? = some (gaB g)) (hn : ws.length ≤ 1000000) (hr : rss.length = ws.length) (hR : ∀ i, (rss.getD i []).length ≤ 1000000 ∧ ∀ r, r ∈ rss.getD i [] → r.steps.length ≤ 1000000) : F (psys x) 84 [.ptr (some (H.length + 2, 0)), iI (ws.length : Nat), iI 0] (H ++ [.cells [iI 1] true, .cells [niS] true, .cells [niS, (kpV u ws rss y), fdV H] true])
    fun v G => ∃ b X w, v = .bool b ∧ G = H.set y (gaB (g + (frm (kpB ws rss) (kpG u ws rss) ws.length [] 0).1)) ++ X ∧ X[1]? = some (.cells [w] true) ∧ LV H.length 1 X w ((frm (kpB ws rss) (kpG u ws rss) ws.length [] 0).2.toList.map fzN) (frm (kpB ws rss) (kpG u ws rss) ws.length [] 0).2.toList.length := by
  have := from_spec (x := x) (u := u) H (ZI hs) hn hr hR ws.length [] niS [] g Pat_nil (RV.nil _ _) (fun _ => rfl) (Nat.zero_add _)
  rw [List.append_nil, show wkH H y (kpV u ws rss y) niS niS g = H ++ [.cells [iI 1] true, .cells [niS] true, .cells [niS, (kpV u ws rss y), fdV H] true] by unfold wkH; rw [← YL hs]] at this
  refine this.mono ?_
  rintro v G ⟨rv, X, hr, (⟨ho, rfl, rfl⟩ | ⟨s, w, ho, rfl, rfl, hw⟩)⟩
  · have ho : (frm (kpB ws rss) (kpG u ws rss) ws.length [] 0).2 = none := ho
    rw [ho]
    exact ⟨true, _ :: _ :: _ :: X, niS, rfl, by unfold wkH; rw [List.append_assoc]; rfl, rfl, LV.nil _ _ _⟩
  · have ho : (frm (kpB ws rss) (kpG u ws rss) ws.length [] 0).2 = some s := ho
    rw [ho]
    exact ⟨false, _, w, rfl, by unfold wkH; rw [List.append_assoc]; rfl, rfl, LV.behind (X := [.cells [iI 1] true, .cells [w] true, .cells [rv, (kpV u ws rss y), fdV H] true]) rfl hw⟩
theorem Search_spec {x : SW} (H : Ze) {u y : Nat} {ws : List (BitVec 64)} {rss : List (List Rul)} (g : Gz) (hs : H[y]? = some (gaB g)) (hn : ws.length ≤ 1000000) (hr : rss.length = ws.length) (hR : ∀ i, (rss.getD i []).length ≤ 1000000 ∧ ∀ r, r ∈ rss.getD i [] → r.steps.length ≤ 1000000) (h12 : ws.length ≤ 12) : F (psys x) 52 [iI (ws.length : Nat), iI 1, (kpV u ws rss y)] H fun v G => v = .fsl ((frm (kpB ws rss) (kpG u ws rss) ws.length [] 0).2.toList.map fzN) (frm (kpB ws rss) (kpG u ws rss) ws.length [] 0).2.toList.length 1 false ∧ G = H.set y (gaB (g + (frm (kpB ws rss) (kpG u ws rss) ws.length [] 0).1)) := by
 refine Zr Tryd.func52 rfl u29 rfl ?_
 refine Zd (Za ?_)
 refine Lo u29 (Zy rfl rfl rfl) ?_
 refine Lo u29 (Zg (VVal.slice none 0 0 true 0) (.inr rfl) rfl) ?_
 refine Zf (Zc (Zd (Za ?_)))
 refine Lo u29 (W12 rfl rfl rfl rfl) ?_
 refine Lo u29 (rfl) ?_
 refine Lo u29 (W13 rfl rfl rfl rfl rfl rfl rfl) ?_
 refine Zf (Zc (Zd (Zd (Za ?_))))
 refine Lo u29 (Zb (.inl rfl) rfl) ?_
 refine Lo u29 (Yy false rfl (by simp)) ?_
 refine Lo u29 (Zb (.inl rfl) rfl) ?_
 refine Lo u29 (Zb (.inl rfl) rfl) ?_
 refine Lo u29 (Yy false rfl (by simp; omega)) ?_
 refine Lo u29 (ZQ rfl rfl rfl) ?_
 refine Lo u29 (Zb (.inl rfl) rfl) ?_
 refine Lo u29 (W12 rfl rfl rfl rfl) ?_
 refine Lo u29 (rfl) ?_
 refine Lo u29 (ZQ rfl rfl rfl) ?_
 refine Zf (Zc ?_)
 refine ZV rfl rfl ?_
 refine Zk (Zc (Zd (Za ?_)))
 refine Lo u29 (ZA rfl rfl) ?_
 refine Zf (Zc (Zd (Za ?_)))
 refine Lo u29 (Zb (.inl rfl) rfl) ?_
 refine Lo u29 (v_func [_, _] rfl rfl) ?_
 refine Lo u29 (rfl) ?_
 refine Lo u29 (Zy rfl rfl rfl) ?_
 refine Lo u29 (Zb (.inr rfl) rfl) ?_
 refine Zf (Zc (Zd (Za ?_)))
 refine Lo u29 (Zb (.inl rfl) rfl) ?_
 refine Lo u29 (Zb (.inl rfl) rfl) ?_
 refine Zn rfl rfl rfl (by exact from_in H g hs hn hr hR) ?_
 rintro _ _ ⟨b, X, w, rfl, rfl, hX, hw⟩
 refine Le u29 ?_
 refine Zf (Zc (Zd (Za ?_)))
 refine Lo u29 (W3p rfl rfl rfl rfl) ?_
 refine Lo u29 (Zb (.inr rfl) rfl) ?_
 refine Zf (Zc (Zl ?_))
 refine E_gh (.inr rfl) (Zi rfl rfl) (Gh.ansLV (B := H.set y (gaB (g + (frm (kpB ws rss) (kpG u ws rss) ws.length [] 0).1))) (BaseOk.set (BaseOk.refl _) _ rfl) (by rw [List.length_set]; exact hw) (VVal.underL_map (f := fzN) fun a => mapN_under _ a)) ?_
 exact ⟨rfl, rfl⟩
def wsP (p : Pb) : List (BitVec 64) := (List.range p.who.length).map (wrd p)
theorem Ys {p : Pb} : (wsP p).length = p.who.length := by unfold wsP; simp
theorem wsP_take {p : Pb} {k : Nat} (h : k < p.who.length) : (wsP p).take (k + 1) = (wsP p).take k ++ [wrd p k] := by
  rw [Yx (d := 0) (by rw [Ys]; exact h)]
  congr 2
  unfold wsP
  rw [List.getD_eq_getElem?_getD, List.getElem?_map, List.getElem?_range h]; rfl
abbrev nwB (u : Int) (n y b : Nat) (wv : VVal) (vs : List VVal) : Ze := [.dead, .cells vs true, .cells [iI u, wv, .slice (some (b, 0)) n n true 1, .ptr (some (y, 0))] true]
theorem rep1 (v : VVal) : ∀ n : Nat, ZE [v] n = List.replicate n v
  | 0 => rfl
  | n + 1 => by rw [List.replicate_succ, ← rep1 v n]; rfl
theorem vget {l : List VVal} {k : Nat} (h : k < l.length) : l[0 + k * 1]? = some (l.getD k .skip) := by
  rw [show 0 + k * 1 = k by omega, List.getD_eq_getElem?_getD, List.getElem?_eq_getElem h]; rfl
theorem rck_in {n : Int} {r : Rul} (h : rck n r = true) {s : Nat} (hs : s < r.steps.length) : 0 ≤ r.steps.getD s 0 ∧ r.steps.getD s 0 < n := by
  unfold rck at h
  rw [Bool.and_eq_true, Bool.and_eq_true] at h
  have := riseA_mem _ _ h.2.1 _ (mem_getI hs)
  omega
theorem spl_v {l : List VVal} {k : Nat} {w : VVal} (h : k < l.length) : Zv l (0 + k * 1) [w] = l.set k w := by
  rw [show 0 + k * 1 = k by omega]
  unfold Zv
  rw [List.set_eq_take_append_cons_drop, if_pos h]; simp
abbrev u72 {a0 a1 a2 a3 a4 a5 a6 a7 a8 a9 a10 a11 a12 a13 a14 a15 a16 a17 a18 a19 a20 a21 a22 a23 a24 a25 a26 a27 a28 a29 a30 a31 a32 a33 a34 a35 a36 a37 a38 a39 a40 a41 a42 a43 a44 a45 a46 a47 a48 a49 a50 a51 a52 a53 a54 a55 a56 a57 a58 a59 a60 a61 a62 a63 a64 a65 a66 a67 a68 a69 a70 a71 : VVal} : VEnv := a0 :: a1 :: a2 :: a3 :: a4 :: a5 :: a6 :: a7 :: a8 :: a9 :: a10 :: a11 :: a12 :: a13 :: a14 :: a15 :: a16 :: a17 :: a18 :: a19 :: a20 :: a21 :: a22 :: a23 :: a24 :: a25 :: a26 :: a27 :: a28 :: a29 :: a30 :: a31 :: a32 :: a33 :: a34 :: a35 :: a36 :: a37 :: a38 :: a39 :: a40 :: a41 :: a42 :: a43 :: a44 :: a45 :: a46 :: a47 :: a48 :: a49 :: a50 :: a51 :: a52 :: a53 :: a54 :: a55 :: a56 :: a57 :: a58 :: a59 :: a60 :: a61 :: a62 :: a63 :: a64 :: a65 :: a66 :: a67 :: a68 :: a69 :: a70 :: a71 :: []
theorem W3w {T : TypeId → Option VTy} {H : Ze} {op : Op} {ρ : Operand → VVal} {t : TypeId} {a : Operand} {y : VTy} {p v : VVal} (ho : op = .load t a) (ha : ρ a = p) (hy : T t = some y) (hd : Zm y.desc = false) (h : LdOk H p v := by first | exact .inl ⟨_, _, rfl, by exact vget (by rw [hlen]; exact hi)⟩ | exact .inr ⟨_, _, _, _, rfl, by exact getB rfl rfl, by exact vget (by rw [hlen]; exact hi)⟩) : vop T ρ H op = some (v, H) := v_ld ho ha hy hd h
theorem W3x {T : TypeId → Option VTy} {H : Ze} {op : Op} {ρ : VEnv} {H' : Ze} {t : TypeId} {a : Operand} {i : Nat} {v : VVal} {y : VTy} {b off : Nat} {cs new : List VVal} (ho : op = .store t a (.tmp i)) (hv : ρ[i]? = some v) (ha : ρ.eval a = .ptr (some (b, off))) (hy : T t = some y) (hx : v.cells = some new) (hn : new.length = y.size) (h1 : new.all VVal.one = true) (hb : H[b]? = some (.cells cs true) := by exact getB rfl rfl) (hl : off + new.length ≤ cs.length := by show 0 + _ * 1 + 1 ≤ vs.length; omega) (hH : H.set b (.cells (Zv cs off new) true) = H' := by exact (setB rfl (show 1 < 3 from by decide)).trans (by show H ++ List.set _ 1 (VBlk.cells (Zv vs (0 + ((p.rules.getD m r0).steps.getD s 0).toNat * 1) [_]) true) ++ _ = _; rw [spl_v (by rw [hlen]; exact hi)])) : vop T ρ.eval H op = some (.skip, H') := ZT ho hv ha hy hx hn h1 hb hl hH
theorem W3y {S : V.Sys} {H : Ze} {fn : Func} {ex : Exit} {env : VEnv} {B L : Ze} {v : VVal} {R : VVal → Ze → Prop} (hx : ex = .normal ∨ ex = .ret) (hv : ZZ S.C.T env (B ++ L) fn.results = some v) (h : R v B) (hB : BaseOk H B := by exact BaseOk.refl _) (hu : v.under H.length = true := by exact huUnder hy _ _ _) : fnK S fn H R ex env (B ++ L) := YE hx hv hB hu h
theorem New_spec {x : SW} (H : Ze) (p : Pb) (y : Nat) (hy : y < H.length) (g : Go.V.Good p) : F (psys x) 51 [.agg (pbB p), .ptr (some (y, 0))] H fun v G => v = huP p.users (fzW (wsP p)) (fzRR (Yg p)) y ∧ G = H := by
 have g1 := g.n12; have g3 := g.r32; have g5 := g.fx
 have gs := fun r hr => rck_len (g.ru r hr)
 refine Zr Tryd.func51 rfl u72 rfl ?_
 refine Zd (Za ?_)
 refine Lo u72 (Zy rfl rfl rfl) ?_
 refine Lo u72 (Zg (VVal.ptr none) (.inr rfl) rfl) ?_
 refine Zf (Zc (Zd ?_))
 refine Yp (Gh.freezePtrL (cs := pbB p) 2 0 rfl rfl rfl) ?_
 refine ZW [0, 1, 2, 3, 4, 5, 6, 7, 8, 9] #[0, 1, 0, 4, 12, 28, 0, 127, 255, 511] XH6 XH6 XH6 ?_
 refine Oo u72 .calm rfl (rfl) ?_
 refine Oo u72 .look rfl (W1p rfl rfl rfl rfl) ?_
 refine Oo u72 .calm rfl (rfl) ?_
 refine Oo u72 .look rfl (W1p rfl rfl rfl rfl) ?_
 refine Oo u72 .look rfl (rfl) ?_
 refine Oo u72 .grow rfl (YW rfl rfl rfl rfl rfl (by decide) ⟨by omega, Int.le_refl _, by show (p.who.length : Int) * (24 : Nat) ≤ _; omega, by omega⟩) ?_
 refine Oo u72 .calm rfl (Zb (.inl rfl) rfl) ?_
 refine Oo u72 .calm rfl (rfl) ?_
 refine Oo u72 .grow rfl (Zy rfl rfl rfl) ?_
 refine Oo u72 .calm rfl (Zb (.inr rfl) rfl) ?_
 refine Z3 [] XH6 (trivial) ?_
 refine Zc (Zd (Zd (Za ?_)))
 refine Lo u72 (rfl) ?_
 refine Lo u72 (W1p rfl rfl rfl rfl) ?_
 refine Lo u72 (rfl) ?_
 refine Lo u72 (Zg (VVal.int .i64 0) (.inl rfl) rfl) ?_
 refine Zf (Zc (Zj ?_))
 refine ZC (mk 72 4722366482869632630747) (env' := u72) rfl ?_
 refine ZJ (fun (k : Nat) => p.who.length - k) (fun (k : Nat) => [(23, iI (k : Nat))]) (fun (k : Nat) G => (k ≤ p.who.length) ∧ ∃ wv X, G = (H ++ nwB p.users p.who.length y (H.length + 1) wv (List.replicate p.who.length niS)) ++ X ∧ LV (H.length + 3) 1 X wv (((wsP p).take k).map iW) ((wsP p).take k).length) 0 rfl ?_ ?_
 ·refine ⟨?_, ⟨_, [], by rw [List.append_nil, ← rep1]; rfl, LV.nil _ _ _⟩⟩
  exact Nat.zero_le _
 rintro k _ ⟨hk, ⟨wv, X, rfl, hl⟩⟩
 refine ZU (env' := u72) rfl ?_
 refine Zd (Za ?_)
 refine Lo u72 (rfl) ?_
 refine Zf (Zc (Zd ?_))
 refine Zo _ rfl (fun hc1 => ?_) (fun hc1 => ?_)
 ·try simp only [qB, qN] at hc1
  refine Zk (Zc (Zd (Zj (Zd (Za ?_)))))
  refine Lo u72 (Zb (.inl rfl) rfl) ?_
  refine Lo u72 (Zb (.inr rfl) rfl) ?_
  refine Zf (Zc ?_)
  refine ZW [0, 1, 2, 3, 4, 5, 6, 7, 8, 9, 10, 11, 12] #[0, 0, 2, 6, 14, 0, 0, 96, 224, 510, 1023, 2047, 4095] XH6 XH6 XH6 ?_
  refine Oo u72 .calm rfl (Zb (.inl rfl) rfl) ?_
  refine Oo u72 .calm rfl (Zb (.inl rfl) rfl) ?_
  refine Oo u72 .calm rfl (rfl) ?_
  refine Oo u72 .calm rfl (rfl) ?_
  refine Yh (env' := u72) (x := .look _ _) rfl rfl rfl (W1p rfl rfl rfl rfl) rfl rfl rfl ?_
  refine Oo u72 .look rfl (W1t rfl rfl rfl rfl rfl) ?_
  refine Oo u72 .calm rfl (Zb (.inl rfl) rfl) ?_
  refine Yf (env' := u72) rfl rfl rfl rfl rfl (by exact Word_spec _ _ _ (by omega) (by omega)) XH9 rfl rfl ?_
  refine Oo u72 .grow rfl (Zx rfl rfl (by decide) rfl) ?_
  refine O_opX .turn rfl rfl rfl (YI rfl rfl rfl rfl rfl rfl rfl (by simp) hl rfl rfl (by decide) XH31 (by decide)) rfl rfl ?_
  rintro _ _ ⟨Y1, rfl, rfl, hY1, hY2, hY3⟩
  refine O_env (env' := u72) rfl ?_
  refine Oo u72 .calm rfl (rfl) ?_
  refine Oo u72 .calm rfl (rfl) ?_
  refine Oo u72 .turn rfl (W13 rfl rfl rfl rfl rfl rfl rfl) ?_
  refine Z3 [_] (by rfl) (And.intro (And.intro (W1p rfl rfl rfl rfl) (W1p rfl rfl rfl rfl)) trivial) ?_
  refine Zu (Zc (Za ?_))
  refine Lo u72 (W14 rfl rfl rfl) ?_
  refine Lo u72 (Zb (.inl rfl) rfl) ?_
  refine Zf ?_
  refine ZD (mk 72 4722366482869632630747) (env' := u72) rfl ⟨k + 1, ?_, rfl, ?_⟩
  ·first | omega | (simp only []; omega)
  ·exact ⟨by omega, _, _, rfl, by rw [wsP_take (by omega)]; exact LV.pushW hY3⟩
 ·try simp only [qB, qN] at hc1
  refine ZP (ZR (ZH (ZO (Zc (Zd (Zd ?_))))))
  obtain rfl : k = p.who.length := by omega
  rw [List.take_of_length_le (by rw [Ys]; omega)] at hl
  refine B_ghCell 2 1 hl rfl rfl (by simp) fun X1 _ _ => ?_
  refine Za ?_
  refine Lo u72 (rfl) ?_
  refine Lo u72 (W1p rfl rfl rfl rfl) ?_
  refine Lo u72 (rfl) ?_
  refine Lo u72 (Zg (VVal.int .i64 0) (.inl rfl) rfl) ?_
  refine Zf (Zc (Zj ?_))
  refine ZC (mk 72 4722366475173063819231) (env' := u72) rfl ?_
  refine ZJ (fun (m : Nat) => p.rules.length - m) (fun (m : Nat) => [(42, iI (m : Nat))]) (fun (m : Nat) G => (m ≤ p.rules.length) ∧ ∃ Z vs, G = (H ++ nwB p.users p.who.length y (H.length + 1) (fzW (wsP p)) vs) ++ Z ∧ RW rlB 3 (H.length + 3) Z vs (addR p.who.length p.rules m)) 0 rfl ?_ ?_
  ·refine ⟨?_, ⟨_, _, rfl, RW.init⟩⟩
   exact Nat.zero_le _
  rintro m _ ⟨hm, ⟨Z, vs, rfl, hr⟩⟩
  refine ZU (env' := u72) rfl ?_
  refine Zd (Za ?_)
  refine Lo u72 (rfl) ?_
  refine Zf (Zc (Zd ?_))
  refine Zo _ rfl (fun hc2 => ?_) (fun hc2 => ?_)
  ·try simp only [qB, qN] at hc2
   refine Zk (Zc (Zd (Zj (Zd (Za ?_)))))
   refine Lo u72 (W18 rfl rfl rfl rfl rfl rfl rfl) ?_
   refine Lo u72 (W1t rfl rfl rfl rfl rfl) ?_
   refine Lo u72 (ZA rfl rfl) ?_
   refine Lo u72 (W13 rfl rfl rfl rfl rfl rfl rfl) ?_
   refine Zf (Zc (Zd ?_))
   refine Yp (Gh.freezeEnd (cs := rlB (p.rules.getD m r0)) 8 rfl rfl) ?_
   refine Za ?_
   refine Lo u72 (rfl) ?_
   refine Lo u72 (W1p rfl rfl rfl rfl) ?_
   refine Lo u72 (rfl) ?_
   refine Lo u72 (Zg (VVal.int .i64 0) (.inl rfl) rfl) ?_
   refine Zf (Zc (Zj ?_))
   refine ZC (mk 72 4722365490010645331679) (env' := u72) rfl ?_
   refine ZJ (fun (s : Nat) => (p.rules.getD m r0).steps.length - s) (fun (s : Nat) => [(49, iI (s : Nat))]) (fun (s : Nat) G => (s ≤ (p.rules.getD m r0).steps.length) ∧ ∃ Z vs, G = (H ++ nwB p.users p.who.length y (H.length + 1) (fzW (wsP p)) vs) ++ Z ∧ RW rlB 3 (H.length + 3) Z vs (addS (p.rules.getD m r0) (addR p.who.length p.rules m) s)) 0 rfl ?_ ?_
   ·refine ⟨?_, ⟨_, vs, rfl, hr.app _⟩⟩
    exact Nat.zero_le _
   rintro s _ ⟨hs, ⟨Z, vs, rfl, hr⟩⟩
   refine ZU (env' := u72) rfl ?_
   refine Zd (Za ?_)
   refine Lo u72 (rfl) ?_
   refine Zf (Zc (Zd ?_))
   refine Zo _ rfl (fun hc3 => ?_) (fun hc3 => ?_)
   ·try simp only [qB, qN] at hc3
    refine Zk (Zc (Zd (Zj (Zd (Za ?_)))))
    refine Lo u72 (W18 rfl rfl rfl rfl rfl rfl rfl) ?_
    refine Lo u72 (W1p rfl rfl rfl rfl) ?_
    refine Lo u72 (Zb (.inr rfl) rfl) ?_
    refine Zf (Zc ?_)
    have hin := rck_in (g.ru _ (rul_mem (l := p.rules) (k := m) (by omega))) (s := s) (by omega)
    have hlen := hr.len
    have hi : ((p.rules.getD m r0).steps.getD s 0).toNat < (addS (p.rules.getD m r0) (addR p.who.length p.rules m) s).length := by rw [addS_len, addR_len]; omega
    have hv9 := hr.lv _ hi
    have hb1 := @addS_row (p.rules.getD m r0) (addR p.who.length p.rules m) ((p.rules.getD m r0).steps.getD s 0).toNat s
    have hb2 := addR_row (n := p.who.length) (i := ((p.rules.getD m r0).steps.getD s 0).toNat) gs (m := m) (by omega)
    have hb3 := gs _ (rul_mem (l := p.rules) (k := m) (by omega))
    refine ZW [0, 1, 2, 3, 4, 5, 6, 7, 8, 9, 10, 11, 12, 13, 14, 15, 16] #[0, 1, 3, 7, 0, 0, 32, 96, 224, 0, 992, 2016, 0, 4096, 16352, 32767, 65535] XH6 XH6 XH6 ?_
    refine Oo u72 .calm rfl (Zb (.inl rfl) rfl) ?_
    refine Oo u72 .calm rfl (rfl) ?_
    refine Oo u72 .calm rfl (rfl) ?_
    refine Yh (env' := u72) (x := .look _ _) rfl rfl rfl (W1p rfl rfl rfl rfl) rfl rfl rfl ?_
    refine Oo u72 .calm rfl (Zb (.inl rfl) rfl) ?_
    refine Oo u72 .calm rfl (Zb (.inl rfl) rfl) ?_
    refine Oo u72 .calm rfl (rfl) ?_
    refine Oo u72 .calm rfl (rfl) ?_
    refine Oo u72 .look rfl (W1p rfl rfl rfl rfl) ?_
    refine Oo u72 .calm rfl (Zb (.inl rfl) rfl) ?_
    refine Oo u72 .calm rfl (W1g rfl rfl rfl rfl rfl rfl rfl) ?_
    refine Oo u72 .look rfl (W3w rfl rfl rfl rfl) ?_
    refine Oo u72 .look rfl (W1t rfl rfl rfl rfl rfl) ?_
    refine Oo u72 .grow rfl (Zx rfl rfl (by decide) rfl) ?_
    refine O_opXI (fun _ G => .turn _ G) rfl rfl rfl (YI rfl rfl rfl rfl rfl rfl rfl (by simp) hv9 rfl rfl (by decide) (by show (_ + 1) * 40 ≤ _ ∧ _ + 1 ≤ _; omega) (by decide)) (fun _ _ => rfl) ?_
    rintro _ _ ⟨Y1, rfl, rfl, hY1, hY2, hY3⟩
    refine O_env (env' := u72) rfl ?_
    refine Oo u72 .calm rfl (W1g rfl rfl rfl rfl rfl rfl rfl) ?_
    refine Oo u72 .turn rfl (W3x rfl rfl rfl rfl rfl rfl rfl) ?_
    refine Z3 [_] (by rfl) (And.intro (And.intro (W1p rfl rfl rfl rfl) (W1p rfl rfl rfl rfl)) trivial) ?_
    refine Zu (Zc (Za ?_))
    refine Lo u72 (W14 rfl rfl rfl) ?_
    refine Lo u72 (Zb (.inl rfl) rfl) ?_
    refine Zf ?_
    refine ZD (mk 72 4722365490010645331679) (env' := u72) rfl ⟨s + 1, ?_, rfl, ?_⟩
    ·first | omega | (simp only []; omega)
    ·exact ⟨by omega, _, _, rfl, RW.step hr hi hY2 hY3⟩
   ·try simp only [qB, qN] at hc3
    refine ZP (ZR (ZH (ZO (Zu (Zc (Za ?_))))))
    refine Lo u72 (W14 rfl rfl rfl) ?_
    refine Lo u72 (Zb (.inl rfl) rfl) ?_
    refine Zf ?_
    refine ZD (mk 72 4722366475173063819231) (env' := u72) rfl ⟨m + 1, ?_, rfl, ?_⟩
    ·first | omega | (simp only []; omega)
    ·(obtain rfl : s = (p.rules.getD m r0).steps.length := by omega); exact ⟨by omega, Z, vs, rfl, hr⟩
  ·try simp only [qB, qN] at hc2
   refine ZP (ZR (ZH (ZO (Zc (Zd ?_)))))
   obtain rfl : m = p.rules.length := by omega
   refine B_ghRW 1 hr rfl (by simp) fun Z9 => ?_
   refine Yp (Gh.cellL (l := (Yg p).map fzR) 2 2 1 rfl rfl (by decide) rfl (YC (by rw [List.length_map]; exact addR_len.symm)) (Nat.le_refl _)) ?_
   refine Yp (Gh.freezePtrL (cs := huC p.users (fzW (wsP p)) (.fsl ((Yg p).map fzR) p.who.length 1 false) y) 5 2 rfl rfl rfl) ?_
   rw [show huC p.users (fzW (wsP p)) (.fsl ((Yg p).map fzR) p.who.length 1 false) y = huC p.users (fzW (wsP p)) (fzRR (Yg p)) y by unfold fzRR; rw [show (Yg p).length = p.who.length from addR_len]]
   refine Za ?_
   refine Lo u72 (Zb (.inl rfl) rfl) ?_
   refine Lo u72 (Zb (.inr rfl) rfl) ?_
   refine Zf (Zc (Zl ?_))
   refine W3y (.inr rfl) (Zi rfl rfl) ?_
   exact ⟨rfl, rfl⟩
theorem W3z {S : V.Sys} {H : Ze} {fn : Func} {ex : Exit} {env : VEnv} {B L : Ze} {v : VVal} {R : VVal → Ze → Prop} (hx : ex = .normal ∨ ex = .ret) (hv : ZZ S.C.T env (B ++ L) fn.results = some v) (h : R v B) (hB : BaseOk H B := by exact XH54) (hu : v.under H.length = true := by first | rfl | exact rc_under _ _) : fnK S fn H R ex env (B ++ L) := YE hx hv hB hu h
theorem Clip_spec {x : SW} (H : Ze) (us : List Nat) : F (psys x) 136 [fzN us] H fun v G => v = .fsl (rcN us) us.length 1 true ∧ G = H := by
 refine Zr Tryd.func136 rfl u9 rfl ?_
 refine Zd (Za ?_)
 refine Lo u9 (Zg (VVal.slice none 0 0 true 0) (.inr rfl) rfl) ?_
 refine Zf (Zc (Zd (Za ?_)))
 refine Lo u9 (Zb (.inl rfl) rfl) ?_
 refine Lo u9 (Zb (.inl rfl) rfl) ?_
 refine Lo u9 (rfl) ?_
 refine Lo u9 (Zb (.inl rfl) rfl) ?_
 refine Lo u9 (rfl) ?_
 refine Lo u9 (v_clipN rfl rfl rfl rfl rfl rfl rfl rfl) ?_
 refine Lo u9 (Zb (.inr rfl) rfl) ?_
 refine Zf (Zc (Zl ?_))
 refine W3z (.inr rfl) (Zi rfl rfl) ?_
 exact ⟨rfl, rfl⟩
abbrev eaD (r : Bool) : Ze := [.dead, .dead, .dead, .dead, .dead, .cells [.bool r] true, .dead]
def EaP (y : Nat) (K : Bool → Ze → Prop) (A L : Ze) (v : VVal) (G : Ze) : Prop := ∃ b A1 J, v = .bool b ∧ G = A1 ++ (L ++ J) ∧ A1.length = A.length ∧ K b A1 ∧ (b = true → ∃ g1, A1[y]? = some (gaB g1))
theorem hfull_in {x : SW} {H L : Ze} {u : Int} {ws rs : VVal} {y : Nat} {g : Gz} (hs : H[y]? = some (gaB g)) (l : List (BitVec 64)) (t : BitVec 64) (hl : l.length ≤ 1000000) : F (psys x) 87 [huP u ws rs y, fzW l, iW t] (H.set y (gaB (g + ⟨0, 1, 0⟩)) ++ L) fun v G =>
    (v = .bool true ∧ YD l t = true ∧ G = H.set y (gaB (g + (⟨0, 1, 0⟩ + fuG l t))) ++ L) ∨ (v = .bool false ∧ YD l t = false ∧ G = H.set y (gaB (g + (⟨0, 1, 0⟩ + fuG l t))) ++ L) := by
  have hy := ZI hs
  refine (hfull_spec _ y (g + ⟨0, 1, 0⟩) (Zp (List.getElem?_set_self hy)) l t hl).mono ?_
  rintro v G ⟨rfl, rfl⟩
  rw [Yl XH34, List.set_set, Gz.assoc]
  cases h : YD l t
  · exact .inr ⟨rfl, rfl, rfl⟩
  · exact .inl ⟨rfl, rfl, rfl⟩
theorem ea_get {A A1 L Y : Ze} {n : Nat} {k : VBlk} (hA : A1.length = A.length) (hn : n = (A ++ L).length + 5) (h : Y[5]? = some k) : (A1 ++ (L ++ Y))[n]? = some k := by
  rw [hn, List.length_append, Nat.add_assoc]; exact getE (i := 5) hA rfl h
theorem ea_set {A A1 L Y : Ze} {n : Nat} {k : VBlk} (hA : A1.length = A.length) (hn : n = (A ++ L).length + 5) : (A1 ++ (L ++ Y)).set n k = A1 ++ (L ++ Y.set 5 k) := by
  rw [hn, List.length_append, Nat.add_assoc]; exact setE (i := 5) hA rfl
theorem set_add0 {A : Ze} {y : Nat} {g : Gz} (h : A[y]? = some (gaB g)) : A.set y (gaB (g + 0)) = A := by
  rw [Gz.add_zero, ← YL h]
theorem ea_end {S : V.Sys} {l y : Nat} {b : Bool} {A1 : Ze} {K : Bool → Ze → Prop} (hk : if b = true then (∃ g1, A1[y]? = some (gaB g1)) ∧ IterP S l y [] 0 A1 K else K false A1) : K b A1 ∧ (b = true → ∃ g1, A1[y]? = some (gaB g1)) := by
  cases b with
  | false => exact ⟨hk, fun e => by cases e⟩
  | true =>
    obtain ⟨⟨g2, hg2⟩, hk⟩ := hk
    have h := hk g2 hg2
    rw [set_add0 hg2] at h
    exact ⟨h, fun _ => ⟨g2, hg2⟩⟩
theorem each_in {x : SW} {A Z : Ze} {y l u : Nat} {hu : VVal} {rows : List (BitVec 64)} {us : List Nat} {t : BitVec 64} {K : Bool → Ze → Prop} {n c : Nat} (h : F (psys x) 121 [hu, fzW rows, fzN (us ++ [u]), iW t, .yield l] (A ++ (Z ++ [.dead])) (EaP y K A (Z ++ [.dead]))) (hn : n = us.length + 1) (hc : c = n) :
    F (psys x) 121 [hu, fzW rows, .slice (some (A.length + Z.length, 0)) n c false 1, iW t, .yield l] (A ++ (Z ++ [.cells (rcN us ++ [iI (u : Nat)]) true])) (EaP y K A (Z ++ [.dead])) := by
  subst hc; subst hn
  refine F.pre (Gh.freezeL (H := A) (L := Z ++ [.cells (rcN us ++ [iI (u : Nat)]) true]) (l := rcN (us ++ [u])) (vs' := [hu, fzW rows, fzN (us ++ [u]), iW t, .yield l]) 2 Z.length rfl get_end (by rw [← rcN_snoc]; exact YC (by simp)) (Nat.le_refl _) (by simp [rcN_snoc])) ?_
  rw [set_end]; exact h
theorem W40 {T : TypeId → Option VTy} {H : Ze} {op : Op} {ρ : Operand → VVal} {t : TypeId} {a : Operand} {y : VTy} {p v : VVal} (ho : op = .load t a) (ha : ρ a = p) (hy : T t = some y) (hd : Zm y.desc = false) (h : LdOk H p v := by first | exact .inl ⟨_, _, rfl, by first | rfl | assumption⟩ | exact .inr ⟨_, _, _, _, rfl, XH47, by first | rfl | assumption⟩) : vop T ρ H op = some (v, H) := v_ld ho ha hy hd h
theorem W42 {T : TypeId → Option VTy} {H : Ze} {op : Op} {ρ : VEnv} {H' : Ze} {t : TypeId} {a : Operand} {i : Nat} {v : VVal} {y : VTy} {b off : Nat} {cs new : List VVal} (ho : op = .store t a (.tmp i)) (hv : ρ[i]? = some v) (ha : ρ.eval a = .ptr (some (b, off))) (hy : T t = some y) (hx : v.cells = some new) (hn : new.length = y.size) (h1 : new.all VVal.one = true) (hb : H[b]? = some (.cells cs true) := by exact ea_get (by assumption) rfl rfl) (hl : off + new.length ≤ cs.length := by exact XH49) (hH : H.set b (.cells (Zv cs off new) true) = H' := by exact ea_set (by assumption) rfl) : vop T ρ.eval H op = some (.skip, H') := ZT ho hv ha hy hx hn h1 hb hl hH
theorem W44 {T : TypeId → Option VTy} {H : Ze} {op : Op} {ρ : Operand → VVal} {t : TypeId} {a : Operand} {y : VTy} {p v : VVal} (ho : op = .load t a) (ha : ρ a = p) (hy : T t = some y) (hd : Zm y.desc = false) (h : LdOk H p v := by first | exact .inl ⟨_, _, rfl, by exact Y5 (α := BitVec 64) 0 (by omega)⟩ | exact .inr ⟨_, _, _, _, rfl, XH47, by exact Y5 (α := BitVec 64) 0 (by omega)⟩) : vop T ρ H op = some (v, H) := v_ld ho ha hy hd h
theorem W45 {T : TypeId → Option VTy} {H : Ze} {op : Op} {ρ : Operand → VVal} {t : TypeId} {a : Operand} {y : VTy} {p v : VVal} (ho : op = .load t a) (ha : ρ a = p) (hy : T t = some y) (hd : Zm y.desc = false) (h : LdOk H p v := by first | exact .inl ⟨_, _, rfl, by first | rfl | assumption⟩ | exact .inr ⟨_, _, _, _, rfl, by exact Zp hg1, by first | rfl | assumption⟩) : vop T ρ H op = some (v, H) := v_ld ho ha hy hd h
theorem W46 {T : TypeId → Option VTy} {H : Ze} {op : Op} {ρ : VEnv} {H' : Ze} {t : TypeId} {a : Operand} {i : Nat} {v : VVal} {y : VTy} {b off : Nat} {cs new : List VVal} (ho : op = .store t a (.tmp i)) (hv : ρ[i]? = some v) (ha : ρ.eval a = .ptr (some (b, off))) (hy : T t = some y) (hx : v.cells = some new) (hn : new.length = y.size) (h1 : new.all VVal.one = true) (hb : H[b]? = some (.cells cs true) := by exact Zp hg1) (hl : off + new.length ≤ cs.length := by exact XH49) (hH : H.set b (.cells (Zv cs off new) true) = H' := by exact ga_p1 hg1) : vop T ρ.eval H op = some (.skip, H') := ZT ho hv ha hy hx hn h1 hb hl hH
theorem W48 {P : Prop} (h : P := by first | exact ⟨true, A0, _, rfl, rfl, hA0, hI, fun _ => ⟨g1, hg1⟩⟩ | exact ⟨false, A0, _, rfl, rfl, hA0, hX, fun e => by cases e⟩) : P := h
theorem each_0 {x : SW} {u : Int} {ws rs : VVal} (y l : Nat) (rows : List (BitVec 64)) (hr : rows.length ≤ 1000000) (A L : Ze) (us : List Nat) (taken : BitVec 64) (g : Gz) (K : Bool → Ze → Prop) (hs : A[y]? = some (gaB g)) (hI : IterP (psys x) l y (tv (usT (rows.drop us.length) us taken)) (usT (rows.drop us.length) us taken).2 A K) (hl : us.length = rows.length) : F (psys x) 121 [huP u ws rs y, fzW rows, fzN us, iW taken, .yield l] (A ++ L) (EaP y K A L) := by
 have e5 : (A ++ L).length + 5 = A.length + (L.length + 5) := by rw [List.length_append]; omega
 have eA : A.length = A.length := rfl
 refine Zr Tryd.func121 rfl u67 rfl ?_
 refine Zd (Za ?_)
 refine Lo u67 (Zy rfl rfl rfl) ?_
 refine Lo u67 (Zy rfl rfl rfl) ?_
 refine Lo u67 (Zy rfl rfl rfl) ?_
 refine Lo u67 (Zy rfl rfl rfl) ?_
 refine Lo u67 (Zy rfl rfl rfl) ?_
 refine Lo u67 (ZA rfl rfl) ?_
 refine Zf (Zc (Zd ?_))
 refine Yp (Gh.freezePtrL (cs := [huP u ws rs y]) 5 0 rfl rfl rfl) ?_
 refine Yp (Gh.freezePtrL (cs := [fzW rows]) 6 1 rfl rfl rfl) ?_
 refine Yp (Gh.freezePtrL (cs := [fzN us]) 7 2 rfl rfl rfl) ?_
 refine Yp (Gh.freezePtrL (cs := [iW taken]) 8 3 rfl rfl rfl) ?_
 refine Yp (Gh.freezePtrL (cs := [.yield l]) 9 4 rfl rfl rfl) ?_
 refine Za ?_
 refine Lo u67 (W40 rfl rfl rfl rfl) ?_
 refine Lo u67 (rfl) ?_
 refine Lo u67 (ZA rfl rfl) ?_
 refine Lo u67 (W13 rfl rfl rfl rfl rfl rfl rfl) ?_
 refine Zf (Zc (Zd (Zd ?_)))
 refine Yp (Gh.freezePtrL (cs := [iI (us.length : Nat)]) 11 6 rfl rfl rfl) ?_
 refine Yi (H' := A ++ (L ++ eaD false)) (by simp; rfl) ?_
 refine Za ?_
 refine Lo u67 (W40 rfl rfl rfl rfl) ?_
 refine Lo u67 (W40 rfl rfl rfl rfl) ?_
 refine Lo u67 (rfl) ?_
 refine Lo u67 (Yy true rfl (by rw [hl]; simp)) ?_
 refine Zf (Zc ?_)
 refine Z0 rfl rfl ?_
 refine Zd ?_
 rw [List.drop_eq_nil_of_le (by omega)] at hI
 refine Za ?_
 refine Lo u67 (W40 rfl rfl rfl rfl) ?_
 refine Lo u67 (W40 rfl rfl rfl rfl) ?_
 refine L_callV rfl rfl rfl (by have h9 := hI g hs (L ++ eaD false); rw [show usT [] us taken = ([(0, us)], 0) from rfl] at h9; exact (set_add0 hs) ▸ h9) ?_
 rintro _ G ⟨b, A1, J1, rfl, hG, hA1, hk⟩; obtain rfl : G = A1 ++ (L ++ (eaD false ++ J1)) := hG.trans (by simp)
 refine Le u67 ?_
 refine Lo u67 (W42 rfl rfl rfl rfl rfl rfl rfl) ?_
 refine Zf (Zc (Zl (Zt ?_)))
 refine YG (.inr rfl) (vres_cell rfl rfl rfl rfl XH41 (by rfl)) ?_
 exact ⟨b, A1, _, rfl, rfl, hA1, ea_end hk⟩
theorem each_s {x : SW} {u : Int} {ws rs : VVal} (y l : Nat) (rows : List (BitVec 64)) (hr : rows.length ≤ 1000000) (n : Nat) (ih : ∀ (A L : Ze) (us : List Nat) (taken : BitVec 64) (g : Gz) (K : Bool → Ze → Prop) (hs : A[y]? = some (gaB g)) (hI : IterP (psys x) l y (tv (usT (rows.drop us.length) us taken)) (usT (rows.drop us.length) us taken).2 A K), us.length + n = rows.length → F (psys x) 121 [huP u ws rs y, fzW rows, fzN us, iW taken, .yield l] (A ++ L) (EaP y K A L)) (A L : Ze) (us : List Nat) (taken : BitVec 64) (g : Gz) (K : Bool → Ze → Prop) (hs : A[y]? = some (gaB g)) (hI : IterP (psys x) l y (tv (usT (rows.drop us.length) us taken)) (usT (rows.drop us.length) us taken).2 A K) (hl : us.length + (n + 1) = rows.length) : F (psys x) 121 [huP u ws rs y, fzW rows, fzN us, iW taken, .yield l] (A ++ L) (EaP y K A L) := by
 have e5 : (A ++ L).length + 5 = A.length + (L.length + 5) := by rw [List.length_append]; omega
 have eA : A.length = A.length := rfl
 refine Zr Tryd.func121 rfl u67 rfl ?_
 refine Zd (Za ?_)
 refine Lo u67 (Zy rfl rfl rfl) ?_
 refine Lo u67 (Zy rfl rfl rfl) ?_
 refine Lo u67 (Zy rfl rfl rfl) ?_
 refine Lo u67 (Zy rfl rfl rfl) ?_
 refine Lo u67 (Zy rfl rfl rfl) ?_
 refine Lo u67 (ZA rfl rfl) ?_
 refine Zf (Zc (Zd ?_))
 refine Yp (Gh.freezePtrL (cs := [huP u ws rs y]) 5 0 rfl rfl rfl) ?_
 refine Yp (Gh.freezePtrL (cs := [fzW rows]) 6 1 rfl rfl rfl) ?_
 refine Yp (Gh.freezePtrL (cs := [fzN us]) 7 2 rfl rfl rfl) ?_
 refine Yp (Gh.freezePtrL (cs := [iW taken]) 8 3 rfl rfl rfl) ?_
 refine Yp (Gh.freezePtrL (cs := [.yield l]) 9 4 rfl rfl rfl) ?_
 refine Za ?_
 refine Lo u67 (W40 rfl rfl rfl rfl) ?_
 refine Lo u67 (rfl) ?_
 refine Lo u67 (ZA rfl rfl) ?_
 refine Lo u67 (W13 rfl rfl rfl rfl rfl rfl rfl) ?_
 refine Zf (Zc (Zd (Zd ?_)))
 refine Yp (Gh.freezePtrL (cs := [iI (us.length : Nat)]) 11 6 rfl rfl rfl) ?_
 refine Yi (H' := A ++ (L ++ eaD false)) (by simp; rfl) ?_
 refine Za ?_
 refine Lo u67 (W40 rfl rfl rfl rfl) ?_
 refine Lo u67 (W40 rfl rfl rfl rfl) ?_
 refine Lo u67 (rfl) ?_
 refine Lo u67 (Yy false rfl (by simp; omega)) ?_
 refine Zf (Zc ?_)
 refine ZV rfl rfl ?_
 refine Zk (Zc (Zd (Zd ?_)))
 rw [show rows.drop us.length = rows.getD us.length 0 :: rows.drop (us.length + 1) by rw [List.drop_eq_getElem_cons (by omega), List.getD_eq_getElem?_getD, List.getElem?_eq_getElem (by omega)]; rfl, usT] at hI
 refine ZW [0, 1, 2, 3, 4, 5, 6, 7] #[0, 0, 3, 7, 0, 31, 63, 127] XH6 XH6 XH6 ?_
 refine Oo u67 .look rfl (W40 rfl rfl rfl rfl) ?_
 refine Oo u67 .look rfl (W40 rfl rfl rfl rfl) ?_
 refine Oo u67 .calm rfl (W18 rfl rfl rfl rfl rfl rfl rfl) ?_
 refine Oo u67 .look rfl (W44 rfl rfl rfl rfl) ?_
 refine Oo u67 .look rfl (W40 rfl rfl rfl rfl) ?_
 refine Oo u67 .calm rfl (v_andNotW rfl rfl rfl) ?_
 refine Yf (env' := u67) rfl rfl rfl rfl rfl (by exact hset_spec _ _) XH9 rfl rfl ?_
 refine Yf (env' := u67) rfl rfl rfl rfl rfl (by exact All_spec _ _) XH9 rfl rfl ?_
 refine Z3 [] XH6 (trivial) ?_
 refine Zc (Zj ?_)
 refine ZC (mk 67 147573952589139537951) (env' := u67) rfl ?_
 refine B_rangeM cI (pl (rows.getD us.length 0 &&& ~~~taken) 0) (fun l0 h => by cases h) rfl (fun l G R h => All1_spec _ _ _ _ h) (σ := {q : Ze × Ze // q.1.length = A.length}) (fun k s => s.1.1 ++ (L ++ ([.dead, .dead, .dead, .dead, .dead, .cells [.bool false] true, .dead] ++ k :: s.1.2))) ⟨(A, []), rfl⟩ (fun k => by simp) (fun k s => by rw [show (A ++ (L ++ eaD false)).length = A.length + (L.length + 7) by simp]; exact getE (i := 7) s.2 rfl rfl) (fun k k1 s => by rw [show (A ++ (L ++ eaD false)).length = A.length + (L.length + 7) by simp]; exact setE (i := 7) s.2 rfl) (fun pre s => ∃ z, (pl (rows.getD us.length 0 &&& ~~~taken) 0) = pre ++ z ∧ (∃ g1, s.1.1[y]? = some (gaB g1)) ∧ IterP (psys x) l y (tv (usF (fun u => usT (rows.drop (us.length + 1)) (us ++ [u]) (taken ||| 1#64 <<< u)) (rows.drop (us.length + 1)) taken z)) (usF (fun u => usT (rows.drop (us.length + 1)) (us ++ [u]) (taken ||| 1#64 <<< u)) (rows.drop (us.length + 1)) taken z).2 s.1.1 K) ?_ (fun j pre c s => (j = Code.ret ∧ (K false s.1.1))) rfl ?_ ?_ ?_
 ·exact ⟨_, rfl, ⟨g, hs⟩, hI⟩
 ·intro pre c post s hx hI kr kb hkr hkb
  obtain ⟨⟨A0, J0⟩, hA0⟩ := s
  try dsimp only at hI ⊢
  have hA0 : A0.length = A.length := hA0
  obtain ⟨z, hz, ⟨g1, hg1⟩, hI⟩ := hI
  obtain rfl : z = c :: post := List.append_cancel_left (hz.symm.trans hx)
  have hcx : c ∈ (pl (rows.getD us.length 0 &&& ~~~taken) 0) := by rw [hx]; simp
  obtain ⟨_, hc64, _⟩ := mem_pl.1 hcx
  rw [usF] at hI
  refine ZU (env' := u67) rfl ?_
  refine Za ?_
  refine Lo u67 (Zb (.inr rfl) rfl) ?_
  refine Zf ?_
  refine ⟨rfl, ⟨(A0, J0), hA0⟩, rfl, ?_⟩
  try dsimp only
  refine Zj (Zd (Za ?_))
  refine Lo u67 (W40 rfl rfl rfl rfl) ?_
  refine Lo u67 (rfl) ?_
  refine Lo u67 (rfl) ?_
  refine Lo u67 (W40 rfl rfl rfl rfl) ?_
  refine Lo u67 (rfl) ?_
  refine Lo u67 (rfl) ?_
  refine Lo u67 (W45 rfl rfl rfl rfl) ?_
  refine Lo u67 (v_addW (b := 1#64) rfl rfl rfl) ?_
  refine Lo u67 (rfl) ?_
  refine Lo u67 (rfl) ?_
  refine Lo u67 (W46 rfl rfl rfl rfl rfl rfl rfl) ?_
  refine Zf (Zc (Zd ?_))
  refine B_drawP #[0, 0, 0, 4, 14, 0, 0, 64, 224, 511, 1023, 2047, 2047, 2047, 10239, 2047, 34815, 124927, 2047, 2047, 526335, 1837055, 2047, 8388607, 16777215, 33554431] XH6 ?_
  refine P_seg [0, 1, 2, 3, 4, 5, 6, 7, 8] (bef := #[0, 0, 0, 4, 14, 0, 0, 64, 224, 511, 1023, 2047, 2047, 2047, 10239, 2047, 34815, 124927, 2047, 2047, 526335, 1837055, 2047, 8388607, 16777215, 33554431]) XH6 XH6 XH6 ?_
  refine Oo u67 .look rfl (W40 rfl rfl rfl rfl) ?_
  refine Oo u67 .look rfl (W40 rfl rfl rfl rfl) ?_
  refine Oo u67 .look rfl (W40 rfl rfl rfl rfl) ?_
  refine Oo u67 .calm rfl (W14 rfl rfl rfl) ?_
  refine Oo u67 .calm rfl (v_wLo (k := us.length + 1) rfl rfl rfl rfl rfl rfl rfl (by simp) (by omega)) ?_
  refine Oo u67 .look rfl (W40 rfl rfl rfl rfl) ?_
  refine Oo u67 .calm rfl (Zb (.inl rfl) rfl) ?_
  refine Oo u67 .calm rfl (v_shl1 rfl rfl rfl XH2) ?_
  refine Oo u67 .calm rfl (v_orW rfl rfl rfl) ?_
  refine Z3 [] XH6 (trivial) ?_
  refine P_call 9 (bef := #[0, 0, 0, 4, 14, 0, 0, 64, 224, 511, 1023, 2047, 2047, 2047, 10239, 2047, 34815, 124927, 2047, 2047, 526335, 1837055, 2047, 8388607, 16777215, 33554431]) XH6 XH6 rfl rfl rfl rfl (by exact hfull_in hg1 (rows.drop (us.length + 1)) _ (by rw [List.length_drop]; omega)) ?_
  rintro _ _ (⟨rfl, hf, rfl⟩ | ⟨rfl, hf, rfl⟩)
  ·skip
   refine P_env (env' := u67) rfl ?_
   refine P_seg [10, 11, 12, 13, 15, 16, 18, 19, 20, 21, 22, 14, 17] (bef := #[0, 0, 0, 4, 14, 0, 0, 64, 224, 511, 1023, 2047, 2047, 2047, 10239, 2047, 34815, 124927, 2047, 2047, 526335, 1837055, 2047, 8388607, 16777215, 33554431]) XH6 XH6 XH6 ?_
   refine Oo u67 .calm rfl (Zb (.inl rfl) rfl) ?_
   refine Yh (env' := u67) (x := .look _ _) rfl rfl rfl (W40 rfl rfl rfl rfl) rfl rfl rfl ?_
   refine Yh (env' := u67) (x := .look _ _) rfl rfl rfl (W40 rfl rfl rfl rfl) rfl rfl rfl ?_
   refine Oo u67 .look rfl (W40 rfl rfl rfl rfl) ?_
   refine Oo u67 .calm rfl (Zb (.inl rfl) rfl) ?_
   refine Yh (env' := u67) (x := .grow _) rfl rfl rfl (Zx rfl rfl (by decide) rfl) rfl rfl rfl ?_
   refine Yh (env' := u67) (x := .look _ _) rfl rfl rfl (W40 rfl rfl rfl rfl) rfl rfl rfl ?_
   refine Oo u67 .calm rfl (Zb (.inl rfl) rfl) ?_
   refine Oo u67 .calm rfl (v_shl1 rfl rfl rfl XH2) ?_
   refine Oo u67 .calm rfl (v_orW rfl rfl rfl) ?_
   refine Yh (env' := u67) (x := .look _ _) rfl rfl rfl (W40 rfl rfl rfl rfl) rfl rfl rfl ?_
   refine Yf (env' := u67) rfl rfl rfl rfl rfl (by exact Clip_spec _ _) XH9 rfl rfl ?_
   refine Yh (env' := u67) (x := .turn _ _) rfl rfl rfl (v_appFX (c := iI ((c : Nat) : Int)) rfl rfl rfl rfl rfl rfl rfl rfl get_end rfl (by simp) (by show (us.length + 1) * 8 ≤ _ ∧ _; omega)) rfl rfl rfl ?_
   refine Z3 [_, _, _, _, _, _, _, _, _] (by rfl) (And.intro (And.intro (W40 rfl rfl rfl rfl) (W40 rfl rfl rfl rfl)) (And.intro (And.intro (W40 rfl rfl rfl rfl) (W40 rfl rfl rfl rfl)) (And.intro (And.intro (W40 rfl rfl rfl rfl) (W40 rfl rfl rfl rfl)) (And.intro (And.intro (W40 rfl rfl rfl rfl) (W40 rfl rfl rfl rfl)) (And.intro ((by first | exact rfl | simp)) (And.intro (And.intro (W40 rfl rfl rfl rfl) (W40 rfl rfl rfl rfl)) (And.intro (And.intro (W40 rfl rfl rfl rfl) (W40 rfl rfl rfl rfl)) (And.intro (And.intro (W40 rfl rfl rfl rfl) (W40 rfl rfl rfl rfl)) (And.intro (And.intro (W40 rfl rfl rfl rfl) (W40 rfl rfl rfl rfl)) trivial))))))))) ?_
   refine P_call 23 (bef := #[0, 0, 0, 4, 14, 0, 0, 64, 224, 511, 1023, 2047, 2047, 2047, 10239, 2047, 34815, 124927, 2047, 2047, 526335, 1837055, 2047, 8388607, 16777215, 33554431]) XH6 XH6 rfl rfl rfl rfl (by have hIf := hI; rw [if_pos (show YD _ (taken ||| 1#64 <<< c) = true from hf)] at hIf; have hIc := IterP.catT (xs := (usT (rows.drop (us.length + 1)) (us ++ [c]) (taken ||| 1#64 <<< c)).1) (da := (usT (rows.drop (us.length + 1)) (us ++ [c]) (taken ||| 1#64 <<< c)).2) (IterP.addF hg1 hIf); exact each_in (ih _ _ (us ++ [c]) (taken ||| 1#64 <<< c) (g1 + (⟨0, 1, 0⟩ + fuG (rows.drop (us.length + 1)) (taken ||| 1#64 <<< c))) _ (List.getElem?_set_self (ZI hg1)) (by rw [List.length_append]; exact hIc) (by simp; omega)) rfl rfl) ?_
   rintro _ G ⟨b, A2, J2, rfl, hG, hA2, hk2, hg2⟩; have hA3 : A2.length = A.length := hA2.trans (by rw [List.length_set]; exact hA0); obtain rfl : G = A2 ++ (L ++ ([.dead, .dead, .dead, .dead, .dead, .cells [.bool false] true, .dead] ++ kb :: (J0 ++ [.cells [iI (c : Nat)] true, .dead] ++ J2))) := hG.trans (by simp; rfl); cases b; rotate_left
   ·skip
    refine P_env (env' := u67) rfl ?_
    refine P_seg [24, 25] (bef := #[0, 0, 0, 4, 14, 0, 0, 64, 224, 511, 1023, 2047, 2047, 2047, 10239, 2047, 34815, 124927, 2047, 2047, 526335, 1837055, 2047, 8388607, 16777215, 33554431]) XH6 XH6 XH6 ?_
    refine Oo u67 .calm rfl (rfl) ?_
    refine Oo u67 .calm rfl (Zz rfl rfl rfl) ?_
    refine Z3 [] XH6 (trivial) ?_
    refine P_end XH6 ?_
    refine Zc ?_
    refine ZV rfl rfl ?_
    refine Zk (Zu ?_)
    refine ⟨⟨(A2, _), hA3⟩, rfl, .inl ⟨rfl, ?_⟩⟩
    exact ⟨post, by rw [hx, List.append_assoc]; rfl, hg2 rfl, hk2⟩
   ·skip
    refine P_env (env' := u67) rfl ?_
    refine P_seg [24, 25] (bef := #[0, 0, 0, 4, 14, 0, 0, 64, 224, 511, 1023, 2047, 2047, 2047, 10239, 2047, 34815, 124927, 2047, 2047, 526335, 1837055, 2047, 8388607, 16777215, 33554431]) XH6 XH6 XH6 ?_
    refine Oo u67 .calm rfl (rfl) ?_
    refine Oo u67 .calm rfl (Zz rfl rfl rfl) ?_
    refine Z3 [] XH6 (trivial) ?_
    refine P_end XH6 ?_
    refine Zc ?_
    refine Z0 rfl rfl ?_
    refine Zd (Za ?_)
    refine Lo u67 (Z6 (VVal.bool false) rfl rfl rfl rfl rfl rfl rfl XH41 XH3 (by exact ea_set (by assumption) rfl)) ?_
    refine Zf (Zc (Zl (ZX ?_)))
    refine ⟨⟨(A2, _), hA3⟩, rfl, .inr ⟨Code.ret, rfl, ⟨rfl, ?_⟩⟩⟩
    exact hk2
  ·skip
   refine P_env (env' := u67) rfl ?_
   refine P_seg [10, 11, 12, 13, 15, 16, 18, 19, 20, 21, 22, 14, 17] (bef := #[0, 0, 0, 4, 14, 0, 0, 64, 224, 511, 1023, 2047, 2047, 2047, 10239, 2047, 34815, 124927, 2047, 2047, 526335, 1837055, 2047, 8388607, 16777215, 33554431]) XH6 XH6 XH6 ?_
   refine Oo u67 .calm rfl (Zb (.inl rfl) rfl) ?_
   refine Of u67 rfl ?_
   refine Of u67 rfl ?_
   refine Of u67 rfl ?_
   refine Of u67 rfl ?_
   refine Of u67 rfl ?_
   refine Of u67 rfl ?_
   refine Of u67 rfl ?_
   refine Of u67 rfl ?_
   refine Of u67 rfl ?_
   refine Of u67 rfl ?_
   refine Of u67 rfl ?_
   refine Of u67 rfl ?_
   refine Z3 [] XH6 (trivial) ?_
   refine P_seg [23, 24, 25] (bef := #[0, 0, 0, 4, 14, 0, 0, 64, 224, 511, 1023, 2047, 2047, 2047, 10239, 2047, 34815, 124927, 2047, 2047, 526335, 1837055, 2047, 8388607, 16777215, 33554431]) XH6 XH6 XH6 ?_
   refine Of u67 rfl ?_
   refine Of u67 rfl ?_
   refine Oo u67 .calm rfl (ZN (VVal.bool false) rfl rfl rfl) ?_
   refine Z3 [] XH6 (trivial) ?_
   refine P_end XH6 ?_
   refine Zc ?_
   refine ZV rfl rfl ?_
   refine Zk (Zu ?_)
   refine ⟨⟨(A0.set y (gaB (g1 + (⟨0, 1, 0⟩ + fuG (rows.drop (us.length + 1)) (taken ||| 1#64 <<< c)))), J0), by rw [List.length_set]; exact hA0⟩, rfl, .inl ⟨rfl, ?_⟩⟩
   exact ⟨post, by rw [hx, List.append_assoc]; rfl, ⟨_, List.getElem?_set_self (ZI hg1)⟩, by rw [if_neg (nof (show YD _ (taken ||| 1#64 <<< c) = false from hf))] at hI; exact IterP.addF hg1 hI⟩
 ·intro s k hk hI
  obtain ⟨⟨A0, J0⟩, hA0⟩ := s
  try dsimp only at hI ⊢
  have hA0 : A0.length = A.length := hA0
  obtain ⟨z, hz, ⟨g1, hg1⟩, hI⟩ := hI
  obtain rfl : z = [] := by simpa using hz
  have hI := hI g1 hg1
  rw [show usF _ _ _ [] = ([], 0) from rfl, set_add0 hg1] at hI
  refine Zu (Zc (Zd (Za ?_)))
  refine Lo u67 (Z6 (VVal.bool true) rfl rfl rfl rfl rfl rfl rfl XH41 XH3 (by exact ea_set (by assumption) rfl)) ?_
  refine Zf (Zc (Zl ?_))
  refine YG (.inr rfl) (vres_cell rfl rfl rfl rfl XH41 (by rfl)) ?_
  exact W48
 ·rintro j pre c post s k hk hx (⟨rfl, hX⟩)
  obtain ⟨⟨A0, J0⟩, hA0⟩ := s
  try dsimp only
  have hA0 : A0.length = A.length := hA0
  refine J_ret ?_
  refine ZX (Zt ?_)
  refine YG (.inr rfl) (vres_cell rfl rfl rfl rfl XH41 (by rfl)) ?_
  exact W48
theorem each_spec {x : SW} {u : Int} {ws rs : VVal} (y l : Nat) (rows : List (BitVec 64)) (hr : rows.length ≤ 1000000) : ∀ (n : Nat) (A L : Ze) (us : List Nat) (taken : BitVec 64) (g : Gz) (K : Bool → Ze → Prop) (hs : A[y]? = some (gaB g)) (hI : IterP (psys x) l y (tv (usT (rows.drop us.length) us taken)) (usT (rows.drop us.length) us taken).2 A K), us.length + n = rows.length → F (psys x) 121 [huP u ws rs y, fzW rows, fzN us, iW taken, .yield l] (A ++ L) (EaP y K A L)
  | 0, A, L, us, taken, g, K, hs, hI, hl => each_0 y l rows hr A L us taken g K hs hI hl
  | n + 1, A, L, us, taken, g, K, hs, hI, hl => each_s y l rows hr n (fun A L us taken g K a b c => each_spec y l rows hr n A L us taken g K a b c) A L us taken g K hs hI hl
abbrev u36 {a0 a1 a2 a3 a4 a5 a6 a7 a8 a9 a10 a11 a12 a13 a14 a15 a16 a17 a18 a19 a20 a21 a22 a23 a24 a25 a26 a27 a28 a29 a30 a31 a32 a33 a34 a35 : VVal} : VEnv := a0 :: a1 :: a2 :: a3 :: a4 :: a5 :: a6 :: a7 :: a8 :: a9 :: a10 :: a11 :: a12 :: a13 :: a14 :: a15 :: a16 :: a17 :: a18 :: a19 :: a20 :: a21 :: a22 :: a23 :: a24 :: a25 :: a26 :: a27 :: a28 :: a29 :: a30 :: a31 :: a32 :: a33 :: a34 :: a35 :: []
theorem W49 {S : V.Sys} {H : Ze} {fn : Func} {ex : Exit} {env : VEnv} {B L : Ze} {v : VVal} {R : VVal → Ze → Prop} (hx : ex = .normal ∨ ex = .ret) (hv : ZZ S.C.T env (B ++ L) fn.results = some v) (h : R v B) (hB : BaseOk H B := by exact XH54) (hu : v.under H.length = true := by show (true && (((huP u (fzW ws) (fzRR rss) y).under _ && true) && ((fzW rows).under _ && true && true))) = true; rw [huUnder hy, show (fzW rows).under _ = true from Yr _ _]; rfl) : fnK S fn H R ex env (B ++ L) := YE hx hv hB hu h
theorem W4a {S : V.Sys} {H : Ze} {fn : Func} {ex : Exit} {env : VEnv} {B L : Ze} {v : VVal} {R : VVal → Ze → Prop} (hx : ex = .normal ∨ ex = .ret) (hv : ZZ S.C.T env (B ++ L) fn.results = some v) (h : R v B) (hB : BaseOk H B := by exact XH54) (hu : v.under H.length = true := by show (true && (((huP u (fzW ws) (fzRR rss) y).under _ && true) && ((fzN a).under _ && true && true))) = true; rw [huUnder hy, show (fzN a).under _ = true from mapN_under _ _]; rfl) : fnK S fn H R ex env (B ++ L) := YE hx hv hB hu h
theorem W4c {T : TypeId → Option VTy} {H : Ze} {op : Op} {ρ : Operand → VVal} {t : TypeId} {a : Operand} {y : VTy} {p v : VVal} (ho : op = .load t a) (ha : ρ a = p) (hy : T t = some y) (hd : Zm y.desc = false) (h : LdOk H p v := by first | exact .inl ⟨_, _, rfl, by first | rfl | assumption | exact Y5 (α := Nat) 0 (by omega)⟩ | exact .inr ⟨_, _, _, _, rfl, XH47, by first | rfl | assumption | exact Y5 (α := Nat) 0 (by omega)⟩) : vop T ρ H op = some (v, H) := v_ld ho ha hy hd h
theorem W4e {T : TypeId → Option VTy} {H : Ze} {op : Op} {ρ : VEnv} {H' : Ze} {t : TypeId} {a : Operand} {i : Nat} {v : VVal} {y : VTy} {b off : Nat} {cs new : List VVal} (ho : op = .store t a (.tmp i)) (hv : ρ[i]? = some v) (ha : ρ.eval a = .ptr (some (b, off))) (hy : T t = some y) (hx : v.cells = some new) (hn : new.length = y.size) (h1 : new.all VVal.one = true) (hb : H[b]? = some (.cells cs true) := by exact XH47) (hl : off + new.length ≤ cs.length := by show 0 + k * 1 + 1 ≤ _; rw [List.length_map, plK_len (by omega)]; omega) (hH : H.set b (.cells (Zv cs off new) true) = H' := by exact (setE0 rfl rfl).trans (by show _ ++ (_ ++ [VBlk.cells (Zv (rcN (plK a us k)) (0 + k * 1) [iI ((us.getD (a.getD k 0) 0 : Nat) : Int)]) true]) = _; rw [spl_N (by rw [plK_len (by omega)]; omega)])) : vop T ρ.eval H op = some (.skip, H') := ZT ho hv ha hy hx hn h1 hb hl hH
theorem W4g {P : Prop} (h : P := by first | exact ⟨true, _, [.dead, k] ++ J9, by rw [List.append_assoc], hI g0 hg0⟩ | exact ⟨false, _, [.dead, k] ++ J9, by rw [List.append_assoc], hX⟩) : P := h
theorem Users_spec {x : SW} (H : Ze) {u : Int} {ws : List (BitVec 64)} {rss : List (List Rul)} (y : Nat) (hy : y < H.length) (rows : List (BitVec 64)) : F (psys x) 89 [huP u (fzW ws) (fzRR rss) y, fzW rows] H fun v G => v = .func 120 [] [.fptr [huP u (fzW ws) (fzRR rss) y] 0, .fptr [fzW rows] 0] ∧ G = H := by
 refine Zr Tryd.func89 rfl u6 rfl ?_
 refine Zd (Za ?_)
 refine Lo u6 (Zy rfl rfl rfl) ?_
 refine Lo u6 (Zy rfl rfl rfl) ?_
 refine Lo u6 (Zg (VVal.nilFunc) (.inr rfl) rfl) ?_
 refine Zf (Zc (Zd (Za ?_)))
 refine L_gh (Gh.freezePtrL (cs := [huP u (fzW ws) (fzRR rss) y]) 2 0 rfl rfl rfl) ?_
 refine L_gh (Gh.freezePtrL (cs := [fzW rows]) 3 1 rfl rfl rfl) ?_
 refine Lo u6 (v_func [_, _] rfl rfl) ?_
 refine Lo u6 (Zb (.inr rfl) rfl) ?_
 refine Zf (Zc (Zl ?_))
 refine W49 (.inr rfl) (Zi rfl rfl) ?_
 exact ⟨rfl, rfl⟩
theorem Plans_spec {x : SW} (H : Ze) {u : Int} {ws : List (BitVec 64)} {rss : List (List Rul)} (y : Nat) (hy : y < H.length) (a : List Nat) : F (psys x) 54 [huP u (fzW ws) (fzRR rss) y, fzN a] H fun v G => v = .func 88 [] [.fptr [huP u (fzW ws) (fzRR rss) y] 0, .fptr [fzN a] 0] ∧ G = H := by
 refine Zr Tryd.func54 rfl u6 rfl ?_
 refine Zd (Za ?_)
 refine Lo u6 (Zy rfl rfl rfl) ?_
 refine Lo u6 (Zy rfl rfl rfl) ?_
 refine Lo u6 (Zg (VVal.nilFunc) (.inr rfl) rfl) ?_
 refine Zf (Zc (Zd (Za ?_)))
 refine L_gh (Gh.freezePtrL (cs := [huP u (fzW ws) (fzRR rss) y]) 2 0 rfl rfl rfl) ?_
 refine L_gh (Gh.freezePtrL (cs := [fzN a]) 3 1 rfl rfl rfl) ?_
 refine Lo u6 (v_func [_, _] rfl rfl) ?_
 refine Lo u6 (Zb (.inr rfl) rfl) ?_
 refine Zf (Zc (Zl ?_))
 refine W4a (.inr rfl) (Zi rfl rfl) ?_
 exact ⟨rfl, rfl⟩
theorem tv_cons {z : List (Gz × List Nat)} {e d : Gz} {c : VVal} {post : List (Gz × VVal)} (h : tv (z, e) = (d, c) :: post) : ∃ us z1, z = (d, us) :: z1 ∧ c = fzN us := by
  cases z with
  | nil => cases h
  | cons q z =>
    obtain ⟨d1, us⟩ := q
    have h : (d1, fzN us) :: tv (z, e) = (d, c) :: post := h
    injection h with h1 h2
    injection h1 with h3 h4
    exact ⟨us, z, by rw [h3], h4.symm⟩
theorem tv_nil {xs : List (Gz × VVal)} {z : List (Gz × List Nat)} {e : Gz} (h : xs = xs ++ tv (z, e)) : z = [] := by
  have : tv (z, e) = [] := by simpa using h
  cases z with
  | nil => rfl
  | cons q z => cases this
theorem fzN_pl {a us : List Nat} : fzN (plN a us) = .fsl (rcN (plN a us)) a.length 1 false := by
  show VVal.fsl _ (plN a us).length 1 false = _
  rw [plN_len]
theorem each_top {x : SW} {u : Int} {ws rs : VVal} (y l : Nat) (rows : List (BitVec 64)) (hr : rows.length ≤ 1000000) (A : Ze) (g : Gz) (K : Bool → Ze → Prop) (hs : A[y]? = some (gaB g)) (hI : IterP (psys x) l y (tv (usT rows [] 0#64)) (usT rows [] 0#64).2 A K) :
    F (psys x) 121 [huP u ws rs y, fzW rows, niS, iW 0#64, .yield l] A fun v G => ∃ b A1 J, v = .bool b ∧ G = A1 ++ J ∧ K b A1 := by
  refine F.pre (Gh.freezeNil (vs' := [huP u ws rs y, fzW rows, fzN [], iW 0#64, .yield l]) 2 rfl rfl) ?_
  have := each_spec (x := x) (u := u) (ws := ws) (rs := rs) y l rows hr rows.length A [] [] 0#64 g K hs hI (Nat.zero_add _)
  rw [List.append_nil] at this
  refine this.mono ?_
  rintro v G ⟨b, A1, J, rfl, rfl, _, hk, _⟩
  exact ⟨b, A1, J, rfl, rfl, hk⟩
theorem Users1_spec {x : SW} {u : Int} {ws rs : VVal} (y l : Nat) (rows : List (BitVec 64)) (hr : rows.length ≤ 1000000) (A : Ze) (g : Gz) (K : Bool → Ze → Prop) (hs : A[y]? = some (gaB g)) (hI : IterP (psys x) l y (tv (usT rows [] 0#64)) (usT rows [] 0#64).2 A K) : F (psys x) 120 [.yield l, .fptr [huP u ws rs y] 0, .fptr [fzW rows] 0] A fun v G => ∃ b A1 J, G = A1 ++ J ∧ K b A1 := by
 refine Zr Tryd.func120 rfl u8 rfl ?_
 rw [List.append_nil]
 refine Za ?_
 refine Lo u8 (W12 rfl rfl rfl rfl) ?_
 refine Lo u8 (W12 rfl rfl rfl rfl) ?_
 refine Lo u8 (Zb (.inl rfl) rfl) ?_
 refine Zn rfl rfl rfl (by exact each_top y l rows hr A g K hs hI) ?_
 rintro _ _ ⟨b, A1, J, rfl, rfl, hk⟩
 refine Le u8 ?_
 refine Zf ?_
 refine YG (.inl rfl) (Y0 rfl) ?_
 exact ⟨b, A1, J, rfl, hk⟩
theorem Plans1_spec {x : SW} {u : Int} {ws : List (BitVec 64)} {rss : List (List Rul)} (y l : Nat) (a : List Nat) (ha : Pat a) (hw : a.length ≤ ws.length) (hn : ws.length ≤ 1000000) (A : Ze) (g : Gz) (K : Bool → Ze → Prop) (hs : A[y]? = some (gaB g)) (hI : IterP (psys x) l y (tv (plT a (usT (Ya ws a a.length) [] 0#64))) (usT (Ya ws a a.length) [] 0#64).2 A K) : F (psys x) 88 [.yield l, .fptr [huP u (fzW ws) (fzRR rss) y] 0, .fptr [fzN a] 0] A fun v G => ∃ b A1 J, G = A1 ++ J ∧ K b A1 := by
 refine Zr Tryd.func88 rfl u36 rfl ?_
 refine Zd (Za ?_)
 refine Lo u36 (Zy rfl rfl rfl) ?_
 refine Zf (Zc (Zd ?_))
 refine Yp (Gh.freezePtrL (cs := [.yield l]) 3 0 rfl rfl rfl) ?_
 refine ZW [0, 1, 2, 3, 4] #[0, 0, 0, 6, 15] XH6 XH6 XH6 ?_
 refine Yh (env' := u36) (x := .look _ _) rfl rfl rfl (W4c rfl rfl rfl rfl) rfl rfl rfl ?_
 refine Oo u36 .look rfl (W4c rfl rfl rfl rfl) ?_
 refine Oo u36 .look rfl (W4c rfl rfl rfl rfl) ?_
 refine Yf (env' := u36) rfl rfl rfl rfl rfl (by exact hBlocks_spec _ _ _ ha hw hn) XH9 rfl rfl ?_
 refine Yf (env' := u36) rfl rfl rfl rfl rfl (by exact Users_spec _ y (by have := ZI hs; simp; omega) _) XH9 rfl rfl ?_
 refine Z3 [_] (by rfl) (And.intro (And.intro (W4c rfl rfl rfl rfl) (W4c rfl rfl rfl rfl)) trivial) ?_
 refine Zc (Zj ?_)
 refine ZC (mk 36 68719472627) (env' := u36) rfl ?_
 refine Yi (H' := A ++ [.dead]) rfl ?_
 refine B_rangePJ (y) (tv (usT (Ya ws a a.length) [] 0#64)) ((usT (Ya ws a a.length) [] 0#64).2) (fun l0 h => by cases h) rfl (fun l9 G9 K9 hg9 hI9 => Users1_spec y l9 (Ya ws a a.length) (by rw [YY]; have := @Y4 a a.length; omega) G9 _ K9 hg9.choose_spec hI9) (σ := {q : Ze × Gz // q.1.length = A.length}) (fun k s => s.1.1 ++ [.dead, k]) ⟨(A, g), rfl⟩ (fun k => by simp) (fun k s => by simp [s.2]) (fun k s => by rw [show (A ++ [VBlk.dead]).length = A.length + 1 by simp]; exact ZB s.2 rfl) (fun k k1 s => by rw [show (A ++ [VBlk.dead]).length = A.length + 1 by simp]; exact ZF s.2) (fun s => s.1.2) (fun d s => ⟨(s.1.1.set y (gaB (s.1.2 + d)), s.1.2 + d), by rw [List.length_set]; exact s.2⟩) (fun pre s => ∃ z, tv (usT (Ya ws a a.length) [] 0#64) = pre ++ tv (z, (usT (Ya ws a a.length) [] 0#64).2) ∧ (∀ q, q ∈ z → q.2.length = szP a a.length) ∧ s.1.1[y]? = some (gaB s.1.2) ∧ IterP (psys x) l y (tv (plT a (z, (usT (Ya ws a a.length) [] 0#64).2))) (usT (Ya ws a a.length) [] 0#64).2 s.1.1 K) (fun k s pre hI => by obtain ⟨_, _, _, h, _⟩ := hI; exact Zp h) (fun k s d pre hI => by obtain ⟨_, _, _, h, _⟩ := hI; exact Yl (ZI h)) ?_ (fun j pre c s => (j = Code.ret ∧ (K false s.1.1))) rfl ?_ ?_ ?_
 ·exact ⟨(usT (Ya ws a a.length) [] 0#64).1, rfl, fun q hq => by rw [usT_len q hq, YY]; simp, hs, hI⟩
 ·intro pre d c post s hx hI Lp kr kb hkr hkb
  obtain ⟨⟨A0, g0⟩, hA0⟩ := s
  try dsimp only at hI ⊢
  have hA0 : A0.length = A.length := hA0
  obtain ⟨z, hz, hzl, hg0, hI⟩ := hI
  obtain ⟨us, z, rfl, rfl⟩ : ∃ us z1, z = (d, us) :: z1 ∧ c = fzN us := tv_cons (List.append_cancel_left (hz.symm.trans hx))
  have hul : us.length = szP a a.length := hzl _ (List.mem_cons_self ..)
  have hI1 := hI g0 hg0
  refine ZU (env' := u36) rfl ?_
  refine Za ?_
  refine Lo u36 (Zb (.inr rfl) rfl) ?_
  refine Zf ?_
  refine ⟨rfl, ⟨(A0.set y (gaB (g0 + d)), g0 + d), by rw [List.length_set]; exact hA0⟩, rfl, ?_⟩
  try dsimp only
  refine Yi (H' := A0.set y (gaB (g0 + d)) ++ ([.dead, kb] ++ Lp)) (by simp) ?_
  refine Zj (Zd (Za ?_))
  refine Lo u36 (W4c rfl rfl rfl rfl) ?_
  refine Lo u36 (rfl) ?_
  refine Lo u36 (YW rfl rfl rfl rfl rfl (by decide) ⟨by omega, Int.le_refl _, by show (a.length : Int) * (8 : Nat) ≤ _; omega, by omega⟩) ?_
  refine Lo u36 (Zb (.inr rfl) rfl) ?_
  refine Zf (Zc (Zd (Zd (Za ?_))))
  refine Lo u36 (W4c rfl rfl rfl rfl) ?_
  refine Lo u36 (rfl) ?_
  refine Lo u36 (Zg (VVal.int .i64 0) (.inl rfl) rfl) ?_
  refine Zf (Zc (Zj ?_))
  refine ZC (mk 36 68718559175) (env' := u36) rfl ?_
  refine ZJ (fun (k : Nat) => a.length - k) (fun (k : Nat) => [(19, iI (k : Nat))]) (fun (k : Nat) G => (k ≤ a.length) ∧ G = A0.set y (gaB (g0 + d)) ++ (([.dead, kb] ++ Lp) ++ [.cells (rcN (plK a us k)) true])) 0 rfl ?_ ?_
  ·refine ⟨?_, (by rw [show plK a us 0 = List.replicate a.length 0 from rfl, ← rep_rc]; rfl)⟩
   exact Nat.zero_le _
  rintro k _ ⟨hk9, rfl⟩
  refine ZU (env' := u36) rfl ?_
  refine Zd (Za ?_)
  refine Lo u36 (rfl) ?_
  refine Zf (Zc (Zd ?_))
  refine Zo _ rfl (fun hc1 => ?_) (fun hc1 => ?_)
  ·try simp only [qB, qN] at hc1
   refine Zk (Zc (Zd (Zj (Zd (Za ?_)))))
   refine Lo u36 (Zb (.inl rfl) rfl) ?_
   refine Lo u36 (W18 rfl rfl rfl rfl rfl rfl rfl) ?_
   refine Lo u36 (W4c rfl rfl rfl rfl) ?_
   refine Lo u36 (Zb (.inr rfl) rfl) ?_
   refine Lo u36 (Zb (.inr rfl) rfl) ?_
   refine Zf (Zc ?_)
   have hlt := Pat.lt ha (Nat.le_refl a.length) (i := k) (by omega)
   refine Za ?_
   refine Lo u36 (Zb (.inl rfl) rfl) ?_
   refine Lo u36 (Zb (.inl rfl) rfl) ?_
   refine Lo u36 (Zb (.inl rfl) rfl) ?_
   refine Lo u36 (Zb (.inl rfl) rfl) ?_
   refine Lo u36 (W18 rfl rfl rfl rfl rfl rfl rfl) ?_
   refine Lo u36 (W4c rfl rfl rfl rfl) ?_
   refine Lo u36 (W18 rfl rfl rfl rfl rfl rfl rfl) ?_
   refine Lo u36 (W4e rfl rfl rfl rfl rfl rfl rfl) ?_
   refine Zf (Zu (Zc (Za ?_)))
   refine Lo u36 (W14 rfl rfl rfl) ?_
   refine Lo u36 (Zb (.inl rfl) rfl) ?_
   refine Zf ?_
   refine ZD (mk 36 68718559175) (env' := u36) rfl ⟨k + 1, ?_, rfl, ?_⟩
   ·first | omega | (simp only []; omega)
   ·exact ⟨by omega, by rw [plK_step (by omega)]⟩
  ·try simp only [qB, qN] at hc1
   refine ZP (ZR (ZH (ZO (Zc (Zd ?_)))))
   obtain rfl : k = a.length := by omega
   rw [plK_all]
   refine Yp (Gh.freezeL (l := rcN (plN a us)) 5 ([VBlk.dead, kb] ++ Lp).length rfl get_end (YC (by rw [List.length_map, plN_len]; rfl)) (Nat.le_refl _) rfl) ?_
   rw [set_end]
   refine Za ?_
   refine Lo u36 (W4c rfl rfl rfl rfl) ?_
   refine Lo u36 (Zb (.inl rfl) rfl) ?_
   refine L_callV rfl rfl rfl (by have h9 : Fv (psys x) (.yield l) [fzN (plN a us)] (A0.set y (gaB (g0 + d)) ++ (([.dead, kb] ++ Lp) ++ [.dead])) _ := hI1 _; rw [fzN_pl] at h9; exact h9) ?_
   rintro _ _ ⟨b, A2, J2, rfl, rfl, hA2, hk⟩; have hA3 : A2.length = A.length := hA2.trans hA0
   refine Le u36 ?_
   refine Lo u36 (rfl) ?_
   refine Zf (Zc ?_)
   refine Zo _ rfl (fun hc2 => ?_) (fun hc2 => ?_)
   ·try simp only [qB, qN] at hc2
    have hb : b = false := by simpa using hc2
    subst hb
    have hk : K false A2 := hk
    refine Zl (ZX ?_)
    refine ⟨⟨(A2, g0), hA3⟩, .dead :: J2, (by simp), .inr ⟨Code.ret, rfl, ⟨rfl, ?_⟩⟩⟩
    exact hk
   ·try simp only [qB, qN] at hc2
    have hb : b = true := by simpa using hc2
    subst hb
    obtain ⟨⟨g2, hg2⟩, hk2⟩ := hk
    refine Zk (Zu ?_)
    refine ⟨⟨(A2, g2), hA3⟩, .dead :: J2, (by simp), .inl ⟨rfl, ?_⟩⟩
    exact ⟨z, by rw [hz, List.append_assoc]; rfl, fun q hq => hzl q (List.mem_cons_of_mem _ hq), hg2, hk2⟩
 ·intro s k hk hI J9
  obtain ⟨⟨A0, g0⟩, hA0⟩ := s
  try dsimp only at hI ⊢
  obtain ⟨z, hz, hzl, hg0, hI⟩ := hI
  obtain rfl := tv_nil hz
  refine Zu ?_
  refine YG (.inl rfl) (Y0 rfl) ?_
  exact W4g
 ·rintro j pre c post s k hk hx (⟨rfl, hX⟩) J9
  obtain ⟨⟨A0, g0⟩, hA0⟩ := s
  try dsimp only
  refine J_ret ?_
  refine ZX ?_
  refine YG (.inr rfl) (Y0 rfl) ?_
  exact W4g
theorem W4h {T : TypeId → Option VTy} {H : Ze} {op : Op} {ρ : Operand → VVal} {t : TypeId} {a : Operand} {y : VTy} {p : VVal} {n : Nat} {vs : List VVal} (ho : op = .load t a) (ha : ρ a = p) (hy : T t = some y) (hd : Zm y.desc = true) (hn : y.size = n) (h : LdOkA H p n vs := by first | exact .inl ⟨_, _, rfl, by first | rfl | assumption⟩ | exact .inr ⟨_, _, _, _, rfl, XH47, by first | rfl | assumption⟩) : vop T ρ H op = some (.agg vs, H) := v_ldA ho ha hy hd hn h
def leA (p : Pb) : Option (List Nat) := if pck p = 0 then fdA p.users.toNat (wsP p) (Yg p) else none
def leG (p : Pb) : Gz := if pck p = 0 then fdG p.users.toNat (wsP p) (Yg p) else 0
def leT : Option (List Nat) → VVal
  | some l => .tuple [fzN l, .bool true]
  | none => .tuple [fzN [], .bool false]
theorem rssP_len {p : Pb} : (Yg p).length = (wsP p).length := by unfold Yg; rw [addR_len, Ys]
theorem rssP_ok {p : Pb} (g : Go.V.Good p) : ∀ i, ((Yg p).getD i []).length ≤ 1000000 ∧ ∀ r, r ∈ (Yg p).getD i [] → r.steps.length ≤ 1000000 := fun i => by
  have g3 := g.r32; have g1 := g.n12
  have gs := fun r hr => rck_len (g.ru r hr)
  refine ⟨?_, fun r hr => ?_⟩
  · have := addR_row (n := p.who.length) (i := i) gs (m := p.rules.length) (Nat.le_refl _)
    unfold Yg; omega
  · have hin := fun r hr x hx => by
      have h := g.ru r hr
      unfold rck at h
      rw [Bool.and_eq_true, Bool.and_eq_true] at h
      have := riseA_mem _ _ h.2.1 x hx
      exact (show 0 ≤ x ∧ x < (p.who.length : Int) by omega)
    have := (addR_mem (n := p.who.length) (rs := p.rules) (r' := r) (i := i) hin (m := p.rules.length) (Nat.le_refl _)).1 hr
    rw [List.take_length] at this
    have := gs r this.1; omega
theorem New_N {x : SW} (H : Ze) (p : Pb) (y : Nat) (hy : y < H.length) (g : Go.V.Good p) : F (psys x) 51 [.agg (pbB p), .ptr (some (y, 0))] H fun v G => v = huP (p.users.toNat : Nat) (fzW (wsP p)) (fzRR (Yg p)) y ∧ G = H := by
  rw [Int.toNat_of_nonneg g.u0]; exact New_spec H p y hy g
theorem Search_in {x : SW} (H L : Ze) {p : Pb} {y : Nat} {g : Gz} (hs : H[y]? = some (gaB g)) (hg : Go.V.Good p) : F (psys x) 52 [iI (p.who.length : Nat), iI 1, kpV p.users.toNat (wsP p) (Yg p) y] (H ++ L) fun v G => v = .fsl ((frm (kpB (wsP p) (Yg p)) (kpG p.users.toNat (wsP p) (Yg p)) (wsP p).length [] 0).2.toList.map fzN) (frm (kpB (wsP p) (Yg p)) (kpG p.users.toNat (wsP p) (Yg p)) (wsP p).length [] 0).2.toList.length 1 false ∧ G = H.set y (gaB (g + (frm (kpB (wsP p) (Yg p)) (kpG p.users.toNat (wsP p) (Yg p)) (wsP p).length [] 0).1)) ++ L := by
  have g1 := hg.n12
  have := Search_spec (x := x) (u := p.users.toNat) (H ++ L) g (Zp hs) (by rw [Ys]; omega) rssP_len (rssP_ok hg) (by rw [Ys]; exact g1)
  rw [Ys] at this
  rw [Yl (ZI hs)] at this
  rw [Ys]; exact this
theorem Least_bad {x : SW} (H : Ze) (y : Nat) (g : Gz) (hs : H[y]? = some (gaB g)) (p : Pb) (hp : PbL p) (hb : ¬ pck p = 0) : F (psys x) 21 [.ptr (some (y, 0)), .agg (pbB p)] H fun v G => v = .tuple [fzN [], .bool false] ∧ G = H := by
 refine Zr Tryd.func21 rfl u35 rfl ?_
 refine Zd (Za ?_)
 refine Lo u35 (Zy rfl rfl rfl) ?_
 refine Lo u35 (ZA rfl rfl) ?_
 refine Lo u35 (ZA rfl rfl) ?_
 refine Zf (Zc (Zd (Zd ?_)))
 refine Yp (Gh.freezePtrL (cs := pbB p) 3 0 rfl rfl rfl) ?_
 refine Za ?_
 refine Lo u35 (W4h rfl rfl rfl rfl rfl) ?_
 refine Zn rfl rfl rfl (by exact Y8 _ _ hp) ?_
 rintro _ _ ⟨rfl, rfl⟩
 refine Le u35 ?_
 refine Lo u35 (Yy true rfl (by simp [hb])) ?_
 refine Zf (Zc ?_)
 refine Z0 rfl rfl ?_
 refine Zd (Za ?_)
 refine Lo u35 (Z6 (VVal.slice none 0 0 true 0) rfl rfl rfl rfl rfl rfl rfl XH0 XH3 XH1) ?_
 refine Lo u35 (Z6 (VVal.bool false) rfl rfl rfl rfl rfl rfl rfl XH0 XH3 XH1) ?_
 refine Zf (Zc ?_)
 refine Yp (Gh.cellNilL 1 0 (es' := 1) rfl rfl) ?_
 refine Zl (Zt ?_)
 refine W10 (.inr rfl) (vres_cells2 rfl rfl rfl rfl rfl rfl rfl XH0 (by rfl) XH0 (by rfl)) ?_
 exact ⟨rfl, rfl⟩
theorem Least_none {x : SW} (H : Ze) (y : Nat) (g : Gz) (hs : H[y]? = some (gaB g)) (p : Pb) (hp : PbL p) (hg0 : pck p = 0) (hf : (frm (kpB (wsP p) (Yg p)) (kpG p.users.toNat (wsP p) (Yg p)) (wsP p).length [] 0).2 = none) : F (psys x) 21 [.ptr (some (y, 0)), .agg (pbB p)] H fun v G => v = .tuple [fzN [], .bool false] ∧ G = H.set y (gaB (g + (frm (kpB (wsP p) (Yg p)) (kpG p.users.toNat (wsP p) (Yg p)) (wsP p).length [] 0).1)) := by
 have hg : Go.V.Good p := pck_good.1 hg0
 refine Zr Tryd.func21 rfl u35 rfl ?_
 refine Zd (Za ?_)
 refine Lo u35 (Zy rfl rfl rfl) ?_
 refine Lo u35 (ZA rfl rfl) ?_
 refine Lo u35 (ZA rfl rfl) ?_
 refine Zf (Zc (Zd (Zd ?_)))
 refine Yp (Gh.freezePtrL (cs := pbB p) 3 0 rfl rfl rfl) ?_
 refine Za ?_
 refine Lo u35 (W4h rfl rfl rfl rfl rfl) ?_
 refine Zn rfl rfl rfl (by exact Y8 _ _ hp) ?_
 rintro _ _ ⟨rfl, rfl⟩
 refine Le u35 ?_
 refine Lo u35 (Yy false rfl (by rw [hg0]; rfl)) ?_
 refine Zf (Zc ?_)
 refine ZV rfl rfl ?_
 refine Zk (Zc (Zd ?_))
 refine ZW [0, 1, 2, 3, 4, 5] #[0, 0, 2, 6, 15, 31] XH6 XH6 XH6 ?_
 refine Oo u35 .look rfl (W4h rfl rfl rfl rfl rfl) ?_
 refine Oo u35 .calm rfl (Zb (.inl rfl) rfl) ?_
 refine Oo u35 .calm rfl (rfl) ?_
 refine Oo u35 .calm rfl (rfl) ?_
 refine Yf (env' := u35) rfl rfl rfl rfl rfl (by exact New_N _ p y (by have := ZI hs; simp; omega) hg) XH9 rfl rfl ?_
 refine Oo u35 .calm rfl (Zb (.inr rfl) rfl) ?_
 refine Z3 [] XH6 (trivial) ?_
 refine Zc (Zd (Zd (Za ?_)))
 refine Lo u35 (rfl) ?_
 refine Lo u35 (W40 rfl rfl rfl rfl) ?_
 refine Lo u35 (rfl) ?_
 refine Lo u35 (Zb (.inl rfl) rfl) ?_
 refine Lo u35 ((rfl : vop _ _ _ _ = some (kpV p.users.toNat (wsP p) (Yg p) y, _))) ?_
 refine Zn rfl rfl rfl (by exact Search_in H _ hs hg) ?_
 rintro _ _ ⟨rfl, rfl⟩; rw [hf]
 refine Le u35 ?_
 refine Lo u35 (rfl) ?_
 refine Lo u35 (Zg (VVal.int .i64 0) (.inl rfl) rfl) ?_
 refine Zf (Zc (Zj ?_))
 refine ZC (mk 35 34301017999) (env' := u35) rfl ?_
 refine ZJ (fun (k : Nat) => 0) (fun (k : Nat) => [(25, iI (k : Nat))]) (fun (k : Nat) G => (k = 0) ∧ G = H.set y (gaB (g + (frm (kpB (wsP p) (Yg p)) (kpG p.users.toNat (wsP p) (Yg p)) (wsP p).length [] 0).1)) ++ [.dead, .cells [niS] true, .cells [.bool false] true]) 0 rfl ?_ ?_
 ·refine ⟨?_, rfl⟩
  rfl
 rintro k _ ⟨hk9, rfl⟩
 refine ZU (env' := u35) rfl ?_
 refine Zd (Za ?_)
 refine Lo u35 (rfl) ?_
 refine Zf (Zc (Zd ?_))
 refine Zo _ rfl (fun hc1 => ?_) (fun hc1 => ?_)
 ·try simp only [qB, qN] at hc1
  exfalso; simp at hc1; omega
 ·try simp only [qB, qN] at hc1
  refine ZP (ZR (ZH (ZO (Zc (Zd (Za ?_))))))
  refine Lo u35 (Z6 (VVal.slice none 0 0 true 0) rfl rfl rfl rfl rfl rfl rfl XH42 XH3 (by exact ZF (List.length_set))) ?_
  refine Lo u35 (Z6 (VVal.bool false) rfl rfl rfl rfl rfl rfl rfl XH42 XH3 (by exact ZF (List.length_set))) ?_
  refine Zf (Zc ?_)
  refine Yp (Gh.cellNilL 1 0 (es' := 1) rfl rfl) ?_
  refine Zl ?_
  refine W2t (.inr rfl) (vres_cells2 rfl rfl rfl rfl rfl rfl rfl (by first | exact ZB rfl rfl | exact ZB (List.length_set) rfl) (by rfl) (by first | exact ZB rfl rfl | exact ZB (List.length_set) rfl) (by rfl)) ?_
  exact ⟨rfl, rfl⟩
theorem W4o {T : TypeId → Option VTy} {H : Ze} {op : Op} {ρ : VEnv} {H' : Ze} {t : TypeId} {a : Operand} {i : Nat} {v : VVal} {y : VTy} {b off : Nat} {cs new : List VVal} (ho : op = .store t a (.tmp i)) (hv : ρ[i]? = some v) (ha : ρ.eval a = .ptr (some (b, off))) (hy : T t = some y) (hx : v.cells = some new) (hn : new.length = y.size) (h1 : new.all VVal.one = true) (hb : H[b]? = some (.cells cs true) := by exact ZB (List.length_set) rfl) (hl : off + new.length ≤ cs.length := by exact XH49) (hH : H.set b (.cells (Zv cs off new) true) = H' := by exact ZF (List.length_set)) : vop T ρ.eval H op = some (.skip, H') := ZT ho hv ha hy hx hn h1 hb hl hH
theorem W4p {S : V.Sys} {H : Ze} {fn : Func} {ex : Exit} {env : VEnv} {B L : Ze} {v : VVal} {R : VVal → Ze → Prop} (hx : ex = .normal ∨ ex = .ret) (hv : ZZ S.C.T env (B ++ L) fn.results = some v) (h : R v B) (hB : BaseOk H B := by exact BaseOk.set (BaseOk.refl _) _ rfl) (hu : v.under H.length = true := by show ((fzN _).under _ && (true && true)) = true; rw [show (fzN (plN a (lst (Ya (wsP p) a a.length) 0#64))).under _ = true from mapN_under _ _]; rfl) : fnK S fn H R ex env (B ++ L) := YE hx hv hB hu h
theorem Least_some {x : SW} (H : Ze) (y : Nat) (g : Gz) (hs : H[y]? = some (gaB g)) (p : Pb) (hp : PbL p) (hg0 : pck p = 0) (a : List Nat) (hf : (frm (kpB (wsP p) (Yg p)) (kpG p.users.toNat (wsP p) (Yg p)) (wsP p).length [] 0).2 = some a) (d9 : Gz) (z9 : List (Gz × List Nat)) (hq : (usT (Ya (wsP p) a a.length) [] 0#64).1 = (d9, (lst (Ya (wsP p) a a.length) 0#64)) :: z9) : F (psys x) 21 [.ptr (some (y, 0)), .agg (pbB p)] H fun v G => v = .tuple [fzN (plN a (lst (Ya (wsP p) a a.length) 0#64)), .bool true] ∧ G = H.set y (gaB (g + (frm (kpB (wsP p) (Yg p)) (kpG p.users.toNat (wsP p) (Yg p)) (wsP p).length [] 0).1 + d9)) := by
 have hg : Go.V.Good p := pck_good.1 hg0
 have hy := ZI hs
 obtain ⟨_, hal, ha, _, _⟩ := fnd_ok hf
 have hw : a.length ≤ (wsP p).length := by omega
 have hn : (wsP p).length ≤ 1000000 := by rw [Ys]; exact hp.w
 obtain ⟨t9, hT9⟩ : ∃ t9, tv (plT a (usT (Ya (wsP p) a a.length) [] 0#64)) = (d9, fzN (plN a (lst (Ya (wsP p) a a.length) 0#64))) :: t9 := ⟨_, by unfold plT; rw [hq]; rfl⟩
 refine Zr Tryd.func21 rfl u35 rfl ?_
 refine Zd (Za ?_)
 refine Lo u35 (Zy rfl rfl rfl) ?_
 refine Lo u35 (ZA rfl rfl) ?_
 refine Lo u35 (ZA rfl rfl) ?_
 refine Zf (Zc (Zd (Zd ?_)))
 refine Yp (Gh.freezePtrL (cs := pbB p) 3 0 rfl rfl rfl) ?_
 refine Za ?_
 refine Lo u35 (W4h rfl rfl rfl rfl rfl) ?_
 refine Zn rfl rfl rfl (by exact Y8 _ _ hp) ?_
 rintro _ _ ⟨rfl, rfl⟩
 refine Le u35 ?_
 refine Lo u35 (Yy false rfl (by rw [hg0]; rfl)) ?_
 refine Zf (Zc ?_)
 refine ZV rfl rfl ?_
 refine Zk (Zc (Zd ?_))
 refine ZW [0, 1, 2, 3, 4, 5] #[0, 0, 2, 6, 15, 31] XH6 XH6 XH6 ?_
 refine Oo u35 .look rfl (W4h rfl rfl rfl rfl rfl) ?_
 refine Oo u35 .calm rfl (Zb (.inl rfl) rfl) ?_
 refine Oo u35 .calm rfl (rfl) ?_
 refine Oo u35 .calm rfl (rfl) ?_
 refine Yf (env' := u35) rfl rfl rfl rfl rfl (by exact New_N _ p y (by simp; omega) hg) XH9 rfl rfl ?_
 refine Oo u35 .calm rfl (Zb (.inr rfl) rfl) ?_
 refine Z3 [] XH6 (trivial) ?_
 refine Zc (Zd (Zd (Za ?_)))
 refine Lo u35 (rfl) ?_
 refine Lo u35 (W40 rfl rfl rfl rfl) ?_
 refine Lo u35 (rfl) ?_
 refine Lo u35 (Zb (.inl rfl) rfl) ?_
 refine Lo u35 ((rfl : vop _ _ _ _ = some (kpV p.users.toNat (wsP p) (Yg p) y, _))) ?_
 refine Zn rfl rfl rfl (by exact Search_in H _ hs hg) ?_
 rintro _ _ ⟨rfl, rfl⟩; rw [hf]
 refine Le u35 ?_
 refine Lo u35 (rfl) ?_
 refine Lo u35 (Zg (VVal.int .i64 0) (.inl rfl) rfl) ?_
 refine Zf (Zc (Zj ?_))
 refine ZC (mk 35 34301017999) (env' := u35) rfl ?_
 refine ZJ (fun (k : Nat) => 0) (fun (k : Nat) => [(25, iI (k : Nat))]) (fun (k : Nat) G => (k = 0) ∧ G = H.set y (gaB (g + (frm (kpB (wsP p) (Yg p)) (kpG p.users.toNat (wsP p) (Yg p)) (wsP p).length [] 0).1)) ++ [.dead, .cells [niS] true, .cells [.bool false] true]) 0 rfl ?_ ?_
 ·refine ⟨?_, rfl⟩
  rfl
 rintro k _ ⟨rfl, rfl⟩
 refine ZU (env' := u35) rfl ?_
 refine Zd (Za ?_)
 refine Lo u35 (rfl) ?_
 refine Zf (Zc (Zd ?_))
 refine Zo _ rfl (fun hc1 => ?_) (fun hc1 => ?_)
 ·try simp only [qB, qN] at hc1
  refine Zk (Zc (Zd (Zj (Zd (Za ?_)))))
  refine Lo u35 (W18 rfl rfl rfl rfl rfl rfl rfl) ?_
  refine Lo u35 (W40 rfl rfl rfl rfl) ?_
  refine Lo u35 (Zb (.inr rfl) rfl) ?_
  refine Zf (Zc (Zd (Za ?_)))
  refine Lo u35 (Zb (.inl rfl) rfl) ?_
  refine Lo u35 (Zb (.inl rfl) rfl) ?_
  refine Zn rfl rfl rfl (by exact Plans_spec _ y (by simp; omega) a) ?_
  rintro _ _ ⟨rfl, rfl⟩
  refine Le u35 ?_
  refine Zf (Zc (Zj ?_))
  refine ZC (mk 35 32153534351) (env' := u35) rfl ?_
  refine B_rangePJ (y) (tv (plT a (usT (Ya (wsP p) a a.length) [] 0#64))) ((usT (Ya (wsP p) a a.length) [] 0#64).2) (fun l0 h => by cases h) rfl (fun l9 G9 K9 hg9 hI9 => Plans1_spec y l9 a ha hw hn G9 _ K9 hg9.choose_spec hI9) (σ := Gz × VVal × Bool) (fun k s => H.set y (gaB s.1) ++ [.dead, .cells [s.2.1] true, .cells [.bool s.2.2] true, k]) (g + (frm (kpB (wsP p) (Yg p)) (kpG p.users.toNat (wsP p) (Yg p)) (wsP p).length [] 0).1, niS, false) (fun k => by simp) (fun k s => by simp) (fun k s => by rw [show ((H.set y _) ++ _ : Ze).length = H.length + 3 by simp]; exact ZB (List.length_set) rfl) (fun k k1 s => by rw [show ((H.set y _) ++ _ : Ze).length = H.length + 3 by simp]; exact ZF (List.length_set)) (fun s => s.1) (fun d s => (s.1 + d, s.2)) (fun pre s => pre = [] ∧ s = (g + (frm (kpB (wsP p) (Yg p)) (kpG p.users.toNat (wsP p) (Yg p)) (wsP p).length [] 0).1, niS, false)) (fun k s pre hI => by exact Zp (List.getElem?_set_self hy)) (fun k s d pre hI => by rw [Yl XH34, List.set_set]) ?_ (fun j pre c s => (j = Code.ret ∧ (s = (g + (frm (kpB (wsP p) (Yg p)) (kpG p.users.toNat (wsP p) (Yg p)) (wsP p).length [] 0).1 + d9, fzN (plN a (lst (Ya (wsP p) a a.length) 0#64)), true)))) rfl ?_ ?_ ?_
  ·exact ⟨rfl, rfl⟩
  ·intro pre d c post s hx hI Lp kr kb hkr hkb
   obtain ⟨g8, v8, b8⟩ := s
   try dsimp only at hI ⊢
   obtain ⟨rfl, hI⟩ := hI
   obtain ⟨rfl, rfl, rfl⟩ : g8 = _ ∧ v8 = _ ∧ b8 = _ := by simpa using hI
   obtain ⟨rfl, rfl⟩ : d = d9 ∧ c = fzN (plN a (lst (Ya (wsP p) a a.length) 0#64)) := by
    have h9 : (d9, fzN (plN a (lst (Ya (wsP p) a a.length) 0#64))) :: t9 = (d, c) :: post := (by rw [← hT9]; exact hx)
    injection h9 with h1 h2; injection h1 with h3 h4; exact ⟨h3.symm, h4.symm⟩
   refine ZU (env' := u35) rfl ?_
   refine Za ?_
   refine Lo u35 (Zb (.inr rfl) rfl) ?_
   refine Zf ?_
   refine ⟨rfl, (g + (frm (kpB (wsP p) (Yg p)) (kpG p.users.toNat (wsP p) (Yg p)) (wsP p).length [] 0).1 + d, niS, false), rfl, ?_⟩
   try dsimp only
   refine Yi (H' := H.set y (gaB (g + (frm (kpB (wsP p) (Yg p)) (kpG p.users.toNat (wsP p) (Yg p)) (wsP p).length [] 0).1 + d)) ++ ([.dead, .cells [niS] true, .cells [.bool false] true, kb] ++ Lp)) (by simp) ?_
   refine Zj (Zd (Za ?_))
   refine Lo u35 (Zb (.inl rfl) rfl) ?_
   refine Lo u35 (W4o rfl rfl rfl rfl rfl rfl rfl) ?_
   refine Lo u35 (Z6 (VVal.bool true) rfl rfl rfl rfl rfl rfl rfl XH42 XH3 (by exact ZF (List.length_set))) ?_
   refine Zf (Zc (Zl (ZX ?_)))
   refine ⟨(g + (frm (kpB (wsP p) (Yg p)) (kpG p.users.toNat (wsP p) (Yg p)) (wsP p).length [] 0).1 + d, fzN (plN a (lst (Ya (wsP p) a a.length) 0#64)), true), [], (by simp; exact ⟨rfl, rfl⟩), .inr ⟨Code.ret, rfl, ⟨rfl, ?_⟩⟩⟩
   rfl
  ·intro s k hk hI J9
   obtain ⟨g8, v8, b8⟩ := s
   try dsimp only at hI ⊢
   exfalso
   obtain ⟨h8, _⟩ := hI
   rw [hT9] at h8; cases h8
  ·rintro j pre c post s k hk hx (⟨rfl, hX⟩) J9
   obtain ⟨g8, v8, b8⟩ := s
   try dsimp only
   obtain ⟨rfl, rfl, rfl⟩ : g8 = _ ∧ v8 = _ ∧ b8 = _ := by simpa using hX
   rw [List.append_assoc (H.set _ _)]
   refine J_ret ?_
   refine ZX (ZX (Zt (Y2 (ZX (Zt ?_)))))
   refine W4p (.inr rfl) (vres_cells2 rfl rfl rfl rfl rfl rfl rfl XH42 (by rfl) XH42 (by rfl)) ?_
   exact ⟨rfl, rfl⟩
 ·try simp only [qB, qN] at hc1
  exfalso; simp at hc1
abbrev u3 {a0 a1 a2 : VVal} : VEnv := a0 :: a1 :: a2 :: []
abbrev u14 {a0 a1 a2 a3 a4 a5 a6 a7 a8 a9 a10 a11 a12 a13 : VVal} : VEnv := a0 :: a1 :: a2 :: a3 :: a4 :: a5 :: a6 :: a7 :: a8 :: a9 :: a10 :: a11 :: a12 :: a13 :: []
theorem sLeast_spec {x : SW} (H : Ze) (y : Nat) (g : Gz) (hs : H[y]? = some (gaB g)) (p : Pb) (hp : PbL p) : F (psys x) 21 [.ptr (some (y, 0)), .agg (pbB p)] H fun v G => v = leT (leA p) ∧ G = H.set y (gaB (g + leG p)) := by
  by_cases hg : pck p = 0
  · cases hf : (frm (kpB (wsP p) (Yg p)) (kpG p.users.toNat (wsP p) (Yg p)) (wsP p).length [] 0).2 with
    | none =>
      refine (Least_none H y g hs p hp hg hf).mono ?_
      rintro v G ⟨rfl, rfl⟩
      rw [show leA p = none by unfold leA fdA; rw [if_pos hg, hf]; rfl, show leG p = (frm (kpB (wsP p) (Yg p)) (kpG p.users.toNat (wsP p) (Yg p)) (wsP p).length [] 0).1 by unfold leG fdG; rw [if_pos hg, hf]; exact Gz.add_zero _]
      exact ⟨rfl, rfl⟩
    | some a =>
      obtain ⟨_, _, _, _, hm⟩ := fnd_ok hf
      obtain ⟨d9, z9, hq⟩ := usT_fst hm
      refine (Least_some H y g hs p hp hg a hf d9 z9 hq).mono ?_
      rintro v G ⟨rfl, rfl⟩
      rw [show leA p = some (plN a (lst (Ya (wsP p) a a.length) 0#64)) by unfold leA fdA; rw [if_pos hg, hf]; rfl, show leG p = (frm (kpB (wsP p) (Yg p)) (kpG p.users.toNat (wsP p) (Yg p)) (wsP p).length [] 0).1 + d9 by unfold leG fdG; rw [if_pos hg, hf]; simp only [hq]; rfl]
      exact ⟨rfl, by rw [Gz.assoc]⟩
  · refine (Least_bad H y g hs p hp hg).mono ?_
    rintro v G ⟨rfl, rfl⟩
    rw [show leA p = none from if_neg hg, show leG p = 0 from if_neg hg, Gz.add_zero, ← YL hs]
    exact ⟨rfl, rfl⟩
theorem leT_can {o : Option (List Nat)} : ∃ l, leT o = .tuple [fzN l, .bool o.isSome] := by
  cases o with
  | none => exact ⟨[], rfl⟩
  | some l => exact ⟨l, rfl⟩
theorem sLeast_t {x : SW} (H : Ze) (y : Nat) (g : Gz) (hs : H[y]? = some (gaB g)) (p : Pb) (hp : PbL p) : F (psys x) 21 [.ptr (some (y, 0)), .agg (pbB p)] H fun v G => ∃ l, v = .tuple [fzN l, .bool (leA p).isSome] ∧ G = H.set y (gaB (g + leG p)) := by
  refine (sLeast_spec H y g hs p hp).mono ?_
  rintro v G ⟨rfl, rfl⟩
  obtain ⟨l, h⟩ := @leT_can (leA p)
  exact ⟨l, h, rfl⟩
theorem Can_spec {x : SW} (H : Ze) (y : Nat) (g : Gz) (hs : H[y]? = some (gaB g)) (p : Pb) (hp : PbL p) : F (psys x) 20 [.ptr (some (y, 0)), .agg (pbB p)] H fun v G => v = .bool (leA p).isSome ∧ G = H.set y (gaB (g + leG p)) := by
 refine Zr Tryd.func20 rfl u14 rfl ?_
 refine Zd (Za ?_)
 refine Lo u14 (Zy rfl rfl rfl) ?_
 refine Lo u14 (Zg (VVal.bool false) (.inr rfl) rfl) ?_
 refine Zf (Zc (Zd (Za ?_)))
 refine Lo u14 (Zb (.inl rfl) rfl) ?_
 refine Lo u14 (W11 rfl rfl rfl rfl rfl) ?_
 refine Zn rfl rfl rfl (by exact sLeast_t _ y g (Zp hs) p hp) ?_
 rintro _ _ ⟨l, rfl, rfl⟩; rw [Yl (ZI hs)]
 refine Le u14 ?_
 refine Lo u14 (Zb (.inl rfl) rfl) ?_
 refine Lo u14 (rfl) ?_
 refine Lo u14 (rfl) ?_
 refine Lo u14 (Zb (.inr rfl) rfl) ?_
 refine Lo u14 (Zb (.inr rfl) rfl) ?_
 refine Zf (Zc (Zd (Za ?_)))
 refine Lo u14 (Zb (.inl rfl) rfl) ?_
 refine Lo u14 (Zb (.inr rfl) rfl) ?_
 refine Zf (Zc (Zl ?_))
 refine W2t (.inr rfl) (Zi rfl rfl) ?_
 exact ⟨rfl, rfl⟩
theorem sNew_spec {x : SW} (H : Ze) : F (psys x) 16 [] H fun v G => v = .ptr (some (H.length, 0)) ∧ G = H ++ [gaB 0] := by
 refine Zr Tryd.func16 rfl u3 rfl ?_
 refine Zd (Za ?_)
 refine Lo u3 (Zg (VVal.ptr none) (.inr rfl) rfl) ?_
 refine Zf (Zc (Zd (Za ?_)))
 refine Lo u3 (rfl) ?_
 refine Lo u3 (Zy rfl rfl rfl) ?_
 refine Lo u3 (Zb (.inr rfl) rfl) ?_
 refine Zf (Zc (Zl ?_))
 refine YG (.inr rfl) (Zi rfl rfl) ?_
 exact ⟨rfl, rfl⟩
def pw : Pb := (3, [3#64, 3#64, 4#64], [-1, -1, -1], [(1, 0, [0, 1], ())], ())
theorem Cut_few {x : SW} (H : Ze) (p : Pb) (m : Nat) : F (psys x) 19 [.agg (pbB (ZG p m))] H fun v G => v = .agg (pbB (ZG p m)) ∧ G = H := by
  have := Cut_spec (x := x) H (ZG p m)
  rw [fewP_cut] at this; exact this
theorem CloI_emp {x : SW} (H : Ze) : F (psys x) 109 [.slice none 0 0 false 0] H fun v G => v = .fsl [] 0 1 false ∧ G = H := by
 refine Zr Tryd.func109 rfl u8 rfl ?_
 refine Zd (Za ?_)
 refine Lo u8 (Zg (VVal.slice none 0 0 true 0) (.inr rfl) rfl) ?_
 refine Zf (Zc (Zd (Zd (Za ?_))))
 refine Lo u8 (Zb (.inl rfl) rfl) ?_
 refine Lo u8 (rfl) ?_
 refine Zf (Zc ?_)
 refine ZV rfl rfl ?_
 refine Zk (Zc (Zd (Za ?_)))
 refine Lo u8 (Zx rfl rfl (by decide) rfl) ?_
 refine Lo u8 (Zb (.inl rfl) rfl) ?_
 refine Lo u8 (v_appIn rfl rfl rfl rfl rfl rfl rfl (ZB rfl rfl) rfl rfl rfl rfl (by decide) (by decide) (by decide)) ?_
 refine L_heap (H' := H ++ [.cells [] true]) (by rw [ZF rfl]; rfl) ?_
 refine Lo u8 (Zb (.inr rfl) rfl) ?_
 refine Zf (Zc (Zl ?_))
 refine E_gh (.inr rfl) (Zi rfl rfl) (Gh.fsl (j := 0) (off := 0) (len := 0) (l := []) (BaseOk.refl _) rfl rfl (Nat.le_refl _) rfl) ?_
 exact ⟨rfl, rfl⟩
theorem CloI_c {x : SW} (H : Ze) (l : List Int) (hne : l ≠ []) (hl : l.length ≤ 1000000) : F (psys x) 109 [fzI l] H fun v G => v = .slice (some (H.length, 0)) l.length l.length (decide (l.length = 0)) 1 ∧ G = H ++ [.cells (l.map iI) true] := by
 refine Zr Tryd.func109 rfl u8 rfl ?_
 refine Zd (Za ?_)
 refine Lo u8 (Zg (VVal.slice none 0 0 true 0) (.inr rfl) rfl) ?_
 refine Zf (Zc (Zd (Zd (Za ?_))))
 refine Lo u8 (Zb (.inl rfl) rfl) ?_
 refine Lo u8 (v_eqNilC rfl rfl rfl rfl rfl (fun e => hne (List.eq_nil_of_length_eq_zero e))) ?_
 refine Zf (Zc ?_)
 refine ZV rfl rfl ?_
 refine Zk (Zc (Zd (Za ?_)))
 refine Lo u8 (Zx rfl rfl (by decide) rfl) ?_
 refine Lo u8 (Zb (.inl rfl) rfl) ?_
 refine L_opX rfl rfl (v_appE rfl rfl rfl rfl rfl rfl rfl rfl (by rw [List.length_map]; exact (Nat.mul_one _).symm) (mapI_one _) (by decide) (by show l.length * 8 ≤ _ ∧ l.length ≤ _; omega)) ?_
 rintro _ _ ⟨Z, i, rfl, rfl, hi⟩
 refine Le u8 ?_
 refine Lo u8 (Zb (.inr rfl) rfl) ?_
 refine Zf (Zc (Zl ?_))
 refine E_gh (.inr rfl) (Zi rfl rfl) (Gh.pack (BaseOk.refl _) hi (mapI_under _ _)) ?_
 exact ⟨rfl, rfl⟩
theorem CloIf {x : SW} (H : Ze) (l : List Int) (hl : l.length ≤ 1000000) : F (psys x) 109 [fzI l] H fun v G => v = fzI l ∧ G = H := by
  by_cases h : l = []
  · subst h; exact F_split0 (CloI_nil H) (CloI_emp H)
  · exact F.gh (CloI_c H l h hl) fun v G h => by
      obtain ⟨rfl, rfl⟩ := h
      exact ⟨_, _, Gh.fsl (j := 0) (BaseOk.refl H) rfl map_all (Nat.le_refl _) (mapI_under _ _), rfl, rfl⟩
abbrev u47 {a0 a1 a2 a3 a4 a5 a6 a7 a8 a9 a10 a11 a12 a13 a14 a15 a16 a17 a18 a19 a20 a21 a22 a23 a24 a25 a26 a27 a28 a29 a30 a31 a32 a33 a34 a35 a36 a37 a38 a39 a40 a41 a42 a43 a44 a45 a46 : VVal} : VEnv := a0 :: a1 :: a2 :: a3 :: a4 :: a5 :: a6 :: a7 :: a8 :: a9 :: a10 :: a11 :: a12 :: a13 :: a14 :: a15 :: a16 :: a17 :: a18 :: a19 :: a20 :: a21 :: a22 :: a23 :: a24 :: a25 :: a26 :: a27 :: a28 :: a29 :: a30 :: a31 :: a32 :: a33 :: a34 :: a35 :: a36 :: a37 :: a38 :: a39 :: a40 :: a41 :: a42 :: a43 :: a44 :: a45 :: a46 :: []
theorem W4u {P : Prop} (h : P := by first | exact ⟨false, A2, _, rfl, rfl, hA3, hk3, fun e => by cases e⟩ | exact ⟨true, A0, _, rfl, rfl, hA0, by (have h9 := hI0; rw [ptR_end (by omega)] at h9; have h9 := h9 g1 hg1; rw [set_add0 hg1] at h9; exact h9), fun _ => ⟨g1, hg1⟩⟩) : P := h
theorem W4w {S : V.Sys} {H : Ze} {fn : Func} {ex : Exit} {env : VEnv} {B L : Ze} {v : VVal} {R : VVal → Ze → Prop} (hx : ex = .normal ∨ ex = .ret) (hv : ZZ S.C.T env (B ++ L) fn.results = some v) (h : R v B) (hB : BaseOk H B := by exact XH54) (hu : v.under H.length = true := by show (true && (((huP (u : Nat) (fzW ws) (fzRR rss) y).under _ && true) && true)) = true; rw [huUnder hy]; rfl) : fnK S fn H R ex env (B ++ L) := YE hx hv hB hu h
theorem hKeep_at {x : SW} {A Z : Ze} {u y : Nat} {ws : List (BitVec 64)} {rss : List (List Rul)} {g : Gz} (hs : A[y]? = some (gaB g)) (a : List Nat) (ha : Pat a) (h0 : 0 < a.length) (hw : a.length ≤ ws.length) (hn : ws.length ≤ 1000000) (hr : rss.length = ws.length) (hR : ∀ i, (rss.getD i []).length ≤ 1000000 ∧ ∀ r, r ∈ rss.getD i [] → r.steps.length ≤ 1000000) :
    F (psys x) 53 [huP (u : Nat) (fzW ws) (fzRR rss) y, fzN a] (A ++ Z) fun v G => v = .bool (kpB ws rss a) ∧ G = A.set y (gaB (g + kpG u ws rss a)) ++ Z := by
  refine (hKeep_spec _ y g (Zp hs) ws rss a ha h0 hw hn hr hR).mono ?_
  rintro v G ⟨rfl, rfl⟩
  exact ⟨rfl, Yl (ZI hs)⟩
theorem CloN {x : SW} (H : Ze) (l : List Nat) (hl : l.length ≤ 1000000) : F (psys x) 109 [fzN l] H fun v G => v = fzN l ∧ G = H := by
  rw [fzN_is]; exact CloIf H (zI l) (by rw [zI_len]; exact hl)
theorem patterns_0 {x : SW} {u y : Nat} {ws : List (BitVec 64)} {rss : List (List Rul)} (l : Nat) (hn : ws.length ≤ 1000000) (hr : rss.length = ws.length) (hR : ∀ i, (rss.getD i []).length ≤ 1000000 ∧ ∀ r, r ∈ rss.getD i [] → r.steps.length ≤ 1000000) (A L : Ze) (row : List Nat) (b : Nat) (g : Gz) (K : Bool → Ze → Prop) (hp : Pat row) (hb : b = szP row row.length) (hs : A[y]? = some (gaB g)) (hI : IterP (psys x) l y (tv (ptT (kpB ws rss) (kpG u ws rss) 0 row b)) (ptT (kpB ws rss) (kpG u ws rss) 0 row b).2 A K) (hl : row.length = ws.length) : F (psys x) 114 [huP (u : Nat) (fzW ws) (fzRR rss) y, fzN row, iI (b : Nat), .yield l] (A ++ L) (EaP y K A L) := by
 refine Zr Tryd.func114 rfl u47 rfl ?_
 refine Zd (Za ?_)
 refine Lo u47 (Zg (VVal.bool false) (.inr rfl) rfl) ?_
 refine Zf (Zc (Zd (Zd ?_)))
 rw [List.append_nil]
 refine Za ?_
 refine Lo u47 (Zb (.inl rfl) rfl) ?_
 refine Lo u47 (rfl) ?_
 refine Lo u47 (Zb (.inl rfl) rfl) ?_
 refine Lo u47 (rfl) ?_
 refine Lo u47 (rfl) ?_
 refine Lo u47 (W40 rfl rfl rfl rfl) ?_
 refine Lo u47 (rfl) ?_
 refine Lo u47 (Yy true rfl (by rw [hl]; simp)) ?_
 refine Zf (Zc ?_)
 refine Z0 rfl rfl ?_
 refine Zd (Za ?_)
 refine Lo u47 (Zb (.inl rfl) rfl) ?_
 refine Lo u47 (Zb (.inl rfl) rfl) ?_
 refine Zn rfl rfl rfl (by exact CloN _ row (by omega)) ?_
 rintro _ _ ⟨rfl, rfl⟩
 refine Le u47 ?_
 refine L_callV rfl rfl rfl (by have h9 : Fv (psys x) (.yield l) [fzN row] (A.set y (gaB (g + 0)) ++ L) _ := hI g hs L; rw [set_add0 hs] at h9; exact h9) ?_
 rintro _ G ⟨b1, A1, J1, rfl, hG, hA1, hk⟩; obtain rfl : G = A1 ++ (L ++ J1) := hG
 refine Le u47 ?_
 refine Lo u47 (Zb (.inr rfl) rfl) ?_
 refine Zf (Zc (Zl (Zt ?_)))
 refine YG (.inr rfl) (Zi rfl rfl) ?_
 exact ⟨b1, A1, _, rfl, rfl, hA1, ea_end hk⟩
theorem patterns_s {x : SW} {u y : Nat} {ws : List (BitVec 64)} {rss : List (List Rul)} (l : Nat) (hn : ws.length ≤ 1000000) (hr : rss.length = ws.length) (hR : ∀ i, (rss.getD i []).length ≤ 1000000 ∧ ∀ r, r ∈ rss.getD i [] → r.steps.length ≤ 1000000) (n : Nat) (ih : ∀ (A L : Ze) (row : List Nat) (b : Nat) (g : Gz) (K : Bool → Ze → Prop) (hp : Pat row) (hb : b = szP row row.length) (hs : A[y]? = some (gaB g)) (hI : IterP (psys x) l y (tv (ptT (kpB ws rss) (kpG u ws rss) n row b)) (ptT (kpB ws rss) (kpG u ws rss) n row b).2 A K), row.length + n = ws.length → F (psys x) 114 [huP (u : Nat) (fzW ws) (fzRR rss) y, fzN row, iI (b : Nat), .yield l] (A ++ L) (EaP y K A L)) (A L : Ze) (row : List Nat) (b : Nat) (g : Gz) (K : Bool → Ze → Prop) (hp : Pat row) (hb : b = szP row row.length) (hs : A[y]? = some (gaB g)) (hI : IterP (psys x) l y (tv (ptT (kpB ws rss) (kpG u ws rss) (n + 1) row b)) (ptT (kpB ws rss) (kpG u ws rss) (n + 1) row b).2 A K) (hl : row.length + (n + 1) = ws.length) : F (psys x) 114 [huP (u : Nat) (fzW ws) (fzRR rss) y, fzN row, iI (b : Nat), .yield l] (A ++ L) (EaP y K A L) := by
 have hz := @Y4 row row.length
 refine Zr Tryd.func114 rfl u47 rfl ?_
 refine Zd (Za ?_)
 refine Lo u47 (Zg (VVal.bool false) (.inr rfl) rfl) ?_
 refine Zf (Zc (Zd (Zd ?_)))
 rw [List.append_nil]
 refine Za ?_
 refine Lo u47 (Zb (.inl rfl) rfl) ?_
 refine Lo u47 (rfl) ?_
 refine Lo u47 (Zb (.inl rfl) rfl) ?_
 refine Lo u47 (rfl) ?_
 refine Lo u47 (rfl) ?_
 refine Lo u47 (W40 rfl rfl rfl rfl) ?_
 refine Lo u47 (rfl) ?_
 refine Lo u47 (Yy false rfl (by simp; omega)) ?_
 refine Zf (Zc ?_)
 refine ZV rfl rfl ?_
 refine Zk (Zc (Zd (Zd ?_)))
 rw [ptT_R] at hI
 refine Za ?_
 refine Lo u47 (Zg (VVal.int .i64 0) (.inr rfl) rfl) ?_
 refine Zf (Zc (Zj ?_))
 refine ZC (mk 47 140737488354800) (env' := u47) rfl ?_
 refine ZJ (fun (k : Nat) => b + 1 - k) (fun (k : Nat) => [(9, iI (k : Nat))]) (fun (k : Nat) G => (k ≤ b + 1) ∧ ∃ A0 J0 g1, G = A0 ++ (L ++ J0) ∧ A0.length = A.length ∧ A0[y]? = some (gaB g1) ∧ IterP (psys x) l y (tv (ptR (kpB ws rss) (kpG u ws rss) (ptT (kpB ws rss) (kpG u ws rss) n) row b k)) (ptR (kpB ws rss) (kpG u ws rss) (ptT (kpB ws rss) (kpG u ws rss) n) row b k).2 A0 K) 0 rfl ?_ ?_
 ·refine ⟨?_, ⟨A, [], g, by rw [List.append_nil], rfl, hs, hI⟩⟩
  exact Nat.zero_le _
 rintro k _ ⟨hk, ⟨A0, J0, g1, rfl, hA0, hg1, hI0⟩⟩
 refine ZU (env' := u47) rfl ?_
 refine Zd (Zd (Za ?_))
 refine Lo u47 (Zb (.inl rfl) rfl) ?_
 refine Lo u47 (Zb (.inl rfl) rfl) ?_
 refine Lo u47 (rfl) ?_
 refine Zf (Zc ?_)
 refine Zo _ rfl (fun hc1 => ?_) (fun hc1 => ?_)
 ·try simp only [qB, qN] at hc1
  refine Zk (Zc (Zd (Zj (Zd (Za ?_)))))
  refine Lo u47 (Zb (.inl rfl) rfl) ?_
  refine Zn rfl rfl rfl (by exact Clip_spec _ row) ?_
  rintro _ _ ⟨rfl, rfl⟩
  refine Le u47 ?_
  refine Lo u47 (Zb (.inl rfl) rfl) ?_
  refine Lo u47 (Zx rfl rfl (by decide) rfl) ?_
  refine Lo u47 (v_appFX (c := iI ((k : Nat) : Int)) rfl rfl rfl rfl rfl rfl rfl rfl get_end rfl (by simp) (by show (row.length + 1) * 8 ≤ _ ∧ _; omega)) ?_
  refine Lo u47 (Zb (.inr rfl) rfl) ?_
  refine Zf (Zc (Zd ?_))
  refine B_frzEnd 10 rfl rfl rfl rfl ?_
  have hkb : k ≤ b := by omega
  have hpk : Pat (row ++ [k]) := Pat_snoc hp (by omega)
  refine Za ?_
  refine Lo u47 (Zb (.inl rfl) rfl) ?_
  refine Lo u47 (Zb (.inl rfl) rfl) ?_
  refine Zn rfl rfl rfl (by exact hKeep_at hg1 (row ++ [k]) hpk (by simp) (by simp; omega) hn hr hR) ?_
  rintro _ _ ⟨rfl, rfl⟩
  refine Le u47 ?_
  refine Lo u47 (Zb (.inl rfl) rfl) ?_
  refine ZL 36 (env1 := u47) (env2 := u47) rfl rfl rfl (fun hg2 => ?_) (fun hg2 => ?_)
  ·try simp only [qB, qN] at hg2
   have hkp : kpB ws rss (row ++ [k]) = true := by simpa using hg2
   refine Lo u47 (Zb (.inl rfl) rfl) ?_
   refine Lo u47 (Zb (.inl rfl) rfl) ?_
   refine Lo u47 (Zb (.inl rfl) rfl) ?_
   refine Lo u47 (Zb (.inl rfl) rfl) ?_
   refine Lo u47 (W14 rfl rfl rfl) ?_
   refine Lo u47 (v_val rfl (show iI _ = iI ((max b (k + 1) : Nat) : Int) by congr 1; omega)) ?_
   refine Lo u47 (Zb (.inl rfl) rfl) ?_
   refine Zn rfl rfl rfl (by have hIf := hI0; rw [ptR_yes hkb hkp] at hIf; exact ih (A0.set y (gaB (g1 + kpG u ws rss (row ++ [k])))) _ (row ++ [k]) _ _ _ hpk (by rw [hb]; exact (szP_next (by omega)).symm) (List.getElem?_set_self (ZI hg1)) (IterP.catT (xs := (ptT (kpB ws rss) (kpG u ws rss) n (row ++ [k]) (max b (k + 1))).1) (da := (ptT (kpB ws rss) (kpG u ws rss) n (row ++ [k]) (max b (k + 1))).2) (IterP.addF hg1 hIf)) (by simp; omega)) ?_
   rintro _ G ⟨b1, A2, J2, rfl, hG, hA2, hk2, hg2x⟩; have hA3 : A2.length = A.length := hA2.trans (by rw [List.length_set]; exact hA0); obtain rfl : G = _ := hG.trans ea_fold
   refine Le u47 ?_
   refine Lo u47 (rfl) ?_
   refine Lo u47 (Zz rfl rfl rfl) ?_
   refine Zf (Zc ?_)
   refine Zo _ rfl (fun hc3 => ?_) (fun hc3 => ?_)
   ·try simp only [qB, qN] at hc3
    have hb1 : b1 = false := by simpa using hc3
    subst hb1
    have hk3 : K false A2 := hk2
    refine Zd (Za ?_)
    refine Lo u47 (Zg (VVal.bool false) (.inr rfl) rfl) ?_
    refine Zf (Zc (Zl (ZX (Zt (Y2 (ZX (Zt ?_)))))))
    refine YG (.inr rfl) (Zi rfl rfl) ?_
    exact W4u
   ·try simp only [qB, qN] at hc3
    have hb1 : b1 = true := by simpa using hc3
    subst hb1
    obtain ⟨g2, hg3⟩ := hg2x rfl
    have hk3 : IterP (psys x) l y (tv (ptR (kpB ws rss) (kpG u ws rss) (ptT (kpB ws rss) (kpG u ws rss) n) row b (k + 1))) (ptR (kpB ws rss) (kpG u ws rss) (ptT (kpB ws rss) (kpG u ws rss) n) row b (k + 1)).2 A2 K := hk2
    refine Zk (Zu (Zc (Za ?_)))
    refine Lo u47 (Zb (.inl rfl) rfl) ?_
    refine Lo u47 (W14 rfl rfl rfl) ?_
    refine Lo u47 (Zb (.inr rfl) rfl) ?_
    refine Zf ?_
    refine ZD (mk 47 140737488354800) (env' := u47) rfl ⟨k + 1, ?_, rfl, ?_⟩
    ·first | omega | (simp only []; omega)
    ·first | exact ⟨by omega, A2, _, g2, rfl, hA3, hg3, hk3⟩ | exact ⟨by omega, A0.set y (gaB (g1 + kpG u ws rss (row ++ [k]))), _, _, ea_fold0, by rw [List.length_set]; exact hA0, List.getElem?_set_self (ZI hg1), IterP.addF hg1 (by have h9 := hI0; rw [ptR_no hkb hkp] at h9; exact h9)⟩
  ·try simp only [qB, qN] at hg2
   have hkp : kpB ws rss (row ++ [k]) = false := by simpa using hg2
   refine Lf u47 ?_
   refine Lf u47 ?_
   refine Lf u47 ?_
   refine Lf u47 ?_
   refine Lf u47 ?_
   refine Lf u47 ?_
   refine Lf u47 ?_
   refine Lf u47 ?_
   refine Lf u47 ?_
   refine Lo u47 (ZN (VVal.bool false) rfl rfl rfl) ?_
   refine Zf (Zc ?_)
   refine ZV rfl rfl ?_
   refine Zk (Zu (Zc (Za ?_)))
   refine Lo u47 (Zb (.inl rfl) rfl) ?_
   refine Lo u47 (W14 rfl rfl rfl) ?_
   refine Lo u47 (Zb (.inr rfl) rfl) ?_
   refine Zf ?_
   refine ZD (mk 47 140737488354800) (env' := u47) rfl ⟨k + 1, ?_, rfl, ?_⟩
   ·first | omega | (simp only []; omega)
   ·first | exact ⟨by omega, A2, _, g2, rfl, hA3, hg3, hk3⟩ | exact ⟨by omega, A0.set y (gaB (g1 + kpG u ws rss (row ++ [k]))), _, _, ea_fold0, by rw [List.length_set]; exact hA0, List.getElem?_set_self (ZI hg1), IterP.addF hg1 (by have h9 := hI0; rw [ptR_no hkb hkp] at h9; exact h9)⟩
 ·try simp only [qB, qN] at hc1
  refine ZP (ZR (ZH (ZO (Zc (Zd (Za ?_))))))
  refine Lo u47 (Zg (VVal.bool true) (.inr rfl) rfl) ?_
  refine Zf (Zc (Zl ?_))
  refine YG (.inr rfl) (Zi rfl rfl) ?_
  exact W4u
theorem patterns_spec {x : SW} {u y : Nat} {ws : List (BitVec 64)} {rss : List (List Rul)} (l : Nat) (hn : ws.length ≤ 1000000) (hr : rss.length = ws.length) (hR : ∀ i, (rss.getD i []).length ≤ 1000000 ∧ ∀ r, r ∈ rss.getD i [] → r.steps.length ≤ 1000000) : ∀ (n : Nat) (A L : Ze) (row : List Nat) (b : Nat) (g : Gz) (K : Bool → Ze → Prop) (hp : Pat row) (hb : b = szP row row.length) (hs : A[y]? = some (gaB g)) (hI : IterP (psys x) l y (tv (ptT (kpB ws rss) (kpG u ws rss) n row b)) (ptT (kpB ws rss) (kpG u ws rss) n row b).2 A K), row.length + n = ws.length → F (psys x) 114 [huP (u : Nat) (fzW ws) (fzRR rss) y, fzN row, iI (b : Nat), .yield l] (A ++ L) (EaP y K A L)
  | 0, A, L, row, b, g, K, hp, hb, hs, hI, hl => patterns_0 l hn hr hR A L row b g K hp hb hs hI hl
  | n + 1, A, L, row, b, g, K, hp, hb, hs, hI, hl => patterns_s l hn hr hR n (fun A L row b g K h1 h2 h3 h4 h5 => patterns_spec l hn hr hR n A L row b g K h1 h2 h3 h4 h5) A L row b g K hp hb hs hI hl
theorem patterns_top {x : SW} {u y : Nat} {ws : List (BitVec 64)} {rss : List (List Rul)} (l : Nat) (hn : ws.length ≤ 1000000) (hr : rss.length = ws.length) (hR : ∀ i, (rss.getD i []).length ≤ 1000000 ∧ ∀ r, r ∈ rss.getD i [] → r.steps.length ≤ 1000000) (A : Ze) (g : Gz) (K : Bool → Ze → Prop) (hs : A[y]? = some (gaB g)) (hI : IterP (psys x) l y (tv (ptT (kpB ws rss) (kpG u ws rss) ws.length [] 0)) (ptT (kpB ws rss) (kpG u ws rss) ws.length [] 0).2 A K) :
    F (psys x) 114 [huP (u : Nat) (fzW ws) (fzRR rss) y, niS, iI 0, .yield l] A fun v G => ∃ b A1 J, v = .bool b ∧ G = A1 ++ J ∧ K b A1 := by
  refine F.pre (Gh.freezeNil (vs' := [huP (u : Nat) (fzW ws) (fzRR rss) y, fzN [], iI 0, .yield l]) 1 rfl rfl) ?_
  have := patterns_spec (x := x) (u := u) l hn hr hR ws.length A [] [] 0 g K Pat_nil rfl hs hI (Nat.zero_add _)
  rw [List.append_nil] at this
  refine this.mono ?_
  rintro v G ⟨b, A1, J, rfl, rfl, _, hk, _⟩
  exact ⟨b, A1, J, rfl, rfl, hk⟩
theorem Patterns1_spec {x : SW} {u y : Nat} {ws : List (BitVec 64)} {rss : List (List Rul)} (l : Nat) (hn : ws.length ≤ 1000000) (hr : rss.length = ws.length) (hR : ∀ i, (rss.getD i []).length ≤ 1000000 ∧ ∀ r, r ∈ rss.getD i [] → r.steps.length ≤ 1000000) (A : Ze) (g : Gz) (K : Bool → Ze → Prop) (hs : A[y]? = some (gaB g)) (hI : IterP (psys x) l y (tv (ptT (kpB ws rss) (kpG u ws rss) ws.length [] 0)) (ptT (kpB ws rss) (kpG u ws rss) ws.length [] 0).2 A K) : F (psys x) 113 [.yield l, .fptr [huP (u : Nat) (fzW ws) (fzRR rss) y] 0] A fun v G => ∃ b A1 J, G = A1 ++ J ∧ K b A1 := by
 refine Zr Tryd.func113 rfl u6 rfl ?_
 rw [List.append_nil]
 refine Za ?_
 refine Lo u6 (W12 rfl rfl rfl rfl) ?_
 refine Lo u6 (Zb (.inl rfl) rfl) ?_
 refine Zn rfl rfl rfl (by exact patterns_top l hn hr hR A g K hs hI) ?_
 rintro _ _ ⟨b, A1, J, rfl, rfl, hk⟩
 refine Le u6 ?_
 refine Zf ?_
 refine YG (.inl rfl) (Y0 rfl) ?_
 exact ⟨b, A1, J, rfl, hk⟩
theorem Patterns_spec {x : SW} (H : Ze) {u y : Nat} {ws : List (BitVec 64)} {rss : List (List Rul)} (hy : y < H.length) : F (psys x) 75 [huP (u : Nat) (fzW ws) (fzRR rss) y] H fun v G => v = .func 113 [] [.fptr [huP (u : Nat) (fzW ws) (fzRR rss) y] 0] ∧ G = H := by
 refine Zr Tryd.func75 rfl u4 rfl ?_
 refine Zd (Za ?_)
 refine Lo u4 (Zy rfl rfl rfl) ?_
 refine Lo u4 (Zg (VVal.nilFunc) (.inr rfl) rfl) ?_
 refine Zf (Zc (Zd (Za ?_)))
 refine L_gh (Gh.freezePtrL (cs := [huP (u : Nat) (fzW ws) (fzRR rss) y]) 1 0 rfl rfl rfl) ?_
 refine Lo u4 (v_func [_] rfl rfl) ?_
 refine Lo u4 (Zb (.inr rfl) rfl) ?_
 refine Zf (Zc (Zl ?_))
 refine W4w (.inr rfl) (Zi rfl rfl) ?_
 exact ⟨rfl, rfl⟩
theorem W50 {P : Prop} (h : P := by first | exact ⟨true, A0, _, List.append_assoc _ _ _, hI⟩ | exact ⟨false, A0, _, List.append_assoc _ _ _, hX⟩) : P := h
theorem W51 {S : V.Sys} {H : Ze} {fn : Func} {ex : Exit} {env : VEnv} {B L : Ze} {v : VVal} {R : VVal → Ze → Prop} (hx : ex = .normal ∨ ex = .ret) (hv : ZZ S.C.T env (B ++ L) fn.results = some v) (h : R v B) (hB : BaseOk H B := by exact XH54) (hu : v.under H.length = true := by show (true && (VVal.underL _ (pbB p) && true)) = true; rw [show VVal.underL _ (pbB p) = true from pb_under (p := p)]; rfl) : fnK S fn H R ex env (B ++ L) := YE hx hv hB hu h
def ptP (p : Pb) : List (List Nat) := if pck p = 0 then (ptT (kpB (wsP p) (Yg p)) (kpG p.users.toNat (wsP p) (Yg p)) (wsP p).length [] 0).1.map Prod.snd else []
abbrev fvP (p : Pb) (a : List Nat) : List VVal := [fzN a, fzW (Ya (wsP p) a a.length)]
theorem Yt {p : Pb} {a : List Nat} (h : a ∈ ptP p) : pck p = 0 ∧ Pat a ∧ a.length = p.who.length ∧ a ∈ pats p.who.length [] 0 ∧ keptN (kpB (wsP p) (Yg p)) 0 a = true := by
  unfold ptP at h
  split at h
  · rename_i h0
    rw [ptT_snd, List.mem_filter, Ys] at h
    obtain ⟨z, hz, hl⟩ := pats_len h.1
    rw [List.nil_append] at hz; subst hz
    exact ⟨h0, pats_pat Pat_nil h.1, hl, h.1, h.2⟩
  · cases h
theorem tpat1_bad {x : SW} (l : Nat) (p : Pb) (hpl : PbL p) (A : Ze) (K : Bool → Ze → Prop) (hI : IterJ (psys x) l ((ptP p).map (fvP p)) A K) (hb : ¬ pck p = 0) : F (psys x) 92 [.yield l, .fptr (pbB p) 0] A fun v G => ∃ b A1 J, G = A1 ++ J ∧ K b A1 := by
 refine Zr Tryd.func92 rfl u22 rfl ?_
 refine Zd (Za ?_)
 refine Lo u22 (Zy rfl rfl rfl) ?_
 refine Zf (Zc (Zd (Zd ?_)))
 refine Yp (Gh.freezePtrL (cs := [.yield l]) 2 0 rfl rfl rfl) ?_
 refine Za ?_
 refine Lo u22 (W4h rfl rfl rfl rfl rfl) ?_
 refine Zn rfl rfl rfl (by exact Y8 _ p hpl) ?_
 rintro _ _ ⟨rfl, rfl⟩
 refine Le u22 ?_
 refine Lo u22 (Yy true rfl (by simp [hb])) ?_
 refine Zf (Zc ?_)
 refine Z0 rfl rfl ?_
 refine Zl (Zt ?_)
 refine YG (.inr rfl) (Y0 rfl) ?_
 exact ⟨true, A, _, rfl, by rw [show ptP p = [] from if_neg hb] at hI; exact hI⟩
theorem tpat1_ok {x : SW} (l : Nat) (p : Pb) (hpl : PbL p) (A : Ze) (K : Bool → Ze → Prop) (hI : IterJ (psys x) l ((ptP p).map (fvP p)) A K) (h0 : pck p = 0) : F (psys x) 92 [.yield l, .fptr (pbB p) 0] A fun v G => ∃ b A1 J, G = A1 ++ J ∧ K b A1 := by
 have hg : Go.V.Good p := pck_good.1 h0
 have hn : (wsP p).length ≤ 1000000 := by rw [Ys]; exact hpl.w
 rw [show ptP p = (ptT (kpB (wsP p) (Yg p)) (kpG p.users.toNat (wsP p) (Yg p)) (wsP p).length [] 0).1.map Prod.snd from if_pos h0] at hI
 have hT : ∀ q, q ∈ (ptT (kpB (wsP p) (Yg p)) (kpG p.users.toNat (wsP p) (Yg p)) (wsP p).length [] 0).1 → Pat q.2 ∧ q.2.length = (wsP p).length := fun q hq => by
    have h9 : q.2 ∈ ptP p := by rw [show ptP p = (ptT (kpB (wsP p) (Yg p)) (kpG p.users.toNat (wsP p) (Yg p)) (wsP p).length [] 0).1.map Prod.snd from if_pos h0]; exact List.mem_map_of_mem hq
    have h8 := Yt h9
    exact ⟨h8.2.1, by rw [Ys]; exact h8.2.2.1⟩
 refine Zr Tryd.func92 rfl u22 rfl ?_
 refine Zd (Za ?_)
 refine Lo u22 (Zy rfl rfl rfl) ?_
 refine Zf (Zc (Zd (Zd ?_)))
 refine Yp (Gh.freezePtrL (cs := [.yield l]) 2 0 rfl rfl rfl) ?_
 refine Za ?_
 refine Lo u22 (W4h rfl rfl rfl rfl rfl) ?_
 refine Zn rfl rfl rfl (by exact Y8 _ p hpl) ?_
 rintro _ _ ⟨rfl, rfl⟩
 refine Le u22 ?_
 refine Lo u22 (Yy false rfl (by rw [h0]; rfl)) ?_
 refine Zf (Zc ?_)
 refine ZV rfl rfl ?_
 refine Zk (Zc (Zd (Za ?_)))
 refine Lo u22 (W4h rfl rfl rfl rfl rfl) ?_
 refine Lo u22 (rfl) ?_
 refine Lo u22 (Zy rfl rfl rfl) ?_
 refine Zn rfl rfl rfl (by exact New_N _ p (A.length + 1) (by simp) hg) ?_
 rintro _ _ ⟨rfl, rfl⟩
 refine Le u22 ?_
 refine Lo u22 (ZA rfl rfl) ?_
 refine Lo u22 (W13 rfl rfl rfl rfl rfl rfl rfl) ?_
 refine Zf (Zc (Zd ?_))
 refine Yp (Gh.freezePtrL (cs := [huP (p.users.toNat : Nat) (fzW (wsP p)) (fzRR (Yg p)) (A.length + 1)]) 3 2 rfl rfl rfl) ?_
 refine Za ?_
 refine Lo u22 (W40 rfl rfl rfl rfl) ?_
 refine Zn rfl rfl rfl (by exact Patterns_spec _ (by simp)) ?_
 rintro _ _ ⟨rfl, rfl⟩
 refine Le u22 ?_
 refine Zf (Zc (Zj ?_))
 refine ZC (mk 22 4186099) (env' := u22) rfl ?_
 refine B_rangePJ ((A.length + 1)) (tv (ptT (kpB (wsP p) (Yg p)) (kpG p.users.toNat (wsP p) (Yg p)) (wsP p).length [] 0)) ((ptT (kpB (wsP p) (Yg p)) (kpG p.users.toNat (wsP p) (Yg p)) (wsP p).length [] 0).2) (fun l0 h => by cases h) rfl (fun l9 G9 K9 hg9 hI9 => Patterns1_spec l9 hn rssP_len (rssP_ok hg) G9 _ K9 hg9.choose_spec hI9) (σ := {q : Ze × Gz // q.1.length = A.length}) (fun k s => s.1.1 ++ [.dead, gaB s.1.2, .dead, k]) ⟨(A, 0), rfl⟩ (fun k => by simp; rfl) (fun k s => by simp [s.2]) (fun k s => by rw [show (A ++ _ : Ze).length = A.length + 3 by simp]; exact ZB s.2 rfl) (fun k k1 s => by rw [show (A ++ _ : Ze).length = A.length + 3 by simp]; exact ZF s.2) (fun s => s.1.2) (fun d s => ⟨(s.1.1, s.1.2 + d), s.2⟩) (fun pre s => ∃ z, tv (ptT (kpB (wsP p) (Yg p)) (kpG p.users.toNat (wsP p) (Yg p)) (wsP p).length [] 0) = pre ++ tv (z, (ptT (kpB (wsP p) (Yg p)) (kpG p.users.toNat (wsP p) (Yg p)) (wsP p).length [] 0).2) ∧ (∀ q, q ∈ z → Pat q.2 ∧ q.2.length = (wsP p).length) ∧ IterJ (psys x) l ((z.map Prod.snd).map (fvP p)) s.1.1 K) (fun k s pre hI => by exact ZB s.2 rfl) (fun k s d pre hI => by exact ZF s.2) ?_ (fun j pre c s => (j = Code.ret ∧ (K false s.1.1))) rfl ?_ ?_ ?_
 ·exact ⟨(ptT (kpB (wsP p) (Yg p)) (kpG p.users.toNat (wsP p) (Yg p)) (wsP p).length [] 0).1, rfl, hT, hI⟩
 ·intro pre d c post s hx hI Lp kr kb hkr hkb
  obtain ⟨⟨A0, g0⟩, hA0⟩ := s
  try dsimp only at hI ⊢
  have hA0 : A0.length = A.length := hA0
  obtain ⟨z, hz, hzl, hI⟩ := hI
  obtain ⟨a, z, rfl, rfl⟩ : ∃ us z1, z = (d, us) :: z1 ∧ c = fzN us := tv_cons (List.append_cancel_left (hz.symm.trans hx))
  obtain ⟨hpa, hal⟩ := hzl _ (List.mem_cons_self ..)
  have hal : a.length = (wsP p).length := hal; have hpa : Pat a := hpa
  refine ZU (env' := u22) rfl ?_
  refine Za ?_
  refine Lo u22 (Zb (.inr rfl) rfl) ?_
  refine Zf ?_
  refine ⟨rfl, ⟨(A0, g0 + d), hA0⟩, rfl, ?_⟩
  try dsimp only
  refine Yi (H' := A0 ++ ([.dead, gaB (g0 + d), .dead, kb] ++ Lp)) (by simp) ?_
  refine Zj (Zd ?_)
  refine B_drawP #[0, 0, 0, 0, 12, 31, 63] XH6 ?_
  refine P_seg [0, 1, 2, 3, 4] (bef := #[0, 0, 0, 0, 12, 31, 63]) XH6 XH6 XH6 ?_
  refine Yh (env' := u22) (x := .look _ _) rfl rfl rfl (W40 rfl rfl rfl rfl) rfl rfl rfl ?_
  refine Oo u22 .calm rfl (Zb (.inl rfl) rfl) ?_
  refine Oo u22 .look rfl (W40 rfl rfl rfl rfl) ?_
  refine Oo u22 .calm rfl (Zb (.inl rfl) rfl) ?_
  refine Yf (env' := u22) rfl rfl rfl rfl rfl (by exact hBlocks_spec _ _ _ hpa (by omega) hn) XH9 rfl rfl ?_
  refine Z3 [_] (by rfl) (And.intro (And.intro (W40 rfl rfl rfl rfl) (W40 rfl rfl rfl rfl)) trivial) ?_
  refine P_piv 5 (bef := #[0, 0, 0, 0, 12, 31, 63]) XH6 XH6 rfl rfl rfl rfl (by exact hI _) ?_
  rintro _ _ ⟨b1, A2, J2, rfl, rfl, hA2, hk⟩; have hA3 : A2.length = A.length := hA2.trans hA0
  refine P_env (env' := u22) rfl ?_
  refine P_seg [6] (bef := #[0, 0, 0, 0, 12, 31, 63]) XH6 XH6 XH6 ?_
  refine Oo u22 .calm rfl (rfl) ?_
  refine Z3 [] XH6 (trivial) ?_
  refine P_end XH6 ?_
  refine Zc ?_
  refine Zo _ rfl (fun hc1 => ?_) (fun hc1 => ?_)
  ·try simp only [qB, qN] at hc1
   have hb : b1 = false := by simpa using hc1
   subst hb
   have hk3 : K false A2 := hk
   refine Zl (ZX ?_)
   refine ⟨⟨(A2, g0 + d), hA3⟩, J2, (by simp), .inr ⟨Code.ret, rfl, ⟨rfl, ?_⟩⟩⟩
   exact hk3
  ·try simp only [qB, qN] at hc1
   have hb : b1 = true := by simpa using hc1
   subst hb
   have hk3 : IterJ (psys x) l ((z.map Prod.snd).map (fvP p)) A2 K := hk
   refine Zk (Zu ?_)
   refine ⟨⟨(A2, g0 + d), hA3⟩, J2, (by simp), .inl ⟨rfl, ?_⟩⟩
   exact ⟨z, by rw [hz, List.append_assoc]; rfl, fun q hq => hzl q (List.mem_cons_of_mem _ hq), hk3⟩
 ·intro s k hk hI J9
  obtain ⟨⟨A0, g0⟩, hA0⟩ := s
  try dsimp only at hI ⊢
  obtain ⟨z, hz, hzl, hI⟩ := hI
  obtain rfl := tv_nil hz
  have hI : K true A0 := hI
  refine Zu ?_
  refine YG (.inl rfl) (Y0 rfl) ?_
  exact W50
 ·rintro j pre c post s k hk hx (⟨rfl, hX⟩) J9
  obtain ⟨⟨A0, g0⟩, hA0⟩ := s
  try dsimp only
  refine J_ret ?_
  refine ZX ?_
  refine YG (.inr rfl) (Y0 rfl) ?_
  exact W50
theorem tpat1_spec {x : SW} (l : Nat) (p : Pb) (hpl : PbL p) (A : Ze) (K : Bool → Ze → Prop) (hI : IterJ (psys x) l ((ptP p).map (fvP p)) A K) : F (psys x) 92 [.yield l, .fptr (pbB p) 0] A fun v G => ∃ b A1 J, G = A1 ++ J ∧ K b A1 := by
  by_cases h : pck p = 0
  · exact tpat1_ok l p hpl A K hI h
  · exact tpat1_bad l p hpl A K hI h
theorem tpat_spec {x : SW} (H : Ze) (p : Pb) : F (psys x) 57 [.agg (pbB p)] H fun v G => v = .func 92 [] [.fptr (pbB p) 0] ∧ G = H := by
 refine Zr Tryd.func57 rfl u4 rfl ?_
 refine Zd (Za ?_)
 refine Lo u4 (Zy rfl rfl rfl) ?_
 refine Lo u4 (Zg (VVal.nilFunc) (.inr rfl) rfl) ?_
 refine Zf (Zc (Zd (Za ?_)))
 refine L_gh (Gh.freezePtrL (cs := pbB p) 1 0 rfl rfl rfl) ?_
 refine Lo u4 (v_func [_] rfl rfl) ?_
 refine Lo u4 (Zb (.inr rfl) rfl) ?_
 refine Zf (Zc (Zl ?_))
 refine W51 (.inr rfl) (Zi rfl rfl) ?_
 exact ⟨rfl, rfl⟩
end Go.Proofs.YtenkjadobkjaeaaDoor.VT
