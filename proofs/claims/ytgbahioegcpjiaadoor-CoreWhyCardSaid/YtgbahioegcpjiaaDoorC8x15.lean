/- Proved: Rows.CoreWhyCardSaid, the statement CoreWhy with its card, of the given program at the commit; no conditions beyond those in the statement. -/
import Derived.Test.YtgbahioegcpjiaaDoorC8x14
set_option autoImplicit false
set_option linter.unusedVariables false
set_option linter.unusedSimpArgs false
set_option maxHeartbeats 4000000
set_option maxRecDepth 100000
namespace Go.Proofs.YtgbahioegcpjiaaDoor.VT
open Go Go.V Go.RowKit
abbrev u49 {a0 a1 a2 a3 a4 a5 a6 a7 a8 a9 a10 a11 a12 a13 a14 a15 a16 a17 a18 a19 a20 a21 a22 a23 a24 a25 a26 a27 a28 a29 a30 a31 a32 a33 a34 a35 a36 a37 a38 a39 a40 a41 a42 a43 a44 a45 a46 a47 a48 : VVal} : VEnv := a0 :: a1 :: a2 :: a3 :: a4 :: a5 :: a6 :: a7 :: a8 :: a9 :: a10 :: a11 :: a12 :: a13 :: a14 :: a15 :: a16 :: a17 :: a18 :: a19 :: a20 :: a21 :: a22 :: a23 :: a24 :: a25 :: a26 :: a27 :: a28 :: a29 :: a30 :: a31 :: a32 :: a33 :: a34 :: a35 :: a36 :: a37 :: a38 :: a39 :: a40 :: a41 :: a42 :: a43 :: a44 :: a45 :: a46 :: a47 :: a48 :: []
theorem W6z {T : TypeId → Option VTy} {H : Zf} {op : Op} {ρ : Operand → VVal} {t : TypeId} {a : Operand} {y : VTy} {p v : VVal} (ho : op = .load t a) (ha : ρ a = p) (hy : T t = some y) (hd : Zm y.desc = false) (h : LdOk H p v := by first | exact .inl ⟨_, _, rfl, XH45⟩ | exact .inr ⟨_, _, _, _, rfl, by exact Zo (wh_at (n := 3) rfl), XH45⟩) : vop T ρ H op = some (v, H) := Yu ho ha hy hd h
theorem W70 {T : TypeId → Option VTy} {H : Zf} {op : Op} {ρ : Operand → VVal} {t : TypeId} {a : Operand} {y : VTy} {p v : VVal} (ho : op = .load t a) (ha : ρ a = p) (hy : T t = some y) (hd : Zm y.desc = false) (h : LdOk H p v := by first | exact .inl ⟨_, _, rfl, XH45⟩ | exact .inr ⟨_, _, _, _, rfl, by exact Zo (wh_at (n := 4) rfl), XH45⟩) : vop T ρ H op = some (v, H) := Yu ho ha hy hd h
theorem W72 {T : TypeId → Option VTy} {H : Zf} {op : Op} {ρ : Operand → VVal} {t : TypeId} {a : Operand} {y : VTy} {p v : VVal} (ho : op = .load t a) (ha : ρ a = p) (hy : T t = some y) (hd : Zm y.desc = false) (h : LdOk H p v := by first | exact .inl ⟨_, _, rfl, XH45⟩ | exact .inr ⟨_, _, _, _, rfl, by exact Zo (wh_at (n := 2) rfl), XH45⟩) : vop T ρ H op = some (v, H) := Yu ho ha hy hd h
theorem W73 {S : V.Sys} {H : Zf} {fn : Func} {ex : Exit} {env : VEnv} {B L : Zf} {v : VVal} {R : VVal → Zf → Prop} (hx : ex = .normal ∨ ex = .ret) (hv : ZT S.C.T env (B ++ L) fn.results = some v) (h : R v B) (hB : BaseOk H B := by exact wh_base) (hu : v.under H.length = true := by exact XH50) : fnK S fn H R ex env (B ++ L) := YZ hx hv hB hu h
theorem W74 {T : TypeId → Option VTy} {H : Zf} {op : Op} {ρ : Operand → VVal} {t : TypeId} {a : Operand} {y : VTy} {p v : VVal} (ho : op = .load t a) (ha : ρ a = p) (hy : T t = some y) (hd : Zm y.desc = false) (h : LdOk H p v := by first | exact .inl ⟨_, _, rfl, XH45⟩ | exact .inr ⟨_, _, _, _, rfl, by first | exact wh_at (n := 3) rfl | exact Zo (wh_at (n := 3) rfl), XH45⟩) : vop T ρ H op = some (v, H) := Yu ho ha hy hd h
theorem W75 {T : TypeId → Option VTy} {H : Zf} {op : Op} {ρ : Operand → VVal} {t : TypeId} {a : Operand} {y : VTy} {p v : VVal} (ho : op = .load t a) (ha : ρ a = p) (hy : T t = some y) (hd : Zm y.desc = false) (h : LdOk H p v := by first | exact .inl ⟨_, _, rfl, XH45⟩ | exact .inr ⟨_, _, _, _, rfl, by exact wh_at (n := 3) rfl, XH45⟩) : vop T ρ H op = some (v, H) := Yu ho ha hy hd h
theorem W78 {T : TypeId → Option VTy} {H : Zf} {op : Op} {ρ : Operand → VVal} {t : TypeId} {a : Operand} {y : VTy} {p v : VVal} (ho : op = .load t a) (ha : ρ a = p) (hy : T t = some y) (hd : Zm y.desc = false) (h : LdOk H p v := by first | exact .inl ⟨_, _, rfl, XH45⟩ | exact .inr ⟨_, _, _, _, rfl, by first | exact wh_at (n := 4) rfl | exact Zo (wh_at (n := 4) rfl), XH45⟩) : vop T ρ H op = some (v, H) := Yu ho ha hy hd h
theorem W79 {T : TypeId → Option VTy} {H : Zf} {op : Op} {ρ : Operand → VVal} {t : TypeId} {a : Operand} {y : VTy} {p v : VVal} (ho : op = .load t a) (ha : ρ a = p) (hy : T t = some y) (hd : Zm y.desc = false) (h : LdOk H p v := by first | exact .inl ⟨_, _, rfl, XH45⟩ | exact .inr ⟨_, _, _, _, rfl, by exact wh_at (n := 4) rfl, XH45⟩) : vop T ρ H op = some (v, H) := Yu ho ha hy hd h
def stW (p : Pb) (a c : List Nat) : Bool := !(leA (woP p (zI a) (zI c))).isSome
def whA (p : Pb) : List Nat × List Nat := gr (fun l => stW p l []) p.rules.length
def whC (p : Pb) : List Nat × List Nat := gr (fun l => stW p (whA p).1 l) p.who.length
def whB (p : Pb) : Bool := decide (pck p = 0) && !(leA p).isSome
def whV (p : Pb) : VVal := if whB p = true then .tuple [fzN (whA p).2, fzN (whC p).2, .bool true] else .tuple [fzN [], fzN [], .bool false]
def whH (H : Zf) (g : Gz) (a b c d : VVal) : Zf := H ++ [.dead, gaB g, .cells [.ptr (some (H.length + 1, 0))] true, .cells [a, b] true, .cells [c, d] true]
abbrev stV (H : Zf) (p : Pb) : VVal := .func 66 [] [.fptr (pbB p) 0, .ptr (some (H.length + 3, 0)), .ptr (some (H.length + 4, 0)), .ptr (some (H.length + 2, 0))]
section
variable {H X : Zf} {g : Gz} {a b c d w : VVal}
theorem wh_len : (whH H g a b c d).length = H.length + 5 := by unfold whH; rw [List.length_append]; rfl
theorem wh_at {n : Nat} {k : VBlk} (hk : [VBlk.dead, gaB g, .cells [.ptr (some (H.length + 1, 0))] true, .cells [a, b] true, .cells [c, d] true][n]? = some k) : (whH H g a b c d ++ X)[H.length + n]? = some k := by
  unfold whH; rw [List.append_assoc]; exact ZJ rfl (Zo hk)
theorem wh_setg {g' : Gz} : (whH H g a b c d ++ X).set (H.length + 1) (gaB g') = whH H g' a b c d ++ X := by
  unfold whH; rw [List.append_assoc, ZP rfl, List.append_assoc]; rfl
theorem wh_set0 : (whH H g a b c d ++ X).set (H.length + 3) (.cells (ZE [a, b] (0 + 0) [w]) true) = whH H g w b c d ++ X := by
  unfold whH; rw [List.append_assoc, ZP rfl, List.append_assoc]; rfl
theorem wh_set1 : (whH H g a b c d ++ X).set (H.length + 3) (.cells (ZE [a, b] (0 + 1) [w]) true) = whH H g a w c d ++ X := by
  unfold whH; rw [List.append_assoc, ZP rfl, List.append_assoc]; rfl
theorem wh_set2 : (whH H g a b c d ++ X).set (H.length + 4) (.cells (ZE [c, d] (0 + 0) [w]) true) = whH H g a b w d ++ X := by
  unfold whH; rw [List.append_assoc, ZP rfl, List.append_assoc]; rfl
theorem wh_set3 : (whH H g a b c d ++ X).set (H.length + 4) (.cells (ZE [c, d] (0 + 1) [w]) true) = whH H g a b c w ++ X := by
  unfold whH; rw [List.append_assoc, ZP rfl, List.append_assoc]; rfl
theorem wh_rd {l : List Nat} (r : RV (H.length + 5) X w (rcN l)) : RD (whH H g a b c d ++ X) w (zI l) := RD.of_rv (by rw [wh_len]; exact r)
end
theorem gr_yes {st : List Nat → Bool} {n : Nat} (h : st ((gr st n).1 ++ [n]) = true) : gr st (n + 1) = ((gr st n).1 ++ [n], (gr st n).2) := by rw [gr_succ, if_pos h]
theorem gr_no {st : List Nat → Bool} {n : Nat} (h : st ((gr st n).1 ++ [n]) = false) : gr st (n + 1) = ((gr st n).1, (gr st n).2 ++ [n]) := by rw [gr_succ, if_neg (by rw [h]; decide)]
theorem LV.pushN {h : Nat} {X : Zf} {v : VVal} {l : List Nat} {n : Nat} (r : LV h 1 X v (rcN l ++ [iI (n : Nat)]) (l.length + 1)) : LV h 1 X v (rcN (l ++ [n])) (l ++ [n]).length := by
  rw [rcN_snoc, List.length_append]; exact r
theorem wh_base {H X : Zf} {g g1 : Gz} {a b c d : VVal} : BaseOk (whH H g a b c d ++ X) (whH H g1 a b c d ++ X) := by
  have := BaseOk.set (BaseOk.refl (whH H g a b c d ++ X)) (H.length + 1) (k := gaB g1) rfl
  rw [wh_setg] at this; exact this
theorem fzI_N {l : List Nat} : fzN l = fzI (zI l) := fzN_is l
theorem Why1_spec {x : SW} (H X : Zf) (g : Gz) (a b c d : VVal) (p : Pb) (hp : PbL p) (l m : List Nat) (hl : RD (whH H g a b c d ++ X) a (zI l)) (hm : RD (whH H g a b c d ++ X) c (zI m)) (h1 : l.length ≤ 1000) (h2 : m.length ≤ 1000) : F (psys x) 66 [.fptr (pbB p) 0, .ptr (some (H.length + 3, 0)), .ptr (some (H.length + 4, 0)), .ptr (some (H.length + 2, 0))] (whH H g a b c d ++ X) fun v G => v = .bool (stW p l m) ∧ ∃ g1, G = whH H g1 a b c d ++ X := by
 refine Zt Tryd.func66 rfl u20 rfl ?_
 refine Zd (Za ?_)
 refine Lo u20 (Zg (VVal.bool false) (.inr rfl) rfl) ?_
 refine Ze (Zc (Zd (Za ?_)))
 refine Lo u20 (W52 rfl rfl rfl rfl rfl) ?_
 refine Lo u20 (rfl) ?_
 refine Lo u20 (W6z rfl rfl rfl rfl) ?_
 refine Lo u20 (rfl) ?_
 refine Lo u20 (W70 rfl rfl rfl rfl) ?_
 refine Zs rfl rfl rfl (by exact Without_spec _ p a c (zI l) (zI m) hp (by first | exact hl | exact hl.app _) (by first | exact hm | exact hm.app _) (by rw [zI_len]; omega) (by rw [zI_len]; omega)) ?_
 rintro _ _ ⟨rfl, rfl⟩
 refine Le u20 ?_
 refine Lo u20 (Zb (.inl rfl) rfl) ?_
 refine Lo u20 (rfl) ?_
 refine Lo u20 (rfl) ?_
 refine Lo u20 (ZG rfl rfl) ?_
 refine Lo u20 (W13 rfl rfl rfl rfl rfl rfl rfl) ?_
 refine Lo u20 (Zb (.inr rfl) rfl) ?_
 refine Ze (Zc (Zd (Za ?_)))
 refine Lo u20 (W72 rfl rfl rfl rfl) ?_
 refine Lo u20 (W52 rfl rfl rfl rfl rfl) ?_
 refine Zs rfl rfl rfl (by exact Can_spec _ (H.length + 1) g (Zo (wh_at (n := 1) rfl)) (woP p (zI l) (zI m)) (woP_L hp)) ?_
 rintro _ _ ⟨rfl, rfl⟩; rw [Ya (by rw [List.length_append, wh_len]; omega), wh_setg]
 refine Le u20 ?_
 refine Lo u20 (rfl) ?_
 refine Lo u20 (Zb (.inr rfl) rfl) ?_
 refine Ze (Zc (Zl ?_))
 refine W73 (.inr rfl) (Zh rfl rfl) ?_
 exact ⟨rfl, _, rfl⟩
theorem tryR_spec {x : SW} (H : Zf) (g : Gz) (p : Pb) (hp : PbL p) (X : Zf) (n : Nat) (hn : n ≤ 900) (st : List Nat → Bool) (hst : st = fun l => stW p l []) : F (psys x) 67 [.ptr (some (H.length + 3, 0)), iI (n : Nat), stV H p] (whH H g niS niS niS niS ++ X) fun v G => ∃ X g1 rv lv, G = whH H g1 rv lv niS niS ++ X ∧ RV (H.length + 5) X rv (rcN (gr st n).1) ∧ LV (H.length + 5) 1 X lv (rcN (gr st n).2) (gr st n).2.length ∧ Dj lv rv := by
 refine Zt Tryd.func67 rfl u49 rfl ?_
 refine Zd (Za ?_)
 refine Lo u49 (Zb (.inl rfl) rfl) ?_
 refine Lo u49 (Zg (VVal.int .i64 0) (.inl rfl) rfl) ?_
 refine Ze (Zc (Zi ?_))
 refine Zu (mk 49 562949953420922) (env' := u49) rfl ?_
 refine Zx (fun (i : Nat) => n - i) (fun (i : Nat) => [(8, iI (i : Nat))]) (fun (i : Nat) G => (i ≤ n) ∧ ∃ X g1 rv lv, G = whH H g1 rv lv niS niS ++ X ∧ RV (H.length + 5) X rv (rcN (gr st i).1) ∧ LV (H.length + 5) 1 X lv (rcN (gr st i).2) (gr st i).2.length ∧ Dj lv rv) 0 rfl ?_ ?_
 ·refine ⟨?_, ⟨X, g, niS, niS, List.append_nil _, RV.nil _ _, LV.nil _ _ _, fun n h => by cases h⟩⟩
  exact Nat.zero_le _
 rintro i _ ⟨hi, ⟨X, g, rv, lv, rfl, hR, hL, hD⟩⟩
 refine ZO (env' := u49) rfl ?_
 have hgl := @gr_len st i
 have hRl := hR.lt
 refine Zd (Za ?_)
 refine Lo u49 (rfl) ?_
 refine Ze (Zc (Zd ?_))
 refine Zk _ rfl (fun hc1 => ?_) (fun hc1 => ?_)
 ·try simp only [qB, qN] at hc1
  refine Zj (Zc (Zd (Zi (Zd (Za ?_)))))
  refine Lo u49 (Zb (.inl rfl) rfl) ?_
  refine Lo u49 (Zb (.inr rfl) rfl) ?_
  refine Ze (Zc (Zd (Za ?_)))
  refine Lo u49 (Zb (.inl rfl) rfl) ?_
  refine Lo u49 (Zb (.inl rfl) rfl) ?_
  refine Lo u49 (rfl) ?_
  refine Lo u49 (rfl) ?_
  refine Lo u49 (W74 rfl rfl rfl rfl) ?_
  refine Lo u49 (Zb (.inl rfl) rfl) ?_
  refine Lo u49 (Zr rfl rfl (by decide) rfl) ?_
  refine Yt rfl rfl (v_rvAppK rfl rfl rfl rfl rfl rfl rfl rfl (by rw [wh_len]; exact hR) rfl (by rw [List.length_map]; show ((gr st i).1.length + 1) * 8 ≤ _ ∧ _; omega)) ?_
  rintro v2 _ ⟨Y2, rfl, hR1, hF⟩; rw [wh_len] at hR1 hF; have hR2 : RV (H.length + 5) Y2 v2 (rcN ((gr st i).1 ++ [i])) := by rw [rcN_snoc]; exact hR1
  obtain ⟨hL2, hD2⟩ := hF.keep hL hD
  refine Le u49 ?_
  refine Lo u49 (rfl) ?_
  refine Lo u49 (rfl) ?_
  refine Lo u49 (ZZ rfl rfl rfl rfl hR2.cells rfl (by simp [hR2.one]) (wh_at (n := 3) rfl) (Nat.le_of_ble_eq_true rfl) wh_set0) ?_
  refine Ze (Zc (Zd (Za ?_)))
  refine Lo u49 (Zb (.inl rfl) rfl) ?_
  refine Zs rfl rfl rfl (by exact Why1_spec H Y2 _ _ _ _ _ p hp ((gr st i).1 ++ [i]) [] (wh_rd hR2) (RD.nil _) XH22 XH22) ?_
  rintro _ _ ⟨rfl, g2, rfl⟩
  refine Le u49 ?_
  refine Lo u49 (rfl) ?_
  refine Ze (Zc ?_)
  refine Zk _ rfl (fun hc2 => ?_) (fun hc2 => ?_)
  ·try simp only [qB, qN] at hc2
   have hs1 : st ((gr st i).1 ++ [i]) = false := (congrFun hst _).trans (by simpa using hc2)
   refine Zd ?_
   refine ZW [0, 1, 2, 3, 4, 5, 6, 7, 8, 9, 10, 11, 12, 13, 14] #[0, 0, 2, 6, 14, 0, 32, 96, 224, 480, 992, 2046, 4095, 8191, 16383] XH3 XH3 XH3 ?_
   refine Oo u49 .calm rfl (Zb (.inl rfl) rfl) ?_
   refine Oo u49 .calm rfl (Zb (.inl rfl) rfl) ?_
   refine Oo u49 .calm rfl (rfl) ?_
   refine Oo u49 .calm rfl (rfl) ?_
   refine Oo u49 .look rfl (W75 rfl rfl rfl rfl) ?_
   refine Oo u49 .calm rfl (Zb (.inl rfl) rfl) ?_
   refine Oo u49 .calm rfl (rfl) ?_
   refine Oo u49 .calm rfl (rfl) ?_
   refine Oo u49 .look rfl (W75 rfl rfl rfl rfl) ?_
   refine Oo u49 .look rfl (v_lenN rfl rfl rfl rfl hR2) ?_
   refine Oo u49 .calm rfl (W46 rfl rfl rfl) ?_
   refine O_opX .calm rfl rfl rfl (v_rvCutK rfl rfl rfl rfl rfl rfl rfl (by simp) wh_len.symm hR2 _) rfl rfl ?_
   rintro v4 _ ⟨rfl, hR3, hi4⟩; have hD3 : Dj lv v4 := fun n h => by rw [hi4]; exact hD2 n h
   refine O_env (env' := u49) rfl ?_
   refine Oo u49 .calm rfl (rfl) ?_
   refine Oo u49 .calm rfl (rfl) ?_
   refine Oo u49 .turn rfl (ZZ rfl rfl rfl rfl hR3.cells rfl (by simp [hR3.one]) (wh_at (n := 3) rfl) (Nat.le_of_ble_eq_true rfl) wh_set0) ?_
   refine ZQ [] XH3 (trivial) ?_
   refine Zc (Za ?_)
   refine Lo u49 (Zb (.inl rfl) rfl) ?_
   refine Lo u49 (Zb (.inl rfl) rfl) ?_
   refine Lo u49 (rfl) ?_
   refine Lo u49 (rfl) ?_
   refine Lo u49 (W75 rfl rfl rfl rfl) ?_
   refine Lo u49 (Zb (.inl rfl) rfl) ?_
   refine Lo u49 (Zr rfl rfl (by decide) rfl) ?_
   refine Yt rfl rfl (Ys rfl rfl rfl rfl rfl rfl rfl wh_len hL2 rfl rfl (by decide) (by show ((gr st i).2.length + 1) * 8 ≤ _ ∧ _; omega) (by decide)) ?_
   rintro _ _ ⟨Y3, rfl, rfl, hY1, hY2, hL3⟩; have hR4 := hR3.keepL (Z := [.cells [iI (i : Nat)] true, .cells (rcN (gr st i).2 ++ [iI (i : Nat)]) true]) hL2 hD3 hY1 hY2; have hD4 := RV.far (m := Y2.length + 1) (n := (gr st i).2.length + 1) (c := (gr st i).2.length + 1) (e2 := 1) (o := 0) (ex := false) hR3 (Nat.le_succ _)
   refine Le u49 ?_
   refine Lo u49 (rfl) ?_
   refine Lo u49 (rfl) ?_
   refine Lo u49 (ZZ rfl rfl rfl rfl hL3.cells rfl (by simp [hL3.one]) (wh_at (n := 3) rfl) (Nat.le_of_ble_eq_true rfl) wh_set1) ?_
   refine Ze (Zy (Zc (Za ?_)))
   refine Lo u49 (W14 rfl rfl rfl) ?_
   refine Lo u49 (Zb (.inl rfl) rfl) ?_
   refine Ze ?_
   refine Zw (mk 49 562949953420922) (env' := u49) rfl ⟨i + 1, ?_, rfl, ?_⟩
   ·first | omega | (simp only []; omega)
   ·first | exact ⟨by omega, _, _, _, _, rfl, by rw [gr_yes hs1]; exact hR2, by rw [gr_yes hs1]; exact hL2, hD2⟩ | exact ⟨by omega, _, _, _, _, rfl, by rw [gr_no hs1]; exact hR4, by rw [gr_no hs1]; exact LV.pushN hL3, hD4⟩
  ·try simp only [qB, qN] at hc2
   have hs1 : st ((gr st i).1 ++ [i]) = true := (congrFun hst _).trans (by simpa using hc2)
   refine Zj (Zy (Zc (Za ?_)))
   refine Lo u49 (W14 rfl rfl rfl) ?_
   refine Lo u49 (Zb (.inl rfl) rfl) ?_
   refine Ze ?_
   refine Zw (mk 49 562949953420922) (env' := u49) rfl ⟨i + 1, ?_, rfl, ?_⟩
   ·first | omega | (simp only []; omega)
   ·first | exact ⟨by omega, _, _, _, _, rfl, by rw [gr_yes hs1]; exact hR2, by rw [gr_yes hs1]; exact hL2, hD2⟩ | exact ⟨by omega, _, _, _, _, rfl, by rw [gr_no hs1]; exact hR4, by rw [gr_no hs1]; exact LV.pushN hL3, hD4⟩
 ·try simp only [qB, qN] at hc1
  refine ZD (ZB (Zv (ZC ?_)))
  refine YV (.inl rfl) (vres_none rfl) ?_
  obtain rfl : i = n := by omega
  exact ⟨_, _, _, _, rfl, hR, hL, hD⟩
theorem tryT_spec {x : SW} (H : Zf) (g : Gz) (p : Pb) (hp : PbL p) (a b : VVal) (l : List Nat) (ha : a = fzN l) (hl9 : l.length ≤ 900) (X : Zf) (n : Nat) (hn : n ≤ 900) (st : List Nat → Bool) (hst : st = fun m => stW p l m) : F (psys x) 67 [.ptr (some (H.length + 4, 0)), iI (n : Nat), stV H p] (whH H g a b niS niS ++ X) fun v G => ∃ X g1 rv lv, G = whH H g1 a b rv lv ++ X ∧ RV (H.length + 5) X rv (rcN (gr st n).1) ∧ LV (H.length + 5) 1 X lv (rcN (gr st n).2) (gr st n).2.length ∧ Dj lv rv := by
 refine Zt Tryd.func67 rfl u49 rfl ?_
 refine Zd (Za ?_)
 refine Lo u49 (Zb (.inl rfl) rfl) ?_
 refine Lo u49 (Zg (VVal.int .i64 0) (.inl rfl) rfl) ?_
 refine Ze (Zc (Zi ?_))
 refine Zu (mk 49 562949953420922) (env' := u49) rfl ?_
 refine Zx (fun (i : Nat) => n - i) (fun (i : Nat) => [(8, iI (i : Nat))]) (fun (i : Nat) G => (i ≤ n) ∧ ∃ X g1 rv lv, G = whH H g1 a b rv lv ++ X ∧ RV (H.length + 5) X rv (rcN (gr st i).1) ∧ LV (H.length + 5) 1 X lv (rcN (gr st i).2) (gr st i).2.length ∧ Dj lv rv) 0 rfl ?_ ?_
 ·refine ⟨?_, ⟨X, g, niS, niS, List.append_nil _, RV.nil _ _, LV.nil _ _ _, fun n h => by cases h⟩⟩
  exact Nat.zero_le _
 rintro i _ ⟨hi, ⟨X, g, rv, lv, rfl, hR, hL, hD⟩⟩
 refine ZO (env' := u49) rfl ?_
 have hgl := @gr_len st i
 have hRl := hR.lt
 refine Zd (Za ?_)
 refine Lo u49 (rfl) ?_
 refine Ze (Zc (Zd ?_))
 refine Zk _ rfl (fun hc1 => ?_) (fun hc1 => ?_)
 ·try simp only [qB, qN] at hc1
  refine Zj (Zc (Zd (Zi (Zd (Za ?_)))))
  refine Lo u49 (Zb (.inl rfl) rfl) ?_
  refine Lo u49 (Zb (.inr rfl) rfl) ?_
  refine Ze (Zc (Zd (Za ?_)))
  refine Lo u49 (Zb (.inl rfl) rfl) ?_
  refine Lo u49 (Zb (.inl rfl) rfl) ?_
  refine Lo u49 (rfl) ?_
  refine Lo u49 (rfl) ?_
  refine Lo u49 (W78 rfl rfl rfl rfl) ?_
  refine Lo u49 (Zb (.inl rfl) rfl) ?_
  refine Lo u49 (Zr rfl rfl (by decide) rfl) ?_
  refine Yt rfl rfl (v_rvAppK rfl rfl rfl rfl rfl rfl rfl rfl (by rw [wh_len]; exact hR) rfl (by rw [List.length_map]; show ((gr st i).1.length + 1) * 8 ≤ _ ∧ _; omega)) ?_
  rintro v2 _ ⟨Y2, rfl, hR1, hF⟩; rw [wh_len] at hR1 hF; have hR2 : RV (H.length + 5) Y2 v2 (rcN ((gr st i).1 ++ [i])) := by rw [rcN_snoc]; exact hR1
  obtain ⟨hL2, hD2⟩ := hF.keep hL hD
  refine Le u49 ?_
  refine Lo u49 (rfl) ?_
  refine Lo u49 (rfl) ?_
  refine Lo u49 (ZZ rfl rfl rfl rfl hR2.cells rfl (by simp [hR2.one]) (wh_at (n := 4) rfl) (Nat.le_of_ble_eq_true rfl) wh_set2) ?_
  refine Ze (Zc (Zd (Za ?_)))
  refine Lo u49 (Zb (.inl rfl) rfl) ?_
  refine Zs rfl rfl rfl (by exact Why1_spec H Y2 _ _ _ _ _ p hp l ((gr st i).1 ++ [i]) (by rw [ha, fzI_N]; exact RD.fz _ _) (wh_rd hR2) XH22 XH22) ?_
  rintro _ _ ⟨rfl, g2, rfl⟩
  refine Le u49 ?_
  refine Lo u49 (rfl) ?_
  refine Ze (Zc ?_)
  refine Zk _ rfl (fun hc2 => ?_) (fun hc2 => ?_)
  ·try simp only [qB, qN] at hc2
   have hs1 : st ((gr st i).1 ++ [i]) = false := (congrFun hst _).trans (by simpa using hc2)
   refine Zd ?_
   refine ZW [0, 1, 2, 3, 4, 5, 6, 7, 8, 9, 10, 11, 12, 13, 14] #[0, 0, 2, 6, 14, 0, 32, 96, 224, 480, 992, 2046, 4095, 8191, 16383] XH3 XH3 XH3 ?_
   refine Oo u49 .calm rfl (Zb (.inl rfl) rfl) ?_
   refine Oo u49 .calm rfl (Zb (.inl rfl) rfl) ?_
   refine Oo u49 .calm rfl (rfl) ?_
   refine Oo u49 .calm rfl (rfl) ?_
   refine Oo u49 .look rfl (W79 rfl rfl rfl rfl) ?_
   refine Oo u49 .calm rfl (Zb (.inl rfl) rfl) ?_
   refine Oo u49 .calm rfl (rfl) ?_
   refine Oo u49 .calm rfl (rfl) ?_
   refine Oo u49 .look rfl (W79 rfl rfl rfl rfl) ?_
   refine Oo u49 .look rfl (v_lenN rfl rfl rfl rfl hR2) ?_
   refine Oo u49 .calm rfl (W46 rfl rfl rfl) ?_
   refine O_opX .calm rfl rfl rfl (v_rvCutK rfl rfl rfl rfl rfl rfl rfl (by simp) wh_len.symm hR2 _) rfl rfl ?_
   rintro v4 _ ⟨rfl, hR3, hi4⟩; have hD3 : Dj lv v4 := fun n h => by rw [hi4]; exact hD2 n h
   refine O_env (env' := u49) rfl ?_
   refine Oo u49 .calm rfl (rfl) ?_
   refine Oo u49 .calm rfl (rfl) ?_
   refine Oo u49 .turn rfl (ZZ rfl rfl rfl rfl hR3.cells rfl (by simp [hR3.one]) (wh_at (n := 4) rfl) (Nat.le_of_ble_eq_true rfl) wh_set2) ?_
   refine ZQ [] XH3 (trivial) ?_
   refine Zc (Za ?_)
   refine Lo u49 (Zb (.inl rfl) rfl) ?_
   refine Lo u49 (Zb (.inl rfl) rfl) ?_
   refine Lo u49 (rfl) ?_
   refine Lo u49 (rfl) ?_
   refine Lo u49 (W79 rfl rfl rfl rfl) ?_
   refine Lo u49 (Zb (.inl rfl) rfl) ?_
   refine Lo u49 (Zr rfl rfl (by decide) rfl) ?_
   refine Yt rfl rfl (Ys rfl rfl rfl rfl rfl rfl rfl wh_len hL2 rfl rfl (by decide) (by show ((gr st i).2.length + 1) * 8 ≤ _ ∧ _; omega) (by decide)) ?_
   rintro _ _ ⟨Y3, rfl, rfl, hY1, hY2, hL3⟩; have hR4 := hR3.keepL (Z := [.cells [iI (i : Nat)] true, .cells (rcN (gr st i).2 ++ [iI (i : Nat)]) true]) hL2 hD3 hY1 hY2; have hD4 := RV.far (m := Y2.length + 1) (n := (gr st i).2.length + 1) (c := (gr st i).2.length + 1) (e2 := 1) (o := 0) (ex := false) hR3 (Nat.le_succ _)
   refine Le u49 ?_
   refine Lo u49 (rfl) ?_
   refine Lo u49 (rfl) ?_
   refine Lo u49 (ZZ rfl rfl rfl rfl hL3.cells rfl (by simp [hL3.one]) (wh_at (n := 4) rfl) (Nat.le_of_ble_eq_true rfl) wh_set3) ?_
   refine Ze (Zy (Zc (Za ?_)))
   refine Lo u49 (W14 rfl rfl rfl) ?_
   refine Lo u49 (Zb (.inl rfl) rfl) ?_
   refine Ze ?_
   refine Zw (mk 49 562949953420922) (env' := u49) rfl ⟨i + 1, ?_, rfl, ?_⟩
   ·first | omega | (simp only []; omega)
   ·first | exact ⟨by omega, _, _, _, _, rfl, by rw [gr_yes hs1]; exact hR2, by rw [gr_yes hs1]; exact hL2, hD2⟩ | exact ⟨by omega, _, _, _, _, rfl, by rw [gr_no hs1]; exact hR4, by rw [gr_no hs1]; exact LV.pushN hL3, hD4⟩
  ·try simp only [qB, qN] at hc2
   have hs1 : st ((gr st i).1 ++ [i]) = true := (congrFun hst _).trans (by simpa using hc2)
   refine Zj (Zy (Zc (Za ?_)))
   refine Lo u49 (W14 rfl rfl rfl) ?_
   refine Lo u49 (Zb (.inl rfl) rfl) ?_
   refine Ze ?_
   refine Zw (mk 49 562949953420922) (env' := u49) rfl ⟨i + 1, ?_, rfl, ?_⟩
   ·first | omega | (simp only []; omega)
   ·first | exact ⟨by omega, _, _, _, _, rfl, by rw [gr_yes hs1]; exact hR2, by rw [gr_yes hs1]; exact hL2, hD2⟩ | exact ⟨by omega, _, _, _, _, rfl, by rw [gr_no hs1]; exact hR4, by rw [gr_no hs1]; exact LV.pushN hL3, hD4⟩
 ·try simp only [qB, qN] at hc1
  refine ZD (ZB (Zv (ZC ?_)))
  refine YV (.inl rfl) (vres_none rfl) ?_
  obtain rfl : i = n := by omega
  exact ⟨_, _, _, _, rfl, hR, hL, hD⟩
abbrev u28 {a0 a1 a2 a3 a4 a5 a6 a7 a8 a9 a10 a11 a12 a13 a14 a15 a16 a17 a18 a19 a20 a21 a22 a23 a24 a25 a26 a27 : VVal} : VEnv := a0 :: a1 :: a2 :: a3 :: a4 :: a5 :: a6 :: a7 :: a8 :: a9 :: a10 :: a11 :: a12 :: a13 :: a14 :: a15 :: a16 :: a17 :: a18 :: a19 :: a20 :: a21 :: a22 :: a23 :: a24 :: a25 :: a26 :: a27 :: []
abbrev u33 {a0 a1 a2 a3 a4 a5 a6 a7 a8 a9 a10 a11 a12 a13 a14 a15 a16 a17 a18 a19 a20 a21 a22 a23 a24 a25 a26 a27 a28 a29 a30 a31 a32 : VVal} : VEnv := a0 :: a1 :: a2 :: a3 :: a4 :: a5 :: a6 :: a7 :: a8 :: a9 :: a10 :: a11 :: a12 :: a13 :: a14 :: a15 :: a16 :: a17 :: a18 :: a19 :: a20 :: a21 :: a22 :: a23 :: a24 :: a25 :: a26 :: a27 :: a28 :: a29 :: a30 :: a31 :: a32 :: []
theorem W7c {S : V.Sys} {H : Zf} {fn : Func} {ex : Exit} {env : VEnv} {B L : Zf} {v : VVal} {R : VVal → Zf → Prop} (hx : ex = .normal ∨ ex = .ret) (hv : ZT S.C.T env (B ++ L) fn.results = some v) (h : R v B) (hB : BaseOk H B := by exact XH42) (hu : v.under H.length = true := by first | rfl | exact (show ((fzN (whA p).2).under H.length && ((fzN (whC p).2).under H.length && (true && true))) = true by rw [show (fzN (whA p).2).under H.length = true from Yv _ _, show (fzN (whC p).2).under H.length = true from Yv _ _]; rfl)) : fnK S fn H R ex env (B ++ L) := YZ hx hv hB hu h
theorem W7d {P : Prop} (h : P := by first | exact ⟨by rw [whV_y hwb]; rfl, rfl⟩ | exact ⟨by rw [whV_n (whB_no1 (by assumption))]; rfl, rfl⟩ | exact ⟨by rw [whV_n (whB_no2 (by simpa using hc2))]; rfl, rfl⟩) : P := h
theorem W7f {T : TypeId → Option VTy} {H : Zf} {op : Op} {ρ : Operand → VVal} {t : TypeId} {a : Operand} {y : VTy} {p v : VVal} (ho : op = .load t a) (ha : ρ a = p) (hy : T t = some y) (hd : Zm y.desc = false) (h : LdOk H p v := by first | exact .inl ⟨_, _, rfl, XH39⟩ | exact .inr ⟨_, _, _, _, rfl, by exact getB rfl rfl, XH39⟩) : vop T ρ H op = some (v, H) := Yu ho ha hy hd h
theorem whB_yes {p : Pb} (h1 : pck p = 0) (h2 : (leA p).isSome = false) : whB p = true := by unfold whB; rw [decide_eq_true h1, h2]; rfl
theorem whB_no1 {p : Pb} (h1 : ¬ pck p = 0) : whB p = false := by unfold whB; rw [decide_eq_false h1]; rfl
theorem whB_no2 {p : Pb} (h2 : (leA p).isSome = true) : whB p = false := by unfold whB; rw [h2, Bool.not_true, Bool.and_false]
theorem whV_y {p : Pb} (h : whB p = true) : whV p = .tuple [fzN (whA p).2, fzN (whC p).2, .bool true] := if_pos h
theorem whV_n {p : Pb} (h : whB p = false) : whV p = .tuple [fzN [], fzN [], .bool false] := if_neg (by rw [h]; decide)
theorem whA_len {p : Pb} : (whA p).1.length + (whA p).2.length = p.rules.length := gr_len _
theorem whC_len {p : Pb} : (whC p).1.length + (whC p).2.length = p.who.length := gr_len _
theorem Why_spec {x : SW} (H : Zf) (p : Pb) (hp : PbL p) : F (psys x) 23 [.agg (pbB p)] H fun v G => v = whV p ∧ G = H := by
 refine Zt Tryd.func23 rfl u33 rfl ?_
 refine Zd (Za ?_)
 refine Lo u33 (ZH rfl rfl rfl) ?_
 refine Lo u33 (Zg (VVal.slice none 0 0 true 0) (.inr rfl) rfl) ?_
 refine Lo u33 (Zg (VVal.slice none 0 0 true 0) (.inr rfl) rfl) ?_
 refine Lo u33 (Zg (VVal.bool false) (.inr rfl) rfl) ?_
 refine Ze (Zc (Zd ?_))
 refine ZY (Gh.freezePtrL (cs := pbB p) 1 0 rfl rfl rfl) ?_
 refine Za ?_
 refine Zs rfl rfl rfl (by exact sNew_spec _) ?_
 rintro _ _ ⟨rfl, rfl⟩; rw [List.append_assoc, List.length_append]
 refine Le u33 ?_
 refine Lo u33 (ZG rfl rfl) ?_
 refine Lo u33 (W13 rfl rfl rfl rfl rfl rfl rfl) ?_
 refine Ze (Zc (Zd (Zd (Za ?_))))
 refine Lo u33 (W2p rfl rfl rfl rfl rfl) ?_
 refine Zs rfl rfl rfl (by exact YP _ p hp) ?_
 rintro _ _ ⟨rfl, rfl⟩
 refine Le u33 ?_
 refine Lo u33 (rfl) ?_
 refine Lo u33 (Zb (.inl rfl) rfl) ?_
 refine ZK 13 (env1 := u33) (env2 := u33) rfl rfl rfl (fun hg1 => ?_) (fun hg1 => ?_)
 ·try simp only [qB, qN] at hg1
  refine Lf u33 ?_
  refine Lf u33 ?_
  refine L_heap (H' := H ++ [.dead, gaB 0, .cells [.ptr (some (H.length + 1, 0))] true]) (by simp; rfl) ?_
  refine Lf u33 ?_
  refine Lo u33 (ZN (VVal.bool true) rfl rfl rfl) ?_
  refine Ze (Zc ?_)
  refine ZU rfl rfl ?_
  refine Zd (Za ?_)
  refine Lo u33 (Zg (VVal.slice none 0 0 true 0) (.inr rfl) rfl) ?_
  refine Lo u33 (Zg (VVal.slice none 0 0 true 0) (.inr rfl) rfl) ?_
  refine Lo u33 (Zg (VVal.bool false) (.inr rfl) rfl) ?_
  refine Ze (Zc ?_)
  refine ZY (Gh.freezeNil 2 (es' := 1) rfl rfl) ?_
  refine ZY (Gh.freezeNil 3 (es' := 1) rfl rfl) ?_
  refine Zl (Zn ?_)
  refine W7c (.inr rfl) (vres_tmp3 rfl rfl rfl rfl) ?_
  exact W7d
 ·try simp only [qB, qN] at hg1
  refine Lo u33 (W2r rfl rfl rfl rfl) ?_
  refine Lo u33 (W2p rfl rfl rfl rfl rfl) ?_
  refine L_heap (H' := H ++ [.dead, gaB 0, .cells [.ptr (some (H.length + 1, 0))] true]) (by simp; rfl) ?_
  refine Zs rfl rfl rfl (by exact Can_spec (H ++ [.dead, gaB 0, .cells [.ptr (some (H.length + 1, 0))] true]) (H.length + 1) 0 (ZJ rfl rfl) p hp) ?_
  rintro _ _ ⟨rfl, rfl⟩; rw [ZP rfl]
  refine Le u33 ?_
  refine Lo u33 (ZX rfl rfl rfl) ?_
  refine Ze (Zc ?_)
  refine Zk _ rfl (fun hc2 => ?_) (fun hc2 => ?_)
  ·try simp only [qB, qN] at hc2
   refine Zd (Za ?_)
   refine Lo u33 (Zg (VVal.slice none 0 0 true 0) (.inr rfl) rfl) ?_
   refine Lo u33 (Zg (VVal.slice none 0 0 true 0) (.inr rfl) rfl) ?_
   refine Lo u33 (Zg (VVal.bool false) (.inr rfl) rfl) ?_
   refine Ze (Zc ?_)
   refine ZY (Gh.freezeNil 2 (es' := 1) rfl rfl) ?_
   refine ZY (Gh.freezeNil 3 (es' := 1) rfl rfl) ?_
   refine Zl (Zn ?_)
   refine W7c (.inr rfl) (vres_tmp3 rfl rfl rfl rfl) ?_
   exact W7d
  ·try simp only [qB, qN] at hc2
   refine Zj (Zc (Zd ?_))
   have g : Go.V.Good p := pck_good.1 (by assumption)
   have hwb : whB p = true := whB_yes (by assumption) (by simpa using hc2)
   have g1 := g.n12; have g3 := g.r32
   have hA := @whA_len p; have hC := @whC_len p
   refine Za ?_
   refine Lo u33 (ZG rfl rfl) ?_
   refine Lo u33 (ZG rfl rfl) ?_
   refine Ze (Zc (Zd (Za ?_)))
   refine Lo u33 (v_func [_, _, _, _] rfl rfl) ?_
   refine Lo u33 (Zb (.inr rfl) rfl) ?_
   refine Ze (Zc (Zd (Za ?_)))
   refine Lo u33 (rfl) ?_
   refine Lo u33 (W2r rfl rfl rfl rfl) ?_
   refine Lo u33 (rfl) ?_
   refine Lo u33 (Zb (.inl rfl) rfl) ?_
   refine L_heap (H' := whH H (0 + leG p) niS niS niS niS ++ []) (by rw [List.append_nil]; rfl) ?_
   refine Zs rfl rfl rfl (by exact tryR_spec H _ p hp [] p.rules.length (by omega) _ rfl) ?_
   rintro v _ ⟨X, g1, rv, lv, rfl, hR, hL, hD⟩
   refine Le u33 ?_
   refine Ze (Zc (Zd ?_))
   refine Ym (H' := (H ++ [VBlk.dead, gaB g1, .cells [.ptr (some (H.length + 1, 0))] true, .cells [rv, lv] true, .cells [niS, niS] true]) ++ X) rfl ?_
   refine B_ghCellR 3 0 hR rfl rfl (by simp) fun X1 hX1 hF1 => ?_
   refine YD 3 1 (LV.frame hL fun i hi => hF1 i (hD _ hi)) rfl rfl (by simp) fun X2 _ _ => ?_
   refine Ym (H' := whH H g1 (fzN (whA p).1) (fzN (whA p).2) niS niS ++ X2) rfl ?_
   refine Za ?_
   refine Lo u33 (rfl) ?_
   refine Lo u33 (W2r rfl rfl rfl rfl) ?_
   refine Lo u33 (rfl) ?_
   refine Lo u33 (Zb (.inl rfl) rfl) ?_
   refine Zs rfl rfl rfl (by exact tryT_spec H _ p hp (fzN (whA p).1) (fzN (whA p).2) (whA p).1 rfl (by omega) X2 p.who.length (by omega) _ rfl) ?_
   rintro v _ ⟨X, g2, rv, lv, rfl, hR, hL, hD⟩
   refine Le u33 ?_
   refine Ze (Zc (Zd ?_))
   refine Ym (H' := (H ++ [VBlk.dead, gaB g2, .cells [.ptr (some (H.length + 1, 0))] true, .cells [(fzN (whA p).1), (fzN (whA p).2)] true, .cells [rv, lv] true]) ++ X) rfl ?_
   refine YD 4 1 hL rfl rfl (by simp) fun X3 _ _ => ?_
   refine ZW [0, 1, 2, 3, 4, 5, 6] #[0, 1, 0, 4, 3, 31, 63] XH3 XH3 XH3 ?_
   refine Oo u33 .calm rfl (rfl) ?_
   refine Oo u33 .look rfl (W7f rfl rfl rfl rfl) ?_
   refine Oo u33 .calm rfl (rfl) ?_
   refine Oo u33 .look rfl (W7f rfl rfl rfl rfl) ?_
   refine Oo u33 .calm rfl (Zb (.inr rfl) rfl) ?_
   refine Oo u33 .calm rfl (Zb (.inr rfl) rfl) ?_
   refine Oo u33 .calm rfl (Zg (VVal.bool true) (.inr rfl) rfl) ?_
   refine ZQ [] XH3 (trivial) ?_
   refine Zc ?_
   refine Ym (List.append_assoc _ _ _) ?_
   refine Zl ?_
   refine W7c (.inr rfl) (vres_tmp3 rfl rfl rfl rfl) ?_
   exact W7d
def pc : Pb := (2, [1#64, 1#64], [-1, -1], [(1, 0, [0, 1], ())], ())
theorem pc_L : PbL pc := ⟨by decide, by decide, by decide, by decide, fun r hr => by
  have hr : r ∈ [((1 : Int), (0 : Int), [(0 : Int), 1], ())] := hr
  rw [List.mem_singleton] at hr; subst hr; decide⟩
theorem pc_b : whB pc = true := by decide +kernel
theorem pc_r : (whA pc).2 = [0] := by decide +kernel
theorem pc_s : (whC pc).2 = [0, 1] := by decide +kernel
theorem pc_v : whV pc = .tuple [fzI [0], fzI [0, 1], .bool true] := by rw [whV_y pc_b, pc_r, pc_s]; rfl
theorem cwakes_spec {x : SW} (H : Zf) : F (psys x) 26 [] H fun v G => v = .bool true ∧ G = H := by
 refine Zt Tryd.func26 rfl u28 rfl ?_
 refine Zd (Za ?_)
 refine Lo u28 (Zg (VVal.bool false) (.inr rfl) rfl) ?_
 refine Ze (Zc (Zd (Za ?_)))
 refine Lo u28 (Zr rfl rfl (by decide) rfl) ?_
 refine Lo u28 (Zr rfl rfl (by decide) rfl) ?_
 refine Lo u28 (Zr rfl rfl (by decide) rfl) ?_
 refine Lo u28 (rfl) ?_
 refine Lo u28 (Zr rfl rfl (by decide) rfl) ?_
 refine Lo u28 (rfl) ?_
 refine Lo u28 (ZG rfl rfl) ?_
 refine Lo u28 (W13 rfl rfl rfl rfl rfl rfl rfl) ?_
 refine Ze (Zc (Zd (Za ?_)))
 refine L_gh (Gh.cellL (l := [iI 0, iI 1]) 3 2 2 rfl rfl (by decide) rfl rfl (Nat.le_refl _)) ?_
 refine L_gh (Gh.cellL (l := [iW 1#64, iW 1#64]) 4 1 0 rfl rfl (by decide) rfl rfl (Nat.le_refl _)) ?_
 refine L_gh (Gh.cellL (l := [iI (-1), iI (-1)]) 4 2 1 rfl rfl (by decide) rfl rfl (Nat.le_refl _)) ?_
 refine L_gh (Gh.cellL (l := rlB (1, 0, [0, 1], ())) 4 3 3 rfl rfl (by decide) rfl rfl (Nat.le_refl _)) ?_
 refine Lo u28 (W11 rfl rfl rfl rfl rfl) ?_
 refine Zs rfl rfl rfl (by exact Why_spec _ pc pc_L) ?_
 rintro v _ ⟨hv, rfl⟩; rw [pc_v] at hv; subst hv
 refine Le u28 ?_
 refine Lo u28 (Zb (.inl rfl) rfl) ?_
 refine Lo u28 (rfl) ?_
 refine Lo u28 (rfl) ?_
 refine Lo u28 (rfl) ?_
 refine Lo u28 (Zb (.inr rfl) rfl) ?_
 refine Lo u28 (Zb (.inr rfl) rfl) ?_
 refine Lo u28 (Zb (.inr rfl) rfl) ?_
 refine Ze (Zc (Zd (Za ?_)))
 refine Lo u28 (Zb (.inl rfl) rfl) ?_
 refine Lo u28 (Zb (.inl rfl) rfl) ?_
 refine Lo u28 (Zb (.inl rfl) rfl) ?_
 refine Lo u28 (Zr rfl rfl (by decide) rfl) ?_
 refine L_gh (Gh.freezeL (l := [iI 0]) 20 5 rfl rfl rfl (Nat.le_refl _) rfl) ?_
 refine Zs rfl rfl rfl (by exact kInts_spec _ [0] [0] (by decide)) ?_
 rintro v _ ⟨hv, rfl⟩; obtain rfl : v = .bool true := hv.trans (congrArg VVal.bool (by decide))
 refine Le u28 ?_
 refine Lo u28 (ZR rfl rfl rfl) ?_
 refine Lo u28 (Zb (.inl rfl) rfl) ?_
 refine Lo u28 (Zb (.inl rfl) rfl) ?_
 refine Lo u28 (Zr rfl rfl (by decide) rfl) ?_
 refine L_gh (Gh.freezeL (l := [iI 0, iI 1]) 25 6 rfl rfl rfl (Nat.le_refl _) rfl) ?_
 refine Zs rfl rfl rfl (by exact kInts_spec _ [0, 1] [0, 1] (by decide)) ?_
 rintro v _ ⟨hv, rfl⟩; obtain rfl : v = .bool true := hv.trans (congrArg VVal.bool (by decide))
 refine Le u28 ?_
 refine Lo u28 (ZR rfl rfl rfl) ?_
 refine Lo u28 (Zb (.inr rfl) rfl) ?_
 refine Ze (Zc (Zl ?_))
 refine W10 (.inr rfl) (Zh rfl rfl) ?_
 exact ⟨rfl, rfl⟩
abbrev seB (w : BitVec 64) : VBlk := .cells [iW w] true
abbrev jN (u : Nat) : VVal := iI (u : Nat)
theorem not_of_f {b : Bool} (h : b = false) : ¬ b = true := by rw [h]; decide
theorem beq_nat {a b : Nat} : ((a : Int) == (b : Int)) = (a == b) := Bool.eq_iff_iff.2 (by rw [beq_iff_eq, beq_iff_eq]; omega)
theorem find_no' {pre : List Nat} {f : Nat → Bool} (h : ∀ v, v ∈ pre → f v = false) : pre.find? f = none := List.find?_eq_none.2 fun v hv => by rw [h v hv]; decide
theorem find_yes {pre post : List Nat} {c : Nat} {f : Nat → Bool} (h : ∀ v, v ∈ pre → f v = false) (hc : f c = true) : (pre ++ c :: post).find? f = some c := by
  rw [List.find?_append, find_no' h, List.find?_cons, hc]; rfl
theorem full0 {l : List (BitVec 64)} : Yd l 0#64 = true ↔ Mat l := by rw [fullB_iff, msk_0]
def szV (l : List (BitVec 64)) : Int := if l.length ≤ 12 then (szN l : Nat) else 0
def leV (rows : List (BitVec 64)) : VVal := if rows.length ≤ 12 ∧ Yd rows 0#64 = true then .tuple [fzN (lst rows 0#64), .bool true] else .tuple [fzN [], .bool false]
abbrev u38 {a0 a1 a2 a3 a4 a5 a6 a7 a8 a9 a10 a11 a12 a13 a14 a15 a16 a17 a18 a19 a20 a21 a22 a23 a24 a25 a26 a27 a28 a29 a30 a31 a32 a33 a34 a35 a36 a37 : VVal} : VEnv := a0 :: a1 :: a2 :: a3 :: a4 :: a5 :: a6 :: a7 :: a8 :: a9 :: a10 :: a11 :: a12 :: a13 :: a14 :: a15 :: a16 :: a17 :: a18 :: a19 :: a20 :: a21 :: a22 :: a23 :: a24 :: a25 :: a26 :: a27 :: a28 :: a29 :: a30 :: a31 :: a32 :: a33 :: a34 :: a35 :: a36 :: a37 :: []
abbrev u39 {a0 a1 a2 a3 a4 a5 a6 a7 a8 a9 a10 a11 a12 a13 a14 a15 a16 a17 a18 a19 a20 a21 a22 a23 a24 a25 a26 a27 a28 a29 a30 a31 a32 a33 a34 a35 a36 a37 a38 : VVal} : VEnv := a0 :: a1 :: a2 :: a3 :: a4 :: a5 :: a6 :: a7 :: a8 :: a9 :: a10 :: a11 :: a12 :: a13 :: a14 :: a15 :: a16 :: a17 :: a18 :: a19 :: a20 :: a21 :: a22 :: a23 :: a24 :: a25 :: a26 :: a27 :: a28 :: a29 :: a30 :: a31 :: a32 :: a33 :: a34 :: a35 :: a36 :: a37 :: a38 :: []
theorem W7l {P : Prop} (h : P := by first | exact ⟨by rw [myB_f g hi (by assumption), beq_d], rfl⟩ | exact ⟨by rw [myB_w g hi (by omega), decide_eq_false (by omega)]; rfl, rfl⟩ | exact ⟨by rw [myB_w g hi (by omega), decide_eq_true (by omega), Bool.true_and]; exact congrArg VVal.bool bit_eq, rfl⟩) : P := h
theorem W7m {P : Prop} (h : P := by first | exact ⟨rfl, rfl⟩ | (exfalso; omega)) : P := h
theorem May_spec {x : SW} (H : Zf) (p : Pb) (g : Go.V.Good p) (i : Nat) (hi : i < p.who.length) (u : Int) : F (psys x) 64 [.agg (pbB p), iI (i : Nat), iI u] H fun v G => v = .bool (myB p i u) ∧ G = H := by
 have g5 := g.fx
 refine Zt Tryd.func64 rfl u39 rfl ?_
 refine Zd (Za ?_)
 refine Lo u39 (ZH rfl rfl rfl) ?_
 refine Lo u39 (Zg (VVal.bool false) (.inr rfl) rfl) ?_
 refine Ze (Zc (Zd (Zd (Za ?_))))
 refine Lo u39 (rfl) ?_
 refine Lo u39 (W2r rfl rfl rfl rfl) ?_
 refine Lo u39 (Zb (.inl rfl) rfl) ?_
 refine Lo u39 (W18 rfl rfl rfl rfl rfl rfl rfl) ?_
 refine Lo u39 (W2r rfl rfl rfl rfl) ?_
 refine Lo u39 (rfl) ?_
 refine Ze (Zc ?_)
 refine Zk _ rfl (fun hc1 => ?_) (fun hc1 => ?_)
 ·try simp only [qB, qN] at hc1
  refine Zd (Za ?_)
  refine Lo u39 (Zb (.inl rfl) rfl) ?_
  refine Lo u39 (rfl) ?_
  refine Lo u39 (W2r rfl rfl rfl rfl) ?_
  refine Lo u39 (Zb (.inl rfl) rfl) ?_
  refine Lo u39 (W18 rfl rfl rfl rfl rfl rfl rfl) ?_
  refine Lo u39 (W2r rfl rfl rfl rfl) ?_
  refine Lo u39 (rfl) ?_
  refine Lo u39 (Zb (.inr rfl) rfl) ?_
  refine Ze (Zc (Zl (Zn ?_)))
  refine W10 (.inr rfl) (Zh rfl rfl) ?_
  exact W7l
 ·try simp only [qB, qN] at hc1
  refine Zj (Zc (Zd (Za ?_)))
  refine Lo u39 (Zb (.inl rfl) rfl) ?_
  refine Lo u39 (rfl) ?_
  refine Lo u39 (Zb (.inl rfl) rfl) ?_
  refine ZK 22 (env1 := u39) (env2 := u39) rfl rfl rfl (fun hg2 => ?_) (fun hg2 => ?_)
  ·try simp only [qB, qN] at hg2
   refine Lo u39 (Zb (.inl rfl) rfl) ?_
   refine Lo u39 (rfl) ?_
   refine Lo u39 (W2r rfl rfl rfl rfl) ?_
   refine Lo u39 (rfl) ?_
   refine Lo u39 (ZR rfl rfl rfl) ?_
   refine Lo u39 (Zb (.inl rfl) rfl) ?_
   refine ZK 28 (env1 := u39) (env2 := u39) rfl rfl rfl (fun hg3 => ?_) (fun hg3 => ?_)
   ·try simp only [qB, qN] at hg3
    refine Lo u39 (rfl) ?_
    refine Lo u39 (W2r rfl rfl rfl rfl) ?_
    refine Lo u39 (Zb (.inl rfl) rfl) ?_
    refine Lo u39 (W18 rfl rfl rfl rfl rfl rfl rfl) ?_
    refine Lo u39 (W2r rfl rfl rfl rfl) ?_
    refine Lo u39 (Zb (.inl rfl) rfl) ?_
    refine Lo u39 (v_shrW rfl rfl rfl XH4) ?_
    refine Lo u39 (v_andW (b := 1#64) rfl rfl rfl) ?_
    refine Lo u39 (rfl) ?_
    refine Lo u39 (ZR rfl rfl rfl) ?_
    refine Lo u39 (Zb (.inr rfl) rfl) ?_
    refine Ze (Zc (Zl ?_))
    refine W10 (.inr rfl) (Zh rfl rfl) ?_
    exact W7l
   ·try simp only [qB, qN] at hg3
    refine Lf u39 ?_
    refine Lf u39 ?_
    refine Lf u39 ?_
    refine Lf u39 ?_
    refine Lf u39 ?_
    refine Lf u39 ?_
    refine Lf u39 ?_
    refine Lf u39 ?_
    refine Lf u39 ?_
    refine Lo u39 (ZL (VVal.bool false) rfl rfl rfl) ?_
    refine Lo u39 (Zb (.inr rfl) rfl) ?_
    refine Ze (Zc (Zl ?_))
    refine W10 (.inr rfl) (Zh rfl rfl) ?_
    exact W7l
  ·try simp only [qB, qN] at hg2
   refine Lf u39 ?_
   refine Lf u39 ?_
   refine Lf u39 ?_
   refine Lf u39 ?_
   refine Lo u39 (ZL (VVal.bool false) rfl rfl rfl) ?_
   refine Lo u39 (Zb (.inl rfl) rfl) ?_
   refine Lf u39 ?_
   refine Lf u39 ?_
   refine Lf u39 ?_
   refine Lf u39 ?_
   refine Lf u39 ?_
   refine Lf u39 ?_
   refine Lf u39 ?_
   refine Lf u39 ?_
   refine Lf u39 ?_
   refine Lo u39 (ZL (VVal.bool false) rfl rfl rfl) ?_
   refine Lo u39 (Zb (.inr rfl) rfl) ?_
   refine Ze (Zc (Zl ?_))
   refine W10 (.inr rfl) (Zh rfl rfl) ?_
   exact W7l
theorem szP_succ {a : List Nat} {k : Nat} : szP a (k + 1) = if a.getD k 0 = szP a k then szP a k + 1 else szP a k := rfl
theorem Legal_spec {x : SW} (H : Zf) (a : List Nat) (ha : Pat a) (hl : a.length ≤ 12) : F (psys x) 131 [fzN a] H fun v G => v = .bool true ∧ G = H := by
 refine Zt Tryd.func131 rfl u38 rfl ?_
 refine Zd (Za ?_)
 refine Lo u38 (Zg (VVal.bool false) (.inr rfl) rfl) ?_
 refine Ze (Zc (Zd (Zd (Za ?_))))
 refine Lo u38 (Zb (.inl rfl) rfl) ?_
 refine Lo u38 (rfl) ?_
 refine Lo u38 (rfl) ?_
 refine Ze (Zc ?_)
 refine Zk _ rfl (fun hc1 => ?_) (fun hc1 => ?_)
 ·try simp only [qB, qN] at hc1
  refine Zd (Za ?_)
  refine Lo u38 (Zg (VVal.bool false) (.inr rfl) rfl) ?_
  refine Ze (Zc (Zl (Zn ?_)))
  refine W10 (.inr rfl) (Zh rfl rfl) ?_
  exact W7m
 ·try simp only [qB, qN] at hc1
  refine Zj (Zc (Zd (Za ?_)))
  refine Lo u38 (Zg (VVal.int .i64 (-1)) (.inr rfl) rfl) ?_
  refine Ze (Zc (Zd (Zd (Za ?_))))
  refine Lo u38 (Zg (VVal.int .i64 0) (.inr rfl) rfl) ?_
  refine Ze (Zc (Zi ?_))
  refine Zu (mk 38 274877906918) (env' := u38) rfl ?_
  refine Zx (fun (k : Nat) => a.length - k) (fun (k : Nat) => [(3, iI (((szP a k : Nat) : Int) - 1)), (4, iI (k : Nat))]) (fun (k : Nat) G => (k ≤ a.length) ∧ G = H ++ []) 0 rfl ?_ ?_
  ·refine ⟨?_, rfl⟩
   exact Nat.zero_le _
  rintro k _ ⟨hk, rfl⟩
  refine ZO (env' := u38) rfl ?_
  refine Zd (Zd (Za ?_))
  refine Lo u38 (Zb (.inl rfl) rfl) ?_
  refine Lo u38 (Zb (.inl rfl) rfl) ?_
  refine Lo u38 (rfl) ?_
  refine Lo u38 (rfl) ?_
  refine Ze (Zc ?_)
  refine Zk _ rfl (fun hc2 => ?_) (fun hc2 => ?_)
  ·try simp only [qB, qN] at hc2
   refine Zj (Zc (Zd (Zi (Zd (Zd ?_)))))
   have hpk := ha k (by omega)
   have hz := @szP_le a k
   refine Za ?_
   refine Lo u38 (Zb (.inl rfl) rfl) ?_
   refine Lo u38 (Zb (.inl rfl) rfl) ?_
   refine Lo u38 (W18 rfl rfl rfl rfl rfl rfl rfl) ?_
   refine Lo u38 (W4x rfl rfl rfl rfl) ?_
   refine Lo u38 (rfl) ?_
   refine Lo u38 (Zb (.inl rfl) rfl) ?_
   refine ZK 19 (env1 := u38) (env2 := u38) rfl rfl rfl (fun hg3 => ?_) (fun hg3 => ?_)
   ·try simp only [qB, qN] at hg3
    refine Lf u38 ?_
    refine Lf u38 ?_
    refine Lf u38 ?_
    refine Lf u38 ?_
    refine Lf u38 ?_
    refine Lf u38 ?_
    refine Lf u38 ?_
    refine Lo u38 (ZN (VVal.bool true) rfl rfl rfl) ?_
    refine Ze (Zc ?_)
    refine ZU rfl rfl ?_
    refine Zd (Za ?_)
    refine Lo u38 (Zg (VVal.bool false) (.inr rfl) rfl) ?_
    refine Ze (Zc (Zl (Zn (ZA (Zn (Z3 (ZA (Zn ?_))))))))
    refine W10 (.inr rfl) (Zh rfl rfl) ?_
    exact W7m
   ·try simp only [qB, qN] at hg3
    refine Lo u38 (Zb (.inl rfl) rfl) ?_
    refine Lo u38 (Zb (.inl rfl) rfl) ?_
    refine Lo u38 (W18 rfl rfl rfl rfl rfl rfl rfl) ?_
    refine Lo u38 (W4x rfl rfl rfl rfl) ?_
    refine Lo u38 (Zb (.inl rfl) rfl) ?_
    refine Lo u38 (W14 rfl rfl rfl) ?_
    refine Lo u38 (rfl) ?_
    refine Lo u38 (ZX rfl rfl rfl) ?_
    refine Ze (Zc ?_)
    refine Zk _ rfl (fun hc4 => ?_) (fun hc4 => ?_)
    ·try simp only [qB, qN] at hc4
     refine Zd (Za ?_)
     refine Lo u38 (Zg (VVal.bool false) (.inr rfl) rfl) ?_
     refine Ze (Zc (Zl (Zn (ZA (Zn (Z3 (ZA (Zn ?_))))))))
     refine W10 (.inr rfl) (Zh rfl rfl) ?_
     exact W7m
    ·try simp only [qB, qN] at hc4
     refine Zj (Zc (Zd (Za ?_)))
     refine Lo u38 (Zb (.inl rfl) rfl) ?_
     refine Lo u38 (Zb (.inl rfl) rfl) ?_
     refine Lo u38 (W18 rfl rfl rfl rfl rfl rfl rfl) ?_
     refine Lo u38 (W4x rfl rfl rfl rfl) ?_
     refine Lo u38 (Zb (.inl rfl) rfl) ?_
     refine Lo u38 (rfl) ?_
     refine Ze (Zc ?_)
     refine Zk _ rfl (fun hc5 => ?_) (fun hc5 => ?_)
     ·try simp only [qB, qN] at hc5
      refine Za ?_
      refine Lo u38 (Zb (.inl rfl) rfl) ?_
      refine Lo u38 (Zb (.inl rfl) rfl) ?_
      refine Lo u38 (W18 rfl rfl rfl rfl rfl rfl rfl) ?_
      refine Lo u38 (W4x rfl rfl rfl rfl) ?_
      refine Lo u38 (Zb (.inr rfl) rfl) ?_
      refine Ze (Zy (Zc (Za ?_)))
      refine Lo u38 (Zb (.inl rfl) rfl) ?_
      refine Lo u38 (W14 rfl rfl rfl) ?_
      refine Lo u38 (Zb (.inr rfl) rfl) ?_
      refine Ze ?_
      first
        | (have hE : ((a.getD k 0 : Nat) : Int) = ((szP a (k + 1) : Nat) : Int) - 1 := by rw [szP_succ, if_pos (by omega)]; omega); rw [hE]
        | (have hE : szP a k = szP a (k + 1) := by rw [szP_succ, if_neg (by omega)]); rw [hE]
      refine Zw (mk 38 274877906918) (env' := u38) rfl ⟨k + 1, ?_, rfl, ?_⟩
      ·first | omega | (simp only []; omega)
      ·exact ⟨by omega, rfl⟩
     ·try simp only [qB, qN] at hc5
      refine Zj (Zy (Zc (Za ?_)))
      refine Lo u38 (Zb (.inl rfl) rfl) ?_
      refine Lo u38 (W14 rfl rfl rfl) ?_
      refine Lo u38 (Zb (.inr rfl) rfl) ?_
      refine Ze ?_
      first
        | (have hE : ((a.getD k 0 : Nat) : Int) = ((szP a (k + 1) : Nat) : Int) - 1 := by rw [szP_succ, if_pos (by omega)]; omega); rw [hE]
        | (have hE : szP a k = szP a (k + 1) := by rw [szP_succ, if_neg (by omega)]); rw [hE]
      refine Zw (mk 38 274877906918) (env' := u38) rfl ⟨k + 1, ?_, rfl, ?_⟩
      ·first | omega | (simp only []; omega)
      ·exact ⟨by omega, rfl⟩
  ·try simp only [qB, qN] at hc2
   refine ZD (ZB (Zv (ZC (Zc (Zd (Za ?_))))))
   refine Lo u38 (Zg (VVal.bool true) (.inr rfl) rfl) ?_
   refine Ze (Zc (Zl ?_))
   refine W10 (.inr rfl) (Zh rfl rfl) ?_
   exact W7m
theorem top_spec {x : SW} (H : Zf) (a : List Nat) (ha : Pat a) (hl : a.length ≤ 12) : F (psys x) 132 [fzN a] H fun v G => v = iI (((szP a a.length : Nat) : Int) - 1) ∧ G = H := by
 refine Zt Tryd.func132 rfl u22 rfl ?_
 refine Zd (Za ?_)
 refine Lo u22 (Zg (VVal.int .i64 0) (.inr rfl) rfl) ?_
 refine Ze (Zc (Zd (Za ?_)))
 refine Lo u22 (Zg (VVal.int .i64 (-1)) (.inr rfl) rfl) ?_
 refine Ze (Zc (Zd (Zd (Za ?_))))
 refine Lo u22 (Zg (VVal.int .i64 0) (.inr rfl) rfl) ?_
 refine Ze (Zc (Zi ?_))
 refine Zu (mk 22 4194278) (env' := u22) rfl ?_
 refine Zx (fun (k : Nat) => a.length - k) (fun (k : Nat) => [(3, iI (((szP a k : Nat) : Int) - 1)), (4, iI (k : Nat))]) (fun (k : Nat) G => (k ≤ a.length) ∧ G = H ++ []) 0 rfl ?_ ?_
 ·refine ⟨?_, rfl⟩
  exact Nat.zero_le _
 rintro k _ ⟨hk, rfl⟩
 refine ZO (env' := u22) rfl ?_
 refine Zd (Zd (Za ?_))
 refine Lo u22 (Zb (.inl rfl) rfl) ?_
 refine Lo u22 (Zb (.inl rfl) rfl) ?_
 refine Lo u22 (rfl) ?_
 refine Lo u22 (rfl) ?_
 refine Ze (Zc ?_)
 refine Zk _ rfl (fun hc1 => ?_) (fun hc1 => ?_)
 ·try simp only [qB, qN] at hc1
  refine Zj (Zc (Zd (Zi (Zd ?_))))
  have hpk := ha k (by omega)
  have hz := @szP_le a k
  refine Za ?_
  refine Lo u22 (Zb (.inl rfl) rfl) ?_
  refine Lo u22 (Zb (.inl rfl) rfl) ?_
  refine Lo u22 (W18 rfl rfl rfl rfl rfl rfl rfl) ?_
  refine Lo u22 (W4x rfl rfl rfl rfl) ?_
  refine Lo u22 (Zb (.inl rfl) rfl) ?_
  refine Lo u22 (rfl) ?_
  refine Ze (Zc ?_)
  refine Zk _ rfl (fun hc2 => ?_) (fun hc2 => ?_)
  ·try simp only [qB, qN] at hc2
   refine Za ?_
   refine Lo u22 (Zb (.inl rfl) rfl) ?_
   refine Lo u22 (Zb (.inl rfl) rfl) ?_
   refine Lo u22 (W18 rfl rfl rfl rfl rfl rfl rfl) ?_
   refine Lo u22 (W4x rfl rfl rfl rfl) ?_
   refine Lo u22 (Zb (.inr rfl) rfl) ?_
   refine Ze (Zy (Zc (Za ?_)))
   refine Lo u22 (Zb (.inl rfl) rfl) ?_
   refine Lo u22 (W14 rfl rfl rfl) ?_
   refine Lo u22 (Zb (.inr rfl) rfl) ?_
   refine Ze ?_
   first
     | (have hE : ((a.getD k 0 : Nat) : Int) = ((szP a (k + 1) : Nat) : Int) - 1 := by rw [szP_succ, if_pos (by omega)]; omega); rw [hE]
     | (have hE : szP a k = szP a (k + 1) := by rw [szP_succ, if_neg (by omega)]); rw [hE]
   refine Zw (mk 22 4194278) (env' := u22) rfl ⟨k + 1, ?_, rfl, ?_⟩
   ·first | omega | (simp only []; omega)
   ·exact ⟨by omega, rfl⟩
  ·try simp only [qB, qN] at hc2
   refine Zj (Zy (Zc (Za ?_)))
   refine Lo u22 (Zb (.inl rfl) rfl) ?_
   refine Lo u22 (W14 rfl rfl rfl) ?_
   refine Lo u22 (Zb (.inr rfl) rfl) ?_
   refine Ze ?_
   first
     | (have hE : ((a.getD k 0 : Nat) : Int) = ((szP a (k + 1) : Nat) : Int) - 1 := by rw [szP_succ, if_pos (by omega)]; omega); rw [hE]
     | (have hE : szP a k = szP a (k + 1) := by rw [szP_succ, if_neg (by omega)]); rw [hE]
   refine Zw (mk 22 4194278) (env' := u22) rfl ⟨k + 1, ?_, rfl, ?_⟩
   ·first | omega | (simp only []; omega)
   ·exact ⟨by omega, rfl⟩
 ·try simp only [qB, qN] at hc1
  refine ZD (ZB (Zv (ZC (Zc (Zd (Za ?_))))))
  refine Lo u22 (Zb (.inl rfl) rfl) ?_
  refine Lo u22 (Zb (.inr rfl) rfl) ?_
  refine Ze (Zc (Zl ?_))
  refine W10 (.inr rfl) (Zh rfl rfl) ?_
  obtain rfl : k = a.length := by omega
  exact ⟨rfl, rfl⟩
theorem Size_spec {x : SW} (H : Zf) (a : List Nat) (ha : Pat a) (hl : a.length ≤ 12) : F (psys x) 101 [fzN a] H fun v G => v = iI (szP a a.length : Nat) ∧ G = H := by
 have hz := @szP_le a a.length
 refine Zt Tryd.func101 rfl u9 rfl ?_
 refine Zd (Za ?_)
 refine Lo u9 (Zg (VVal.int .i64 0) (.inr rfl) rfl) ?_
 refine Ze (Zc (Zd (Zd (Za ?_))))
 refine Lo u9 (Zb (.inl rfl) rfl) ?_
 refine Zs rfl rfl rfl (by exact Legal_spec _ _ ha hl) ?_
 rintro _ _ ⟨rfl, rfl⟩
 refine Le u9 ?_
 refine Lo u9 (rfl) ?_
 refine Ze (Zc ?_)
 refine Z5 rfl rfl ?_
 refine Zj (Zc (Zd (Za ?_)))
 refine Lo u9 (Zb (.inl rfl) rfl) ?_
 refine Zs rfl rfl rfl (by exact top_spec _ _ ha hl) ?_
 rintro _ _ ⟨rfl, rfl⟩
 refine Le u9 ?_
 refine Lo u9 (v_val (v_addI rfl rfl rfl (by omega)) (show iI ((((szP a a.length : Nat) : Int) - 1) + 1) = iI (szP a a.length : Nat) by congr 1; omega)) ?_
 refine Lo u9 (Zb (.inr rfl) rfl) ?_
 refine Ze (Zc (Zl ?_))
 refine W10 (.inr rfl) (Zh rfl rfl) ?_
 exact ⟨rfl, rfl⟩
def bkK (a : List Nat) (b k : Nat) : List Nat := (List.range k).filter fun i => a.getD i 0 == b
abbrev bkL (a : List Nat) (b : Nat) : List Nat := bkK a b a.length
theorem bkK_yes {a : List Nat} {b k : Nat} (h : a.getD k 0 = b) : bkK a b (k + 1) = bkK a b k ++ [k] := by
  unfold bkK; rw [List.range_succ, List.filter_append, List.filter_cons, if_pos (by rw [h]; exact beq_self_eq_true b)]; rfl
theorem bkK_no {a : List Nat} {b k : Nat} (h : ¬ a.getD k 0 = b) : bkK a b (k + 1) = bkK a b k := by
  unfold bkK; rw [List.range_succ, List.filter_append, List.filter_cons, if_neg (by simpa using h)]; simp
theorem bkK_len {a : List Nat} {b k : Nat} : (bkK a b k).length ≤ k := by
  unfold bkK; exact Nat.le_trans (List.length_filter_le _ _) (by simp)
theorem bkL_mem {a : List Nat} {b i : Nat} : i ∈ bkL a b ↔ i < a.length ∧ a.getD i 0 = b := by
  unfold bkL bkK; rw [List.mem_filter, List.mem_range, beq_iff_eq]
abbrev bkC (a : List Nat) (b : Nat) : List VVal := (List.range b).map fun c => fzN (bkL a c)
theorem bkC_succ {a : List Nat} {b : Nat} : bkC a (b + 1) = bkC a b ++ [fzN (bkL a b)] := by
  show (List.range (b + 1)).map _ = _; rw [List.range_succ, List.map_append]; rfl
theorem bkC_get {a : List Nat} {b i : Nat} (h : i < b) : (bkC a b)[((i : Nat) : Int).toNat * 1]? = some (fzN (bkL a i)) := by
  rw [Int.toNat_natCast, Nat.mul_one]; simp [h]
theorem Blocks_spec {x : SW} (H : Zf) (a : List Nat) (ha : Pat a) (hl : a.length ≤ 12) : F (psys x) 130 [fzN a] H fun v G => v = .fsl (bkC a (szP a a.length)) (szP a a.length) 1 false ∧ G = H := by
 have hz := @szP_le a a.length
 refine Zt Tryd.func130 rfl u38 rfl ?_
 refine Zd (Za ?_)
 refine Lo u38 (Zg (VVal.slice none 0 0 true 0) (.inr rfl) rfl) ?_
 refine Ze (Zc (Zd (Za ?_)))
 refine Lo u38 (Zg (VVal.slice none 0 0 true 0) (.inr rfl) rfl) ?_
 refine Ze (Zc (Zd (Zd (Za ?_))))
 refine Lo u38 (Zb (.inl rfl) rfl) ?_
 refine Zs rfl rfl rfl (by exact Legal_spec _ _ ha hl) ?_
 rintro _ _ ⟨rfl, rfl⟩
 refine Le u38 ?_
 refine Lo u38 (rfl) ?_
 refine Ze (Zc ?_)
 refine Z5 rfl rfl ?_
 refine Zj (Zc (Zd (Zd (Za ?_))))
 refine Lo u38 (Zg (VVal.int .i64 0) (.inr rfl) rfl) ?_
 refine Ze (Zc (Zi ?_))
 refine Zu (mk 38 274877906918) (env' := u38) rfl ?_
 refine Zx (fun (⟨b, lv⟩ : Nat × VVal) => szP a a.length - b) (fun (⟨b, lv⟩ : Nat × VVal) => [(3, lv), (4, iI (b : Nat))]) (fun (⟨b, lv⟩ : Nat × VVal) G => (b ≤ szP a a.length) ∧ ∃ X, G = H ++ X ∧ LV H.length 1 X lv (bkC a b) b) ⟨0, _⟩ rfl ?_ ?_
 ·refine ⟨?_, ⟨_, rfl, LV.nil _ _ _⟩⟩
  exact Nat.zero_le _
 rintro ⟨b, lv⟩ _ ⟨hb, ⟨X, rfl, hlv⟩⟩
 refine ZO (env' := u38) rfl ?_
 refine Zd (Zd (Za ?_))
 refine Lo u38 (Zb (.inl rfl) rfl) ?_
 refine Lo u38 (Zb (.inl rfl) rfl) ?_
 refine Zs rfl rfl rfl (by exact top_spec _ _ ha hl) ?_
 rintro _ _ ⟨rfl, rfl⟩
 refine Le u38 ?_
 refine Lo u38 (rfl) ?_
 refine Ze (Zc ?_)
 refine Zk _ rfl (fun hc1 => ?_) (fun hc1 => ?_)
 ·try simp only [qB, qN] at hc1
  refine Zj (Zc (Zd (Zi (Zd (Za ?_)))))
  refine Lo u38 (Zg (VVal.slice none 0 0 true 0) (.inr rfl) rfl) ?_
  refine Ze (Zc (Zd (Zd (Za ?_))))
  refine Lo u38 (Zg (VVal.int .i64 0) (.inr rfl) rfl) ?_
  refine Ze (Zc (Zi ?_))
  refine Zu (mk 38 274877906822) (env' := u38) rfl ?_
  refine Zx (fun (⟨k, ov⟩ : Nat × VVal) => a.length - k) (fun (⟨k, ov⟩ : Nat × VVal) => [(5, ov), (6, iI (k : Nat))]) (fun (⟨k, ov⟩ : Nat × VVal) G => (k ≤ a.length) ∧ ∃ X, G = H ++ X ∧ LV H.length 1 X lv (bkC a b) b ∧ LV H.length 1 X ov (rcN (bkK a b k)) (bkK a b k).length ∧ Dj lv ov) ⟨0, _⟩ rfl ?_ ?_
  ·refine ⟨?_, ⟨X, rfl, hlv, LV.nil _ _ _, Dj.nil _⟩⟩
   exact Nat.zero_le _
  rintro ⟨k, ov⟩ _ ⟨hk, ⟨X, rfl, hlv, hov, hd⟩⟩
  refine ZO (env' := u38) rfl ?_
  refine Zd (Zd (Za ?_))
  refine Lo u38 (Zb (.inl rfl) rfl) ?_
  refine Lo u38 (Zb (.inl rfl) rfl) ?_
  refine Lo u38 (rfl) ?_
  refine Lo u38 (rfl) ?_
  refine Ze (Zc ?_)
  refine Zk _ rfl (fun hc2 => ?_) (fun hc2 => ?_)
  ·try simp only [qB, qN] at hc2
   refine Zj (Zc (Zd (Zi (Zd (Za ?_)))))
   refine Lo u38 (Zb (.inl rfl) rfl) ?_
   refine Lo u38 (Zb (.inl rfl) rfl) ?_
   refine Lo u38 (W18 rfl rfl rfl rfl rfl rfl rfl) ?_
   refine Lo u38 (W4x rfl rfl rfl rfl) ?_
   refine Lo u38 (Zb (.inl rfl) rfl) ?_
   refine Lo u38 (rfl) ?_
   refine Ze (Zc ?_)
   refine Zk _ rfl (fun hc3 => ?_) (fun hc3 => ?_)
   ·try simp only [qB, qN] at hc3
    refine Za ?_
    refine Lo u38 (Zb (.inl rfl) rfl) ?_
    refine Lo u38 (Zb (.inl rfl) rfl) ?_
    refine Lo u38 (Zr rfl rfl (by decide) rfl) ?_
    refine Yt rfl rfl (v_appX rfl rfl rfl rfl rfl rfl rfl hov rfl rfl (by decide) (by have := @bkK_len a b k; show (_ + 1) * 8 ≤ _ ∧ _ + 1 ≤ _; omega) (by decide)) ?_
    rintro _ _ ⟨Y1, rfl, rfl, hY1, hY2, hY3⟩
    refine Le u38 ?_
    refine Lo u38 (Zb (.inr rfl) rfl) ?_
    refine Ze (Zy (Zc (Za ?_)))
    refine Lo u38 (Zb (.inl rfl) rfl) ?_
    refine Lo u38 (W14 rfl rfl rfl) ?_
    refine Lo u38 (Zb (.inr rfl) rfl) ?_
    refine Ze ?_
    refine Zw (mk 38 274877906822) (env' := u38) rfl ⟨⟨k + 1, _⟩, ?_, rfl, ?_⟩
    ·first | omega | (simp only []; omega)
    ·first | exact ⟨by omega, _, rfl, LV.keepN hY3 hlv hd hY2, by rw [bkK_yes (by omega)]; exact LV.pushN hY3, LV.djN hY3 hlv⟩ | exact ⟨by omega, _, rfl, hlv, by rw [bkK_no (by omega)]; exact hov, hd⟩
   ·try simp only [qB, qN] at hc3
    refine Zj (Zy (Zc (Za ?_)))
    refine Lo u38 (Zb (.inl rfl) rfl) ?_
    refine Lo u38 (W14 rfl rfl rfl) ?_
    refine Lo u38 (Zb (.inr rfl) rfl) ?_
    refine Ze ?_
    refine Zw (mk 38 274877906822) (env' := u38) rfl ⟨⟨k + 1, _⟩, ?_, rfl, ?_⟩
    ·first | omega | (simp only []; omega)
    ·first | exact ⟨by omega, _, rfl, LV.keepN hY3 hlv hd hY2, by rw [bkK_yes (by omega)]; exact LV.pushN hY3, LV.djN hY3 hlv⟩ | exact ⟨by omega, _, rfl, hlv, by rw [bkK_no (by omega)]; exact hov, hd⟩
  ·try simp only [qB, qN] at hc2
   refine ZD (ZB (Zv (ZC (Zc ?_))))
   obtain rfl : k = a.length := by omega
   refine B_ghLV (env' := u38) 5 hov rfl rfl fun X4 hX4 hF4 => ?_
   have hlv := LV.keep hlv hd hF4
   refine Za ?_
   refine Lo u38 (Zb (.inl rfl) rfl) ?_
   refine Lo u38 (Zb (.inl rfl) rfl) ?_
   refine Lo u38 (Zr rfl rfl (by decide) rfl) ?_
   refine Yt rfl rfl (v_appX rfl rfl rfl rfl rfl rfl rfl hlv rfl rfl (by decide) (by show (b + 1) * 24 ≤ _ ∧ b + 1 ≤ _; omega) (by decide)) ?_
   rintro _ _ ⟨Y1, rfl, rfl, hY1, hY2, hY3⟩
   refine Le u38 ?_
   refine Lo u38 (Zb (.inr rfl) rfl) ?_
   refine Ze (Zy (Zc (Za ?_)))
   refine Lo u38 (Zb (.inl rfl) rfl) ?_
   refine Lo u38 (W14 rfl rfl rfl) ?_
   refine Lo u38 (Zb (.inr rfl) rfl) ?_
   refine Ze ?_
   refine Zw (mk 38 274877906918) (env' := u38) rfl ⟨⟨b + 1, _⟩, ?_, rfl, ?_⟩
   ·first | omega | (simp only []; omega)
   ·exact ⟨by omega, _, rfl, by rw [bkC_succ]; exact hY3⟩
 ·try simp only [qB, qN] at hc1
  refine ZD (ZB (Zv (ZC (Zc (Zd (Za ?_))))))
  refine Lo u38 (Zb (.inl rfl) rfl) ?_
  refine Lo u38 (Zb (.inr rfl) rfl) ?_
  refine Ze (Zc (Zl ?_))
  refine E_gh (.inr rfl) (Zh rfl rfl) (Gh.ansLV (BaseOk.refl _) hlv (VVal.underL_map (f := fun c => fzN (bkL a c)) fun c => Yv _ _)) ?_
  obtain rfl : b = szP a a.length := by omega
  exact ⟨rfl, rfl⟩
abbrev u24 {a0 a1 a2 a3 a4 a5 a6 a7 a8 a9 a10 a11 a12 a13 a14 a15 a16 a17 a18 a19 a20 a21 a22 a23 : VVal} : VEnv := a0 :: a1 :: a2 :: a3 :: a4 :: a5 :: a6 :: a7 :: a8 :: a9 :: a10 :: a11 :: a12 :: a13 :: a14 :: a15 :: a16 :: a17 :: a18 :: a19 :: a20 :: a21 :: a22 :: a23 :: []
abbrev u58 {a0 a1 a2 a3 a4 a5 a6 a7 a8 a9 a10 a11 a12 a13 a14 a15 a16 a17 a18 a19 a20 a21 a22 a23 a24 a25 a26 a27 a28 a29 a30 a31 a32 a33 a34 a35 a36 a37 a38 a39 a40 a41 a42 a43 a44 a45 a46 a47 a48 a49 a50 a51 a52 a53 a54 a55 a56 a57 : VVal} : VEnv := a0 :: a1 :: a2 :: a3 :: a4 :: a5 :: a6 :: a7 :: a8 :: a9 :: a10 :: a11 :: a12 :: a13 :: a14 :: a15 :: a16 :: a17 :: a18 :: a19 :: a20 :: a21 :: a22 :: a23 :: a24 :: a25 :: a26 :: a27 :: a28 :: a29 :: a30 :: a31 :: a32 :: a33 :: a34 :: a35 :: a36 :: a37 :: a38 :: a39 :: a40 :: a41 :: a42 :: a43 :: a44 :: a45 :: a46 :: a47 :: a48 :: a49 :: a50 :: a51 :: a52 :: a53 :: a54 :: a55 :: a56 :: a57 :: []
theorem W7p {T : TypeId → Option VTy} {H : Zf} {op : Op} {ρ : Operand → VVal} {t : TypeId} {a : Operand} {y : VTy} {p v : VVal} (ho : op = .load t a) (ha : ρ a = p) (hy : T t = some y) (hd : Zm y.desc = false) (h : LdOk H p v := by exact XH47) : vop T ρ H op = some (v, H) := Yu ho ha hy hd h
theorem W7r {T : TypeId → Option VTy} {H : Zf} {op : Op} {ρ : Operand → VVal} {t : TypeId} {a : Operand} {y : VTy} {p : VVal} {n : Nat} {vs : List VVal} (ho : op = .load t a) (ha : ρ a = p) (hy : T t = some y) (hd : Zm y.desc = true) (hn : y.size = n) (h : LdOkA H p n vs := by exact XH47) : vop T ρ H op = some (.agg vs, H) := v_ldA ho ha hy hd hn h
theorem W7w {P : Prop} (h : P := by first | exact ⟨by rw [erlA_no (k := k) (by omega) (by assumption)], rfl⟩ | exact ⟨by rw [erlA_all (by omega) hall], rfl⟩) : P := h
theorem myB_lt {p : Pb} {i u : Nat} (g : Go.V.Good p) (hi : i < p.who.length) (h : (wrd p i).getLsbD u = true) : u < p.users.toNat := by
  have h1 : myB p i (u : Nat) = true := myB_nat.2 h
  have g4 := g.u0
  by_cases hf : 0 ≤ p.fixed.getD i 0
  · rw [myB_f g hi hf, decide_eq_true_eq] at h1
    have := (okW_in g hi).1; omega
  · rw [myB_w g hi (by omega), Bool.and_eq_true, decide_eq_true_eq] at h1; omega
abbrev rwP (p : Pb) (a : List Nat) (i : Nat) : Nat → Bool := fun u => (bkL a i).all fun j => myB p j (u : Nat)
theorem row_is {p : Pb} {a : List Nat} {i : Nat} (g : Go.V.Good p) (ha : Pat a) (hl : a.length = p.who.length) (hi : i < szP a a.length) : wdP (rwP p a i) p.users.toNat = (Z8 (wsP p) a a.length).getD i 0 := by
  refine YA fun v hv => ?_
  rw [wdP_bit hv, Bool.eq_iff_iff, Bool.and_eq_true, decide_eq_true_eq, blk_bit ha hi, List.all_eq_true]
  constructor
  · rintro ⟨_, h⟩ j hj e
    have := h j (bkL_mem.2 ⟨hj, e⟩)
    rw [myB_nat] at this
    rw [wsP_get (by omega)]; exact this
  · intro h
    refine ⟨?_, fun j hj => ?_⟩
    · obtain ⟨j, hj, e⟩ := pat_onto ha hi
      have := h j hj e
      rw [wsP_get (by omega)] at this
      exact myB_lt g (by omega) this
    · obtain ⟨h1, h2⟩ := bkL_mem.1 hj
      have := h j h1 h2
      rw [wsP_get (by omega)] at this
      exact myB_nat.2 this
theorem allN_step {l : List Nat} {k : Nat} {f : Nat → Bool} (h : k < l.length) : (l.take (k + 1)).all f = ((l.take k).all f && f (l.getD k 0)) := by
  rw [Yc (d := 0) h, List.all_append, List.all_cons, List.all_nil, Bool.and_true]
theorem bkL_at {a : List Nat} {b k : Nat} (h : k < (bkL a b).length) : (bkL a b).getD k 0 < a.length := by
  have : (bkL a b).getD k 0 ∈ bkL a b := by rw [List.getD_eq_getElem?_getD, List.getElem?_eq_getElem h]; simp
  exact (bkL_mem.1 this).1
theorem Rows_spec {x : SW} (H : Zf) (p : Pb) (g : Go.V.Good p) (a : List Nat) (ha : Pat a) (hl : a.length = p.who.length) : F (psys x) 100 [.agg (pbB p), fzN a] H fun v G => v = fzW (Z8 (wsP p) a a.length) ∧ G = H := by
 have g1 := g.n12; have g2 := g.u64; have g4 := g.u0
 have hz := @szP_le a a.length
 have hbl := @YC (wsP p) a a.length
 refine Zt Tryd.func100 rfl u58 rfl ?_
 refine Zd (Za ?_)
 refine Lo u58 (ZH rfl rfl rfl) ?_
 refine Lo u58 (Zg (VVal.slice none 0 0 true 0) (.inr rfl) rfl) ?_
 refine Ze (Zc (Zd ?_))
 refine ZY (Gh.freezePtrL (cs := pbB p) 2 0 rfl rfl rfl) ?_
 refine Za ?_
 refine Lo u58 (Zg (VVal.slice none 0 0 true 0) (.inr rfl) rfl) ?_
 refine Ze (Zc (Zd (Za ?_)))
 refine Lo u58 (Zb (.inl rfl) rfl) ?_
 refine Zs rfl rfl rfl (by exact Blocks_spec _ a ha (by omega)) ?_
 rintro _ _ ⟨rfl, rfl⟩
 refine Le u58 ?_
 refine Lo u58 (Zb (.inr rfl) rfl) ?_
 refine Ze (Zc (Zd (Zd (Za ?_))))
 refine Lo u58 (Zg (VVal.int .i64 0) (.inr rfl) rfl) ?_
 refine Ze (Zc (Zi ?_))
 refine Zu (mk 58 288230376151711515) (env' := u58) rfl ?_
 refine Zx (fun (⟨i, lv⟩ : Nat × VVal) => szP a a.length - i) (fun (⟨i, lv⟩ : Nat × VVal) => [(5, lv), (7, iI (i : Nat))]) (fun (⟨i, lv⟩ : Nat × VVal) G => (i ≤ szP a a.length) ∧ ∃ X, G = H ++ X ∧ LV H.length 1 X lv (((Z8 (wsP p) a a.length).take i).map iW) ((Z8 (wsP p) a a.length).take i).length) ⟨0, _⟩ rfl ?_ ?_
 ·refine ⟨?_, ⟨_, rfl, LV.nil _ _ _⟩⟩
  exact Nat.zero_le _
 rintro ⟨i, lv⟩ _ ⟨hi, ⟨X, rfl, hlv⟩⟩
 refine ZO (env' := u58) rfl ?_
 refine Zd (Zd (Za ?_))
 refine Lo u58 (Zb (.inl rfl) rfl) ?_
 refine Lo u58 (Zb (.inl rfl) rfl) ?_
 refine Lo u58 (rfl) ?_
 refine Lo u58 (rfl) ?_
 refine Ze (Zc ?_)
 refine Zk _ rfl (fun hc1 => ?_) (fun hc1 => ?_)
 ·try simp only [qB, qN] at hc1
  refine Zj (Zc (Zd (Zi (Zd (Za ?_)))))
  refine Lo u58 (Zg (VVal.int .u64 0) (.inr rfl) rfl) ?_
  refine Ze (Zc (Zd (Zd (Za ?_))))
  refine Lo u58 (Zg (VVal.int .i64 0) (.inr rfl) rfl) ?_
  refine Ze (Zc (Zi ?_))
  refine Zu (mk 58 288230376151710747) (env' := u58) rfl ?_
  refine Zx (fun (u : Nat) => p.users.toNat - u) (fun (u : Nat) => [(8, iW (wdP (rwP p a i) u)), (9, iI (u : Nat))]) (fun (u : Nat) G => (u ≤ p.users.toNat) ∧ G = H ++ X) 0 (by rw [show wdP (rwP p a i) 0 = 0#64 from wdP_0 _]; rfl) ?_ ?_
  ·refine ⟨?_, rfl⟩
   exact Nat.zero_le _
  rintro u _ ⟨hu, rfl⟩
  refine ZO (env' := u58) rfl ?_
  refine Zd (Zd (Za ?_))
  refine Lo u58 (Zb (.inl rfl) rfl) ?_
  refine Lo u58 (rfl) ?_
  refine Lo u58 (W7p rfl rfl rfl rfl) ?_
  refine Lo u58 (rfl) ?_
  refine Ze (Zc ?_)
  refine Zk _ rfl (fun hc2 => ?_) (fun hc2 => ?_)
  ·try simp only [qB, qN] at hc2
   refine Zj (Zc (Zd (Zi (Zd (Za ?_)))))
   refine Lo u58 (Zg (VVal.bool true) (.inr rfl) rfl) ?_
   refine Ze (Zc (Zd (Zd (Za ?_))))
   refine Lo u58 (Zg (VVal.int .i64 0) (.inr rfl) rfl) ?_
   refine Ze (Zc (Zi ?_))
   refine Zu (mk 58 288230376151707675) (env' := u58) rfl ?_
   refine Zx (fun (⟨k, okb⟩ : Nat × Bool) => (bkL a i).length - k) (fun (⟨k, okb⟩ : Nat × Bool) => [(10, .bool okb), (11, iI (k : Nat))]) (fun (⟨k, okb⟩ : Nat × Bool) G => (k ≤ (bkL a i).length ∧ okb = ((bkL a i).take k).all fun j => myB p j (u : Nat)) ∧ G = H ++ X) ⟨0, true⟩ rfl ?_ ?_
   ·refine ⟨?_, rfl⟩
    exact ⟨Nat.zero_le _, rfl⟩
   rintro ⟨k, okb⟩ _ ⟨⟨hk, hok⟩, rfl⟩
   refine ZO (env' := u58) rfl ?_
   refine Zd (Zd ?_)
   have hbk : (bkL a i).length ≤ a.length := bkK_len
   refine Za ?_
   refine Lo u58 (Zb (.inl rfl) rfl) ?_
   refine Lo u58 (Zb (.inl rfl) rfl) ?_
   refine Lo u58 (Zb (.inl rfl) rfl) ?_
   refine Lo u58 (W18 rfl rfl rfl rfl rfl rfl rfl) ?_
   refine Lo u58 (W7p rfl rfl rfl rfl) ?_
   refine Lo u58 (rfl) ?_
   refine Lo u58 (rfl) ?_
   refine Ze (Zc ?_)
   refine Zk _ rfl (fun hc3 => ?_) (fun hc3 => ?_)
   ·try simp only [qB, qN] at hc3
    refine Zj (Zc (Zd (Zi ?_)))
    refine ZW [0, 1, 2, 3, 4, 5, 6, 7, 8, 9, 10, 11, 12, 13] #[0, 1, 3, 3, 3, 27, 59, 3, 251, 507, 3, 2047, 4095, 8191] XH3 XH3 XH3 ?_
    refine Oo u58 .calm rfl (Zb (.inl rfl) rfl) ?_
    refine Oo u58 .calm rfl (Zb (.inl rfl) rfl) ?_
    refine Y8 36 (env1 := u58) (env2 := u58) rfl rfl rfl (fun hg4 => ?_) (fun hg4 => ?_)
    ·try simp only [qB, qN] at hg4
     refine Oo u58 .look rfl (W7r rfl rfl rfl rfl rfl) ?_
     refine Oo u58 .calm rfl (Zb (.inl rfl) rfl) ?_
     refine Oo u58 .calm rfl (Zb (.inl rfl) rfl) ?_
     refine Oo u58 .calm rfl (W18 rfl rfl rfl rfl rfl rfl rfl) ?_
     refine Oo u58 .look rfl (W7p rfl rfl rfl rfl) ?_
     refine Oo u58 .calm rfl (Zb (.inl rfl) rfl) ?_
     refine Oo u58 .calm rfl (W18 rfl rfl rfl rfl rfl rfl rfl) ?_
     refine Oo u58 .look rfl (W7p rfl rfl rfl rfl) ?_
     refine Oo u58 .calm rfl (Zb (.inl rfl) rfl) ?_
     refine Yb (env' := u58) rfl rfl rfl rfl rfl (by exact May_spec _ p g ((bkL a i).getD k 0) (by have := bkL_at (a := a) (b := i) (k := k) (by omega); omega) (u : Nat)) XH7 rfl rfl ?_
     refine Oo u58 .calm rfl (ZR rfl rfl rfl) ?_
     refine Oo u58 .calm rfl (Zb (.inr rfl) rfl) ?_
     refine ZQ [] XH3 (trivial) ?_
     refine Zy (Zc (Za ?_))
     refine Lo u58 (Zb (.inl rfl) rfl) ?_
     refine Lo u58 (W14 rfl rfl rfl) ?_
     refine Lo u58 (Zb (.inr rfl) rfl) ?_
     refine Ze ?_
     refine Zw (mk 58 288230376151707675) (env' := u58) rfl ⟨⟨k + 1, _⟩, ?_, rfl, ?_⟩
     ·first | omega | (simp only []; omega)
     ·first | exact ⟨⟨by omega, by rw [allN_step (by omega), ← hok, (show okb = true by assumption), Bool.true_and]⟩, rfl⟩ | exact ⟨⟨by omega, by rw [allN_step (by omega), ← hok, (show okb = false by simp_all), Bool.false_and]⟩, rfl⟩
    ·try simp only [qB, qN] at hg4
     refine Of u58 rfl ?_
     refine Of u58 rfl ?_
     refine Of u58 rfl ?_
     refine Of u58 rfl ?_
     refine Of u58 rfl ?_
     refine Of u58 rfl ?_
     refine Of u58 rfl ?_
     refine Of u58 rfl ?_
     refine Of u58 rfl ?_
     refine Of u58 rfl ?_
     refine Oo u58 .calm rfl (ZL (VVal.bool false) rfl rfl rfl) ?_
     refine Oo u58 .calm rfl (Zb (.inr rfl) rfl) ?_
     refine ZQ [] XH3 (trivial) ?_
     refine Zy (Zc (Za ?_))
     refine Lo u58 (Zb (.inl rfl) rfl) ?_
     refine Lo u58 (W14 rfl rfl rfl) ?_
     refine Lo u58 (Zb (.inr rfl) rfl) ?_
     refine Ze ?_
     refine Zw (mk 58 288230376151707675) (env' := u58) rfl ⟨⟨k + 1, _⟩, ?_, rfl, ?_⟩
     ·first | omega | (simp only []; omega)
     ·first | exact ⟨⟨by omega, by rw [allN_step (by omega), ← hok, (show okb = true by assumption), Bool.true_and]⟩, rfl⟩ | exact ⟨⟨by omega, by rw [allN_step (by omega), ← hok, (show okb = false by simp_all), Bool.false_and]⟩, rfl⟩
   ·try simp only [qB, qN] at hc3
    refine ZD (ZB (Zv (ZC (Zc (Zd (Za ?_))))))
    refine Lo u58 (Zb (.inl rfl) rfl) ?_
    refine Ze (Zc ?_)
    refine Zk _ rfl (fun hc5 => ?_) (fun hc5 => ?_)
    ·try simp only [qB, qN] at hc5
     refine Za ?_
     refine Lo u58 (Zb (.inl rfl) rfl) ?_
     refine Lo u58 (Zb (.inl rfl) rfl) ?_
     refine Lo u58 (v_shl1 rfl rfl rfl XH4) ?_
     refine Lo u58 (v_orW rfl rfl rfl) ?_
     refine Lo u58 (Zb (.inr rfl) rfl) ?_
     refine Ze (Zy (Zc (Za ?_)))
     refine Lo u58 (Zb (.inl rfl) rfl) ?_
     refine Lo u58 (W14 rfl rfl rfl) ?_
     refine Lo u58 (Zb (.inr rfl) rfl) ?_
     refine Ze ?_
     obtain rfl : k = (bkL a i).length := by omega
     rw [List.take_length] at hok
     first
       | (have hE : (wdP (rwP p a i) u) ||| 1#64 <<< (u : Int).toNat = wdP (rwP p a i) (u + 1) := wdP_yes (hok.symm.trans (by assumption))); rw [hE]
       | (have hE : (wdP (rwP p a i) u) = wdP (rwP p a i) (u + 1) := wdP_no (hok.symm.trans (by assumption))); rw [hE]
     refine Zw (mk 58 288230376151710747) (env' := u58) rfl ⟨u + 1, ?_, rfl, ?_⟩
     ·first | omega | (simp only []; omega)
     ·exact ⟨by omega, rfl⟩
    ·try simp only [qB, qN] at hc5
     refine Zj (Zy (Zc (Za ?_)))
     refine Lo u58 (Zb (.inl rfl) rfl) ?_
     refine Lo u58 (W14 rfl rfl rfl) ?_
     refine Lo u58 (Zb (.inr rfl) rfl) ?_
     refine Ze ?_
     obtain rfl : k = (bkL a i).length := by omega
     rw [List.take_length] at hok
     first
       | (have hE : (wdP (rwP p a i) u) ||| 1#64 <<< (u : Int).toNat = wdP (rwP p a i) (u + 1) := wdP_yes (hok.symm.trans (by assumption))); rw [hE]
       | (have hE : (wdP (rwP p a i) u) = wdP (rwP p a i) (u + 1) := wdP_no (hok.symm.trans (by assumption))); rw [hE]
     refine Zw (mk 58 288230376151710747) (env' := u58) rfl ⟨u + 1, ?_, rfl, ?_⟩
     ·first | omega | (simp only []; omega)
     ·exact ⟨by omega, rfl⟩
  ·try simp only [qB, qN] at hc2
   refine ZD (ZB (Zv (ZC (Zc ?_))))
   obtain rfl : u = p.users.toNat := by omega
   rw [row_is g ha hl (by omega)]
   refine Za ?_
   refine Lo u58 (Zb (.inl rfl) rfl) ?_
   refine Lo u58 (Zb (.inl rfl) rfl) ?_
   refine Lo u58 (Zr rfl rfl (by decide) rfl) ?_
   refine Yt rfl rfl (v_appX rfl rfl rfl rfl rfl rfl rfl hlv rfl rfl (by decide) XH23 (by decide)) ?_
   rintro _ _ ⟨Y1, rfl, rfl, hY1, hY2, hY3⟩
   refine Le u58 ?_
   refine Lo u58 (Zb (.inr rfl) rfl) ?_
   refine Ze (Zy (Zc (Za ?_)))
   refine Lo u58 (Zb (.inl rfl) rfl) ?_
   refine Lo u58 (W14 rfl rfl rfl) ?_
   refine Lo u58 (Zb (.inr rfl) rfl) ?_
   refine Ze ?_
   refine Zw (mk 58 288230376151711515) (env' := u58) rfl ⟨⟨i + 1, _⟩, ?_, rfl, ?_⟩
   ·first | omega | (simp only []; omega)
   ·exact ⟨by omega, _, rfl, by rw [Yc (d := 0) (by omega)]; exact LV.pushW hY3⟩
 ·try simp only [qB, qN] at hc1
  refine ZD (ZB (Zv (ZC (Zc (Zd (Za ?_))))))
  refine Lo u58 (Zb (.inl rfl) rfl) ?_
  refine Lo u58 (Zb (.inr rfl) rfl) ?_
  refine Ze (Zc (Zl ?_))
  refine E_gh (.inr rfl) (Zh rfl rfl) (Gh.ansLV (BaseOk.refl _) hlv (Y5 _ _)) ?_
  rw [List.take_of_length_le (by omega)]
  exact ⟨rfl, rfl⟩
theorem fEarlyN {x : SW} (H : Zf) (r : Rul) (n : Int) (a : List Nat) (hl : r.steps.length ≤ 1000000) : F (psys x) 127 [.agg (rlB r), iI n, fzN a] H fun v G => v = .bool (erl r n (zI a)) ∧ G = H := by
  rw [fzN_is]; exact fEarly_spec H r n (zI a) hl
theorem erlA_no {n : Nat} {rs : List Rul} {a : List Nat} {k : Nat} (hk : k < rs.length) (h : erl (rs.getD k r0) n (zI a) = false) : erlA n rs a = false := all_bad (f := fun r => erl r n (zI a)) hk h
theorem erlA_all {n : Nat} {rs : List Rul} {a : List Nat} {k : Nat} (hk : rs.length ≤ k) (h : (rs.take k).all (fun r => erl r n (zI a)) = true) : erlA n rs a = true := all_full hk h
theorem early_spec {x : SW} (H : Zf) (p : Pb) (hp : PbL p) (a : List Nat) : F (psys x) 149 [.agg (pbB p), fzN a] H fun v G => v = .bool (erlA p.who.length p.rules a) ∧ G = H := by
 have h1 := hp.w; have h3 := hp.r; have h4 := hp.s
 refine Zt Tryd.func149 rfl u24 rfl ?_
 refine Zd (Za ?_)
 refine Lo u24 (ZH rfl rfl rfl) ?_
 refine Lo u24 (Zg (VVal.bool false) (.inr rfl) rfl) ?_
 refine Ze (Zc (Zd (Zd ?_)))
 refine ZY (Gh.freezePtrL (cs := pbB p) 2 0 rfl rfl rfl) ?_
 refine Za ?_
 refine Lo u24 (Zg (VVal.int .i64 0) (.inr rfl) rfl) ?_
 refine Ze (Zc (Zi ?_))
 refine Zu (mk 24 16777177) (env' := u24) rfl ?_
 refine Zx (fun (k : Nat) => p.rules.length - k) (fun (k : Nat) => [(5, iI (k : Nat))]) (fun (k : Nat) G => (k ≤ p.rules.length ∧ (p.rules.take k).all (fun r => erl r p.who.length (zI a)) = true) ∧ G = H ++ [.dead]) 0 rfl ?_ ?_
 ·refine ⟨?_, rfl⟩
  exact ⟨Nat.zero_le _, rfl⟩
 rintro k _ ⟨⟨hk, hall⟩, rfl⟩
 refine ZO (env' := u24) rfl ?_
 refine Zd (Zd (Za ?_))
 refine Lo u24 (Zb (.inl rfl) rfl) ?_
 refine Lo u24 (rfl) ?_
 refine Lo u24 (W2r rfl rfl rfl rfl) ?_
 refine Lo u24 (rfl) ?_
 refine Lo u24 (rfl) ?_
 refine Ze (Zc ?_)
 refine Zk _ rfl (fun hc1 => ?_) (fun hc1 => ?_)
 ·try simp only [qB, qN] at hc1
  refine Zj (Zc (Zd (Zi (Zd ?_))))
  refine ZW [0, 1, 2, 3, 4, 5, 6, 7, 8, 9, 10] #[0, 1, 0, 7, 15, 0, 32, 96, 0, 511, 1023] XH3 XH3 XH3 ?_
  refine Oo u24 .calm rfl (rfl) ?_
  refine Oo u24 .look rfl (W2r rfl rfl rfl rfl) ?_
  refine Oo u24 .calm rfl (Zb (.inl rfl) rfl) ?_
  refine Oo u24 .calm rfl (W18 rfl rfl rfl rfl rfl rfl rfl) ?_
  refine Oo u24 .look rfl (W2p rfl rfl rfl rfl rfl) ?_
  refine Oo u24 .calm rfl (rfl) ?_
  refine Oo u24 .look rfl (W2r rfl rfl rfl rfl) ?_
  refine Oo u24 .look rfl (rfl) ?_
  refine Oo u24 .calm rfl (Zb (.inl rfl) rfl) ?_
  refine Yb (env' := u24) rfl rfl rfl rfl rfl (by exact fEarlyN _ _ _ _ (h4 _ (Yy (by omega)))) XH7 rfl rfl ?_
  refine Oo u24 .calm rfl (rfl) ?_
  refine ZQ [] XH3 (trivial) ?_
  refine Zc ?_
  refine Zk _ rfl (fun hc2 => ?_) (fun hc2 => ?_)
  ·try simp only [qB, qN] at hc2
   refine Zd (Za ?_)
   refine Lo u24 (Zg (VVal.bool false) (.inr rfl) rfl) ?_
   refine Ze (Zc (Zl (ZA (Zn (Z3 (ZA (Zn ?_)))))))
   refine W10 (.inr rfl) (Zh rfl rfl) ?_
   exact W7w
  ·try simp only [qB, qN] at hc2
   refine Zj (Zy (Zc (Za ?_)))
   refine Lo u24 (Zb (.inl rfl) rfl) ?_
   refine Lo u24 (W14 rfl rfl rfl) ?_
   refine Lo u24 (Zb (.inr rfl) rfl) ?_
   refine Ze ?_
   refine Zw (mk 24 16777177) (env' := u24) rfl ⟨k + 1, ?_, rfl, ?_⟩
   ·first | omega | (simp only []; omega)
   ·exact ⟨⟨by omega, all_step (by omega) hall (by assumption)⟩, rfl⟩
 ·try simp only [qB, qN] at hc1
  refine ZD (ZB (Zv (ZC (Zc (Zd (Za ?_))))))
  refine Lo u24 (Zg (VVal.bool true) (.inr rfl) rfl) ?_
  refine Ze (Zc (Zl ?_))
  refine W10 (.inr rfl) (Zh rfl rfl) ?_
  exact W7w
abbrev u69 {a0 a1 a2 a3 a4 a5 a6 a7 a8 a9 a10 a11 a12 a13 a14 a15 a16 a17 a18 a19 a20 a21 a22 a23 a24 a25 a26 a27 a28 a29 a30 a31 a32 a33 a34 a35 a36 a37 a38 a39 a40 a41 a42 a43 a44 a45 a46 a47 a48 a49 a50 a51 a52 a53 a54 a55 a56 a57 a58 a59 a60 a61 a62 a63 a64 a65 a66 a67 a68 : VVal} : VEnv := a0 :: a1 :: a2 :: a3 :: a4 :: a5 :: a6 :: a7 :: a8 :: a9 :: a10 :: a11 :: a12 :: a13 :: a14 :: a15 :: a16 :: a17 :: a18 :: a19 :: a20 :: a21 :: a22 :: a23 :: a24 :: a25 :: a26 :: a27 :: a28 :: a29 :: a30 :: a31 :: a32 :: a33 :: a34 :: a35 :: a36 :: a37 :: a38 :: a39 :: a40 :: a41 :: a42 :: a43 :: a44 :: a45 :: a46 :: a47 :: a48 :: a49 :: a50 :: a51 :: a52 :: a53 :: a54 :: a55 :: a56 :: a57 :: a58 :: a59 :: a60 :: a61 :: a62 :: a63 :: a64 :: a65 :: a66 :: a67 :: a68 :: []
theorem W7y {T : TypeId → Option VTy} {H : Zf} {op : Op} {ρ : Operand → VVal} {t : TypeId} {a : Operand} {y : VTy} {p v : VVal} (ho : op = .load t a) (ha : ρ a = p) (hy : T t = some y) (hd : Zm y.desc = false) (h : LdOk H p v := by first | exact .inl ⟨_, _, rfl, by first | exact fget (α := BitVec 64) 0 (by omega) | exact fget0 (α := Int) 0 (by omega) | rfl⟩ | exact .inr ⟨_, _, _, _, rfl, by first | exact tr_q hqH | exact tr_p hpH hpq, by first | exact fget (α := BitVec 64) 0 (by omega) | exact fget0 (α := Int) 0 (by omega) | rfl⟩) : vop T ρ H op = some (v, H) := Yu ho ha hy hd h
theorem W80 {T : TypeId → Option VTy} {H : Zf} {op : Op} {ρ : VEnv} {H' : Zf} {t : TypeId} {a : Operand} {i : Nat} {v : VVal} {y : VTy} {b off : Nat} {cs new : List VVal} (ho : op = .store t a (.tmp i)) (hv : ρ[i]? = some v) (ha : ρ.eval a = .ptr (some (b, off))) (hy : T t = some y) (hx : v.cells = some new) (hn : new.length = y.size) (h1 : new.all VVal.one = true) (hb : H[b]? = some (.cells cs true) := by first | exact tr_q hqH | exact tr_p hpH hpq) (hl : off + new.length ≤ cs.length := by exact XH40) (hH : H.set b (.cells (ZE cs off new) true) = H' := by exact tr_setq hqH) : vop T ρ.eval H op = some (.skip, H') := ZZ ho hv ha hy hx hn h1 hb hl hH
theorem W81 {T : TypeId → Option VTy} {H : Zf} {op : Op} {ρ : Operand → VVal} {t : TypeId} {a : Operand} {y : VTy} {p v : VVal} (ho : op = .load t a) (ha : ρ a = p) (hy : T t = some y) (hd : Zm y.desc = false) (h : LdOk H p v := by first | exact .inl ⟨_, _, rfl, by exact fget0 (α := Int) (l := s1.1) 0 (by omega)⟩ | exact .inr ⟨_, _, _, _, rfl, by first | exact tr_q hqH | exact tr_p hpH hpq, by exact fget0 (α := Int) (l := s1.1) 0 (by omega)⟩) : vop T ρ H op = some (v, H) := Yu ho ha hy hd h
theorem W82 {T : TypeId → Option VTy} {H : Zf} {op : Op} {ρ : VEnv} {H' : Zf} {t : TypeId} {a : Operand} {i : Nat} {v : VVal} {y : VTy} {b off : Nat} {cs new : List VVal} (ho : op = .store t a (.tmp i)) (hv : ρ[i]? = some v) (ha : ρ.eval a = .ptr (some (b, off))) (hy : T t = some y) (hx : v.cells = some new) (hn : new.length = y.size) (h1 : new.all VVal.one = true) (hb : H[b]? = some (.cells cs true) := by first | exact tr_q hqH | exact tr_p hpH hpq) (hl : off + new.length ≤ cs.length := by first | exact has_len (s := (s1.1, 0#64)) (show i < s1.1.length by omega) | exact has_len (s := (trn rows n k (s1.1, s1.2 ||| 1#64 <<< u)).2) (by rw [trn_len]; show i < s1.1.length; omega)) (hH : H.set b (.cells (ZE cs off new) true) = H' := by first | exact tr_setp hpH hpq (show i < s1.1.length by omega) | exact tr_setp hpH hpq (by rw [trn_len]; show i < s1.1.length; omega)) : vop T ρ.eval H op = some (.skip, H') := ZZ ho hv ha hy hx hn h1 hb hl hH
theorem W83 {S : V.Sys} {H : Zf} {fn : Func} {ex : Exit} {env : VEnv} {B L : Zf} {v : VVal} {R : VVal → Zf → Prop} (hx : ex = .normal ∨ ex = .ret) (hv : ZT S.C.T env (B ++ L) fn.results = some v) (h : R v B) (hB : BaseOk H B := by exact tr_base) (hu : v.under H.length = true := by exact XH50) : fnK S fn H R ex env (B ++ L) := YZ hx hv hB hu h
theorem W84 {P : Prop} (h : P := by first | (obtain rfl : u = 64 := by omega); exact ⟨by rw [hg]; rfl, by rw [hg]; rfl⟩ | exact ⟨by rw [hg, hf, if_pos (by omega)], by rw [hg, hf, if_pos (by omega)]; rfl⟩ | exact ⟨by rw [hg, hf, if_neg (by omega), if_pos (by assumption)], by rw [hg, hf, if_neg (by omega), if_pos (by assumption)]; rfl⟩) : P := h
abbrev haB (has : List Int) : VBlk := .cells (has.map iI) true
def trH (H : Zf) (p q : Nat) (s : HSt) : Zf := (H.set p (haB s.1)).set q (seB s.2)
section
variable {H L : Zf} {p q : Nat} {s : HSt}
theorem trH_len {n : Nat} (h : H.length = n) : (trH H p q s).length = n := by unfold trH; rw [List.length_set, List.length_set]; exact h
theorem trH_id {has : List Int} {w : BitVec 64} (hp : H[p]? = some (haB has)) (hq : H[q]? = some (seB w)) : trH H p q (has, w) = H := by
  unfold trH; rw [← YQ hp, ← YQ hq]
theorem tr_q (hq : q < H.length) : (trH H p q s ++ L)[q]? = some (seB s.2) := by
  unfold trH; exact Zo (List.getElem?_set_self (by rw [List.length_set]; exact hq))
theorem tr_p (hp : p < H.length) (hpq : p ≠ q) : (trH H p q s ++ L)[p]? = some (haB s.1) := by
  unfold trH; exact Zo (by rw [List.getElem?_set_ne (Ne.symm hpq)]; exact List.getElem?_set_self hp)
theorem tr_setq {w : BitVec 64} (hq : q < H.length) : (trH H p q s ++ L).set q (seB w) = trH H p q (s.1, w) ++ L := by
  rw [Ya (by rw [trH_len rfl]; exact hq)]; unfold trH; rw [List.set_set]
theorem tr_setp0 {k : VBlk} (hp : p < H.length) (hpq : p ≠ q) : (trH H p q s ++ L).set p k = (H.set p k).set q (seB s.2) ++ L := by
  rw [Ya (by rw [trH_len rfl]; exact hp)]; unfold trH
  rw [List.set_comm _ _ (Ne.symm hpq), List.set_set]
theorem splice_i {l : List Int} {k : Nat} {r : Int} (h : k < l.length) : ZE (l.map iI) (0 + k * 1) [iI r] = (l.set k r).map iI := by
  rw [show 0 + k * 1 = k by omega]
  unfold ZE
  rw [List.map_set, List.set_eq_take_append_cons_drop, if_pos (by rw [List.length_map]; exact h)]; simp
theorem tr_setp {i : Nat} {r : Int} (hp : p < H.length) (hpq : p ≠ q) (hi : i < s.1.length) : (trH H p q s ++ L).set p (.cells (ZE (s.1.map iI) (0 + i * 1) [iI r]) true) = trH H p q (s.1.set i r, s.2) ++ L := by
  rw [splice_i hi, tr_setp0 hp hpq]; rfl
theorem tr_tr {t : HSt} (hp : p < H.length) (hq : q < H.length) (hpq : p ≠ q) : trH (trH H p q s ++ L) p q t = trH H p q t ++ L := by
  have : trH (trH H p q s ++ L) p q t = ((trH H p q s ++ L).set p (haB t.1)).set q (seB t.2) := rfl
  rw [this, tr_setp0 hp hpq, Ya (by simp; exact hq), List.set_set]; rfl
theorem tr_base : BaseOk H (trH H p q s) := BaseOk.set (BaseOk.set (BaseOk.refl _) _ (by show VVal.underL _ (s.1.map iI) = true; exact mapI_under _ _)) _ rfl
theorem has_len {i : Nat} {v : VVal} (h : i < s.1.length) : 0 + i * 1 + [v].length ≤ (s.1.map iI).length := by
  show 0 + i * 1 + 1 ≤ (s.1.map iI).length
  rw [List.length_map]; omega
end
theorem trn_len {rows : List (BitVec 64)} : ∀ {n i : Nat} {s : HSt}, (trn rows n i s).2.1.length = s.1.length := by
  have hL : ∀ (g : Nat → HSt → Bool × HSt), (∀ k s, (g k s).2.1.length = s.1.length) → ∀ (i : Nat) (l : List Nat) (s : HSt), (trL g rows i l s).2.1.length = s.1.length := by
    intro g hg i l
    induction l with
    | nil => intro s; rfl
    | cons u l ih =>
      intro s
      rw [trL]
      split
      · exact ih s
      · split
        · simp
        · split
          · simp [hg]
          · rw [ih, hg]
  intro n
  induction n with
  | zero => intro i s; rfl
  | succ n ih => intro i s; rw [trn]; exact hL _ (fun k s => ih) i _ s
theorem trn_sub {rows : List (BitVec 64)} : ∀ {n i : Nat} {s : HSt}, subW s.2 (trn rows n i s).2.2 := by
  have hL : ∀ (g : Nat → HSt → Bool × HSt), (∀ k s, subW s.2 (g k s).2.2) → ∀ (i : Nat) (l : List Nat) (s : HSt), (∀ u, u ∈ l → u < 64) → subW s.2 (trL g rows i l s).2.2 := by
    intro g hg i l
    induction l with
    | nil => intro s _ _ h; exact h
    | cons u l ih =>
      intro s hl
      have hu := hl u (List.mem_cons_self ..)
      have hl' : ∀ v, v ∈ l → v < 64 := fun v hv => hl v (List.mem_cons_of_mem _ hv)
      have h1 : subW s.2 (s.2 ||| 1#64 <<< u) := fun a ha => (or1 hu).2 (.inl ha)
      have h2 := hg (fndK s.1 u) (s.1, s.2 ||| 1#64 <<< u)
      rw [trL]
      split
      · exact ih s hl'
      · split
        · exact h1
        · split
          · exact fun a ha => h2 a (h1 a ha)
          · exact fun a ha => ih _ hl' a (h2 a (h1 a ha))
  intro n
  induction n with
  | zero => intro i s _ h; exact h
  | succ n ih => intro i s; rw [trn]; exact hL _ (fun k s => ih) i _ s fun u hu => List.mem_range.1 hu
theorem sh_not0 {d : BitVec 64} {k : Nat} (h : ¬ d >>> k &&& 1#64 = 0#64) : d.getLsbD k = true := by rw [sh0] at h; simpa using h
theorem YS {g : Nat → HSt → Bool × HSt} {rows : List (BitVec 64)} {i u : Nat} {s : HSt} (hu : u < 64) : trL g rows i ((List.range 64).drop u) s = if (rows.getD i 0).getLsbD u = false ∨ s.2.getLsbD u = true then trL g rows i ((List.range 64).drop (u + 1)) s
    else if fndK s.1 u = s.1.length then (true, (s.1.set i (u : Int), s.2 ||| 1#64 <<< u))
    else if (g (fndK s.1 u) (s.1, s.2 ||| 1#64 <<< u)).1 = true then (true, ((g (fndK s.1 u) (s.1, s.2 ||| 1#64 <<< u)).2.1.set i (u : Int), (g (fndK s.1 u) (s.1, s.2 ||| 1#64 <<< u)).2.2))
    else trL g rows i ((List.range 64).drop (u + 1)) (g (fndK s.1 u) (s.1, s.2 ||| 1#64 <<< u)).2 := by
  rw [List.drop_eq_getElem_cons (by simpa using hu), trL]; simp only [List.getElem_range]
theorem turn_in {x : SW} {p q n : Nat} {ex : Bool} {rows : List (BitVec 64)} (hpq : p ≠ q) (ih : ∀ (H : Zf) (i : Nat) (has : List Int) (S : BitVec 64), H[p]? = some (haB has) → H[q]? = some (seB S) → i < rows.length → has.length = rows.length → 64 - YG 64 S < n → F (psys x) 161 [fzW rows, .slice (some (p, 0)) rows.length rows.length ex 1, .ptr (some (q, 0)), iI (i : Nat)] H fun v G => v = .bool (trn rows n i (has, S)).1 ∧ G = trH H p q (trn rows n i (has, S)).2) (H L : Zf) (s : HSt) (hp : p < H.length) (hq : q < H.length) (i : Nat) (hi : i < rows.length) (hk : s.1.length = rows.length) (hm : 64 - YG 64 s.2 < n) :
    F (psys x) 161 [fzW rows, .slice (some (p, 0)) rows.length rows.length ex 1, .ptr (some (q, 0)), iI (i : Nat)] (trH H p q s ++ L) fun v G => v = .bool (trn rows n i s).1 ∧ G = trH H p q (trn rows n i s).2 ++ L := by
  have := ih (trH H p q s ++ L) i s.1 s.2 (tr_p hp hpq) (tr_q hq) hi hk hm
  rw [tr_tr hp hq hpq] at this
  exact this
theorem turn_s {x : SW} (p q n : Nat) (ex : Bool) (rows : List (BitVec 64)) (hpq : p ≠ q) (h62 : rows.length ≤ 1000000) (ih : ∀ (H : Zf) (i : Nat) (has : List Int) (S : BitVec 64), H[p]? = some (haB has) → H[q]? = some (seB S) → i < rows.length → has.length = rows.length → 64 - YG 64 S < n → F (psys x) 161 [fzW rows, .slice (some (p, 0)) rows.length rows.length ex 1, .ptr (some (q, 0)), iI (i : Nat)] H fun v G => v = .bool (trn rows n i (has, S)).1 ∧ G = trH H p q (trn rows n i (has, S)).2) (H : Zf) (i : Nat) (has : List Int) (S : BitVec 64) (hp : H[p]? = some (haB has)) (hq : H[q]? = some (seB S)) (hi : i < rows.length) (hhl : has.length = rows.length) (hm : 64 - YG 64 S < n + 1) : F (psys x) 161 [fzW rows, .slice (some (p, 0)) rows.length rows.length ex 1, .ptr (some (q, 0)), iI (i : Nat)] H fun v G => v = .bool (trn rows (n + 1) i (has, S)).1 ∧ G = trH H p q (trn rows (n + 1) i (has, S)).2 := by
 have hpH := ZF hp
 have hqH := ZF hq
 refine Zt Tryd.func161 rfl u69 rfl ?_
 refine Zd (Za ?_)
 refine Lo u69 (Zg (VVal.bool false) (.inr rfl) rfl) ?_
 refine Ze (Zc (Zd (Zd (Za ?_))))
 refine Lo u69 (Zg (VVal.int .i64 0) (.inr rfl) rfl) ?_
 refine Ze (Zc (Zi ?_))
 refine Zu (mk 69 590295810358705651184) (env' := u69) rfl ?_
 refine Zx (fun (⟨u, s1⟩ : Nat × HSt) => 64 - u) (fun (⟨u, s1⟩ : Nat × HSt) => [(9, iI (u : Nat))]) (fun (⟨u, s1⟩ : Nat × HSt) G => (u ≤ 64 ∧ s1.1.length = rows.length ∧ 64 - YG 64 s1.2 ≤ n ∧ trn rows (n + 1) i (has, S) = trL (trn rows n) rows i ((List.range 64).drop u) s1) ∧ G = trH H p q s1 ++ []) ⟨0, (has, S)⟩ rfl ?_ ?_
 ·refine ⟨?_, (by rw [trH_id hp hq])⟩
  exact ⟨Nat.zero_le _, hhl, by show 64 - YG 64 S ≤ n; omega, rfl⟩
 rintro ⟨u, s1⟩ _ ⟨⟨hu, hl1, hcm, hg⟩, rfl⟩
 refine ZO (env' := u69) rfl ?_
 have hil : i < s1.1.length := by omega
 refine Zd (Zd (Za ?_))
 refine Lo u69 (Zb (.inl rfl) rfl) ?_
 refine Lo u69 (rfl) ?_
 refine Ze (Zc ?_)
 refine Zk _ rfl (fun hc1 => ?_) (fun hc1 => ?_)
 ·try simp only [qB] at hc1
  refine Zj (Zc (Zd (Zi (Zd (Zd (Za ?_))))))
  refine Lo u69 (Zb (.inl rfl) rfl) ?_
  refine Lo u69 (Zb (.inl rfl) rfl) ?_
  refine Lo u69 (W18 rfl rfl rfl rfl rfl rfl rfl) ?_
  refine Lo u69 (W7y rfl rfl rfl rfl) ?_
  refine Lo u69 (Zb (.inl rfl) rfl) ?_
  refine Lo u69 (v_shrW rfl rfl rfl XH4) ?_
  refine Lo u69 (v_andW (b := 1#64) rfl rfl rfl) ?_
  refine Lo u69 (rfl) ?_
  refine Lo u69 (Zb (.inl rfl) rfl) ?_
  refine ZK 23 (env1 := u69) (env2 := u69) rfl rfl rfl (fun hg2 => ?_) (fun hg2 => ?_)
  ·try simp only [qB] at hg2
   refine Lf u69 ?_
   refine Lf u69 ?_
   refine Lf u69 ?_
   refine Lf u69 ?_
   refine Lf u69 ?_
   refine Lf u69 ?_
   refine Lf u69 ?_
   refine Lo u69 (ZN (VVal.bool true) rfl rfl rfl) ?_
   refine Ze (Zc ?_)
   refine ZU rfl rfl ?_
   refine ZD (ZB (ZC (Zc (Za ?_))))
   refine Lo u69 (Zb (.inl rfl) rfl) ?_
   refine Lo u69 (W14 rfl rfl rfl) ?_
   refine Lo u69 (Zb (.inr rfl) rfl) ?_
   refine Ze ?_
   refine Zw (mk 69 590295810358705651184) (env' := u69) rfl ⟨⟨u + 1, s1⟩, ?_, rfl, ?_⟩
   ·first | omega | (simp only []; omega)
   ·first | exact ⟨⟨by omega, hl1, hcm, by rw [hg, YS (by omega), if_pos (.inl (sh0.1 (by assumption)))]⟩, rfl⟩ | exact ⟨⟨by omega, hl1, hcm, by rw [hg, YS (by omega), if_pos (.inr (sh1.1 (by assumption)))]⟩, rfl⟩ | exact ⟨⟨by omega, trn_len.trans hl1, XH12, by rw [hg, hf, if_neg (by omega), if_neg (not_of_f (by assumption))]⟩, rfl⟩
  ·try simp only [qB] at hg2
   refine Lo u69 (Zb (.inl rfl) rfl) ?_
   refine Lo u69 (rfl) ?_
   refine Lo u69 (W7y rfl rfl rfl rfl) ?_
   refine Lo u69 (Zb (.inl rfl) rfl) ?_
   refine Lo u69 (v_shrW rfl rfl rfl XH4) ?_
   refine Lo u69 (v_andW (b := 1#64) rfl rfl rfl) ?_
   refine Lo u69 (rfl) ?_
   refine Lo u69 (ZX rfl rfl rfl) ?_
   refine Ze (Zc ?_)
   refine Zk _ rfl (fun hc3 => ?_) (fun hc3 => ?_)
   ·try simp only [qB] at hc3
    refine ZD (ZB (ZC (Zc (Za ?_))))
    refine Lo u69 (Zb (.inl rfl) rfl) ?_
    refine Lo u69 (W14 rfl rfl rfl) ?_
    refine Lo u69 (Zb (.inr rfl) rfl) ?_
    refine Ze ?_
    refine Zw (mk 69 590295810358705651184) (env' := u69) rfl ⟨⟨u + 1, s1⟩, ?_, rfl, ?_⟩
    ·first | omega | (simp only []; omega)
    ·first | exact ⟨⟨by omega, hl1, hcm, by rw [hg, YS (by omega), if_pos (.inl (sh0.1 (by assumption)))]⟩, rfl⟩ | exact ⟨⟨by omega, hl1, hcm, by rw [hg, YS (by omega), if_pos (.inr (sh1.1 (by assumption)))]⟩, rfl⟩ | exact ⟨⟨by omega, trn_len.trans hl1, XH12, by rw [hg, hf, if_neg (by omega), if_neg (not_of_f (by assumption))]⟩, rfl⟩
   ·try simp only [qB] at hc3
    refine Zj (Zc (Zd ?_))
    have hu64 : u < 64 := by omega
    have hbit : (rows.getD i 0).getLsbD u = true := sh_not0 (by assumption)
    have hseen : s1.2.getLsbD u = false := sh1n.1 (by assumption)
    have hcond : ¬ ((rows.getD i 0).getLsbD u = false ∨ s1.2.getLsbD u = true) := fun e => e.elim (fun h => by rw [hbit] at h; cases h) (fun h => by rw [hseen] at h; cases h)
    have hcg := come_grow (s := s1.2) (t := s1.2 ||| 1#64 <<< u) (fun a ha => (or1 hu64).2 (.inl ha)) ⟨u, (or1 hu64).2 (.inr rfl), hseen⟩
    have hcl := come_le (s1.2 ||| 1#64 <<< u)
    rw [YS hu64, if_neg hcond] at hg
    refine ZW [0, 1, 2, 3, 4, 5, 6, 7, 8] #[0, 0, 2, 6, 0, 16, 62, 127, 255] XH3 XH3 XH3 ?_
    refine Oo u69 .calm rfl (Zb (.inl rfl) rfl) ?_
    refine Oo u69 .calm rfl (Zb (.inl rfl) rfl) ?_
    refine Oo u69 .calm rfl (rfl) ?_
    refine Oo u69 .look rfl (W7y rfl rfl rfl rfl) ?_
    refine Oo u69 .calm rfl (Zb (.inl rfl) rfl) ?_
    refine Oo u69 .calm rfl (v_shl1 rfl rfl rfl XH4) ?_
    refine Oo u69 .calm rfl (v_orW rfl rfl rfl) ?_
    refine Oo u69 .calm rfl (rfl) ?_
    refine Oo u69 .turn rfl (W80 rfl rfl rfl rfl rfl rfl rfl) ?_
    refine ZQ [] XH3 (trivial) ?_
    refine Zc (Zd (Za ?_))
    refine Lo u69 (Zg (VVal.int .i64 0) (.inr rfl) rfl) ?_
    refine Ze (Zc (Zd (Zi ?_)))
    refine Zu (mk 69 590295810358705650160) (env' := u69) rfl ?_
    refine Zx (fun (k : Nat) => rows.length - k) (fun (k : Nat) => [(10, iI (k : Nat))]) (fun (k : Nat) G => (k ≤ rows.length ∧ ∀ j, j < k → s1.1.getD j 0 ≠ (u : Int)) ∧ G = trH H p q (s1.1, s1.2 ||| 1#64 <<< u) ++ []) 0 rfl ?_ ?_
    ·refine ⟨?_, rfl⟩
     exact ⟨Nat.zero_le _, fun j h => by omega⟩
    rintro k _ ⟨⟨hk, hno⟩, rfl⟩
    refine ZO (env' := u69) rfl ?_
    refine Zd (Zd (Za ?_))
    refine Lo u69 (Zb (.inl rfl) rfl) ?_
    refine Lo u69 (Zb (.inl rfl) rfl) ?_
    refine Lo u69 (rfl) ?_
    refine Lo u69 (rfl) ?_
    refine Lo u69 (Zb (.inl rfl) rfl) ?_
    refine ZK 44 (env1 := u69) (env2 := u69) rfl rfl rfl (fun hg4 => ?_) (fun hg4 => ?_)
    ·try simp only [qB] at hg4
     refine Lo u69 (Zb (.inl rfl) rfl) ?_
     refine Lo u69 (Zb (.inl rfl) rfl) ?_
     refine Lo u69 (W18 rfl rfl rfl rfl rfl rfl rfl) ?_
     refine Lo u69 (W81 rfl rfl rfl rfl) ?_
     refine Lo u69 (Zb (.inl rfl) rfl) ?_
     refine Lo u69 (rfl) ?_
     refine Lo u69 (ZR rfl rfl rfl) ?_
     refine Ze (Zc ?_)
     refine Zk _ rfl (fun hc5 => ?_) (fun hc5 => ?_)
     ·try simp only [qB] at hc5
      refine Zj (Zc (Zi (Za ?_)))
      refine Lo u69 (Zb (.inl rfl) rfl) ?_
      refine Lo u69 (W14 rfl rfl rfl) ?_
      refine Lo u69 (Zb (.inr rfl) rfl) ?_
      refine Ze (Zy ?_)
      refine Zw (mk 69 590295810358705650160) (env' := u69) rfl ⟨k + 1, ?_, rfl, ?_⟩
      ·first | omega | (simp only []; omega)
      ·exact ⟨⟨by omega, fun j hj => by by_cases e : j = k; (subst e; assumption); exact hno j (by omega)⟩, rfl⟩
     ·try simp only [qB] at hc5
      refine ZD (ZB (Zv (ZC (Zc (Zd ?_)))))
      have hf : fndK s1.1 u = k := fndK_is (by omega) hno (by first | exact .inr (by assumption) | exact .inl (by omega))
      refine Za ?_
      refine Lo u69 (Zb (.inl rfl) rfl) ?_
      refine Lo u69 (Zb (.inl rfl) rfl) ?_
      refine Lo u69 (rfl) ?_
      refine Lo u69 (rfl) ?_
      refine Lo u69 (Zb (.inl rfl) rfl) ?_
      refine ZK 58 (env1 := u69) (env2 := u69) rfl rfl rfl (fun hg6 => ?_) (fun hg6 => ?_)
      ·try simp only [qB] at hg6
       refine Lf u69 ?_
       refine Lf u69 ?_
       refine Lf u69 ?_
       refine Lf u69 ?_
       refine Lf u69 ?_
       refine Lo u69 (ZN (VVal.bool true) rfl rfl rfl) ?_
       refine Ze (Zc ?_)
       refine ZU rfl rfl ?_
       refine Zd (Za ?_)
       refine Lo u69 (Zb (.inl rfl) rfl) ?_
       refine Lo u69 (Zb (.inl rfl) rfl) ?_
       refine Lo u69 (Zb (.inl rfl) rfl) ?_
       refine Lo u69 (W18 rfl rfl rfl rfl rfl rfl rfl) ?_
       refine Lo u69 (W82 rfl rfl rfl rfl rfl rfl rfl) ?_
       refine Ze (Zc (Zd (Za ?_)))
       refine Lo u69 (Zg (VVal.bool true) (.inr rfl) rfl) ?_
       refine Ze (Zc (Zl (ZA (Zn (Z3 (ZA (Zn ?_)))))))
       refine W83 (.inr rfl) (Zh rfl rfl) ?_
       exact W84
      ·try simp only [qB] at hg6
       refine Lo u69 (Zb (.inl rfl) rfl) ?_
       refine Lo u69 (Zb (.inl rfl) rfl) ?_
       refine Lo u69 (Zb (.inl rfl) rfl) ?_
       refine Lo u69 (Zb (.inl rfl) rfl) ?_
       refine Zs rfl rfl rfl XH35 ?_
       rintro _ _ ⟨rfl, rfl⟩
       refine Le u69 ?_
       refine Lo u69 (ZX rfl rfl rfl) ?_
       refine Ze (Zc ?_)
       refine Zk _ rfl (fun hc7 => ?_) (fun hc7 => ?_)
       ·try simp only [qB] at hc7
        refine Zd (Za ?_)
        refine Lo u69 (Zb (.inl rfl) rfl) ?_
        refine Lo u69 (Zb (.inl rfl) rfl) ?_
        refine Lo u69 (Zb (.inl rfl) rfl) ?_
        refine Lo u69 (W18 rfl rfl rfl rfl rfl rfl rfl) ?_
        refine Lo u69 (W82 rfl rfl rfl rfl rfl rfl rfl) ?_
        refine Ze (Zc (Zd (Za ?_)))
        refine Lo u69 (Zg (VVal.bool true) (.inr rfl) rfl) ?_
        refine Ze (Zc (Zl (ZA (Zn (Z3 (ZA (Zn ?_)))))))
        refine W83 (.inr rfl) (Zh rfl rfl) ?_
        exact W84
       ·try simp only [qB] at hc7
        refine Zj (Zy (Zc (Za ?_)))
        refine Lo u69 (Zb (.inl rfl) rfl) ?_
        refine Lo u69 (W14 rfl rfl rfl) ?_
        refine Lo u69 (Zb (.inr rfl) rfl) ?_
        refine Ze ?_
        refine Zw (mk 69 590295810358705651184) (env' := u69) rfl ⟨⟨u + 1, (trn rows n k (s1.1, s1.2 ||| 1#64 <<< u)).2⟩, ?_, rfl, ?_⟩
        ·first | omega | (simp only []; omega)
        ·first | exact ⟨⟨by omega, hl1, hcm, by rw [hg, YS (by omega), if_pos (.inl (sh0.1 (by assumption)))]⟩, rfl⟩ | exact ⟨⟨by omega, hl1, hcm, by rw [hg, YS (by omega), if_pos (.inr (sh1.1 (by assumption)))]⟩, rfl⟩ | exact ⟨⟨by omega, trn_len.trans hl1, XH12, by rw [hg, hf, if_neg (by omega), if_neg (not_of_f (by assumption))]⟩, rfl⟩
    ·try simp only [qB] at hg4
     refine Lf u69 ?_
     refine Lf u69 ?_
     refine Lf u69 ?_
     refine Lf u69 ?_
     refine Lf u69 ?_
     refine Lf u69 ?_
     refine Lo u69 (ZL (VVal.bool false) rfl rfl rfl) ?_
     refine Ze (Zc ?_)
     refine Z5 rfl rfl ?_
     refine ZD (ZB (Zv (ZC (Zc (Zd ?_)))))
     have hf : fndK s1.1 u = k := fndK_is (by omega) hno (by first | exact .inr (by assumption) | exact .inl (by omega))
     refine Za ?_
     refine Lo u69 (Zb (.inl rfl) rfl) ?_
     refine Lo u69 (Zb (.inl rfl) rfl) ?_
     refine Lo u69 (rfl) ?_
     refine Lo u69 (rfl) ?_
     refine Lo u69 (Zb (.inl rfl) rfl) ?_
     refine ZK 58 (env1 := u69) (env2 := u69) rfl rfl rfl (fun hg8 => ?_) (fun hg8 => ?_)
     ·try simp only [qB] at hg8
      refine Lf u69 ?_
      refine Lf u69 ?_
      refine Lf u69 ?_
      refine Lf u69 ?_
      refine Lf u69 ?_
      refine Lo u69 (ZN (VVal.bool true) rfl rfl rfl) ?_
      refine Ze (Zc ?_)
      refine ZU rfl rfl ?_
      refine Zd (Za ?_)
      refine Lo u69 (Zb (.inl rfl) rfl) ?_
      refine Lo u69 (Zb (.inl rfl) rfl) ?_
      refine Lo u69 (Zb (.inl rfl) rfl) ?_
      refine Lo u69 (W18 rfl rfl rfl rfl rfl rfl rfl) ?_
      refine Lo u69 (W82 rfl rfl rfl rfl rfl rfl rfl) ?_
      refine Ze (Zc (Zd (Za ?_)))
      refine Lo u69 (Zg (VVal.bool true) (.inr rfl) rfl) ?_
      refine Ze (Zc (Zl (ZA (Zn (Z3 (ZA (Zn ?_)))))))
      refine W83 (.inr rfl) (Zh rfl rfl) ?_
      exact W84
     ·try simp only [qB] at hg8
      refine Lo u69 (Zb (.inl rfl) rfl) ?_
      refine Lo u69 (Zb (.inl rfl) rfl) ?_
      refine Lo u69 (Zb (.inl rfl) rfl) ?_
      refine Lo u69 (Zb (.inl rfl) rfl) ?_
      refine Zs rfl rfl rfl XH35 ?_
      rintro _ _ ⟨rfl, rfl⟩
      refine Le u69 ?_
      refine Lo u69 (ZX rfl rfl rfl) ?_
      refine Ze (Zc ?_)
      refine Zk _ rfl (fun hc9 => ?_) (fun hc9 => ?_)
      ·try simp only [qB] at hc9
       refine Zd (Za ?_)
       refine Lo u69 (Zb (.inl rfl) rfl) ?_
       refine Lo u69 (Zb (.inl rfl) rfl) ?_
       refine Lo u69 (Zb (.inl rfl) rfl) ?_
       refine Lo u69 (W18 rfl rfl rfl rfl rfl rfl rfl) ?_
       refine Lo u69 (W82 rfl rfl rfl rfl rfl rfl rfl) ?_
       refine Ze (Zc (Zd (Za ?_)))
       refine Lo u69 (Zg (VVal.bool true) (.inr rfl) rfl) ?_
       refine Ze (Zc (Zl (ZA (Zn (Z3 (ZA (Zn ?_)))))))
       refine W83 (.inr rfl) (Zh rfl rfl) ?_
       exact W84
      ·try simp only [qB] at hc9
       refine Zj (Zy (Zc (Za ?_)))
       refine Lo u69 (Zb (.inl rfl) rfl) ?_
       refine Lo u69 (W14 rfl rfl rfl) ?_
       refine Lo u69 (Zb (.inr rfl) rfl) ?_
       refine Ze ?_
       refine Zw (mk 69 590295810358705651184) (env' := u69) rfl ⟨⟨u + 1, (trn rows n k (s1.1, s1.2 ||| 1#64 <<< u)).2⟩, ?_, rfl, ?_⟩
       ·first | omega | (simp only []; omega)
       ·first | exact ⟨⟨by omega, hl1, hcm, by rw [hg, YS (by omega), if_pos (.inl (sh0.1 (by assumption)))]⟩, rfl⟩ | exact ⟨⟨by omega, hl1, hcm, by rw [hg, YS (by omega), if_pos (.inr (sh1.1 (by assumption)))]⟩, rfl⟩ | exact ⟨⟨by omega, trn_len.trans hl1, XH12, by rw [hg, hf, if_neg (by omega), if_neg (not_of_f (by assumption))]⟩, rfl⟩
 ·try simp only [qB] at hc1
  refine ZD (ZB (Zv (ZC (Zc (Zd (Za ?_))))))
  refine Lo u69 (Zg (VVal.bool false) (.inr rfl) rfl) ?_
  refine Ze (Zc (Zl ?_))
  refine W83 (.inr rfl) (Zh rfl rfl) ?_
  exact W84
theorem W85 {S : V.Sys} {H : Zf} {fn : Func} {ex : Exit} {env : VEnv} {B L : Zf} {v : VVal} {R : VVal → Zf → Prop} (hx : ex = .normal ∨ ex = .ret) (hv : ZT S.C.T env (B ++ L) fn.results = some v) (h : R v B) (hB : BaseOk H B := by exact XH42) (hu : v.under H.length = true := by first | rfl | simp [VVal.under, VVal.underL, Yx, *]) : fnK S fn H R ex env (B ++ L) := YZ hx hv hB hu h
theorem W86 {P : Prop} (h : P := by first | exact ⟨by rw [szV, if_neg (by omega)], rfl⟩ | (obtain rfl : k = rows.length := by omega); exact ⟨by rw [szV, if_pos (by omega), rsz_all], rfl⟩) : P := h
theorem W89 {T : TypeId → Option VTy} {H : Zf} {op : Op} {ρ : Operand → VVal} {t ty : TypeId} {x y : Operand} {n m : Int} (ho : op = .binOp .add t x y ty) (hx : ρ x = .int .i64 n) (hy : ρ y = .int .i64 m) (h : -9223372036854775808 ≤ n + m ∧ n + m < 9223372036854775808 := by have := rsz_le (rows := rows) (k := k) (by omega); omega) : vop T ρ H op = some (.int .i64 (n + m), H) := v_addI ho hx hy h
theorem W8b {P : Prop} (h : P := by first | exact ⟨by rw [full_sz, decide_eq_true (by omega), Bool.true_and, ← beq_nat]; rw [szV, if_pos (by omega)], rfl⟩ | exact ⟨by rw [decide_eq_false (by omega), Bool.false_and], rfl⟩) : P := h
theorem turn_spec {x : SW} (p q : Nat) (ex : Bool) (rows : List (BitVec 64)) (hpq : p ≠ q) (h62 : rows.length ≤ 1000000) : ∀ (n : Nat) (H : Zf) (i : Nat) (has : List Int) (S : BitVec 64), H[p]? = some (haB has) → H[q]? = some (seB S) → i < rows.length → has.length = rows.length → 64 - YG 64 S < n → F (psys x) 161 [fzW rows, .slice (some (p, 0)) rows.length rows.length ex 1, .ptr (some (q, 0)), iI (i : Nat)] H fun v G => v = .bool (trn rows n i (has, S)).1 ∧ G = trH H p q (trn rows n i (has, S)).2
  | 0, _, _, _, _, _, _, _, _, h => absurd h (by omega)
  | n + 1, H, i, has, S, hp, hq, hi, hl, hm => turn_s p q n ex rows hpq h62 (fun H i has S a b c d e => turn_spec p q ex rows hpq h62 n H i has S a b c d e) H i has S hp hq hi hl hm
theorem turn_at {x : SW} (H : Zf) (ex : Bool) (rows : List (BitVec 64)) (has : List Int) (i : Nat) (hi : i < rows.length) (hl : has.length = rows.length) (h62 : rows.length ≤ 1000000) : F (psys x) 161 [fzW rows, .slice (some (H.length + 0, 0)) rows.length rows.length ex 1, .ptr (some (H.length + 1, 0)), iI (i : Nat)] (H ++ [haB has, seB 0#64]) fun v G => v = .bool (trn rows 65 i (has, 0#64)).1 ∧ G = H ++ [haB (trn rows 65 i (has, 0#64)).2.1, seB (trn rows 65 i (has, 0#64)).2.2] := by
  have := turn_spec (x := x) (H.length + 0) (H.length + 1) ex rows (by omega) h62 65 (H ++ [haB has, seB 0#64]) i has 0#64 (ZJ rfl rfl) (ZJ rfl rfl) hi hl (by rw [come_0]; omega)
  unfold trH at this
  rw [ZP rfl, ZP rfl] at this
  exact this
theorem haB_under {n : Nat} {has : List Int} : (haB has).under n = true := mapI_under _ _
theorem rep_cells : ∀ {n : Nat}, ZS [VVal.int .i64 0] n = (List.replicate n (0 : Int)).map iI
  | 0 => rfl
  | n + 1 => by rw [ZS, rep_cells, List.replicate_succ]; rfl
def iniT (n k : Nat) : List Int := List.replicate k (-1) ++ List.replicate (n - k) 0
theorem iniT_len {n k : Nat} (h : k ≤ n) : (iniT n k).length = n := by unfold iniT; simp; omega
theorem iniT_set {n k : Nat} (h : k < n) : (iniT n k).set k (-1) = iniT n (k + 1) := by
  unfold iniT
  rw [List.set_append_right _ _ (by simp), List.length_replicate, Nat.sub_self, show n - k = (n - (k + 1)) + 1 by omega, List.replicate_succ, List.set_cons_zero, List.replicate_succ', List.append_assoc]; rfl
theorem iniT_all {n : Nat} : iniT n n = List.replicate n (-1) := by unfold iniT; simp
theorem rsz_len {rows : List (BitVec 64)} {k : Nat} (h : k ≤ rows.length) : (rsz rows k).1.length = rows.length := (rsz_cor h).1.hl
theorem rsz_le {rows : List (BitVec 64)} {k : Nat} (h : k ≤ rows.length) : (rsz rows k).2 ≤ k := by rw [(rsz_cor h).2.1]; exact szO_le
theorem full_sz {rows : List (BitVec 64)} : Yd rows 0#64 = (szN rows == rows.length) := by unfold Yd; rw [msk_0]
theorem refSize_spec {x : SW} (H : Zf) (rows : List (BitVec 64)) (h62 : rows.length ≤ 1000000) : F (psys x) 145 [fzW rows] H fun v G => v = iI (szV rows) ∧ G = H := by
 refine Zt Tryd.func145 rfl u36 rfl ?_
 refine Zd (Za ?_)
 refine Lo u36 (Zg (VVal.int .i64 0) (.inr rfl) rfl) ?_
 refine Ze (Zc (Zd (Zd (Za ?_))))
 refine Lo u36 (Zb (.inl rfl) rfl) ?_
 refine Lo u36 (rfl) ?_
 refine Lo u36 (rfl) ?_
 refine Ze (Zc ?_)
 refine Zk _ rfl (fun hc1 => ?_) (fun hc1 => ?_)
 ·try simp only [qB] at hc1
  refine Zd (Za ?_)
  refine Lo u36 (Zg (VVal.int .i64 0) (.inr rfl) rfl) ?_
  refine Ze (Zc (Zl (Zn ?_)))
  refine W85 (.inr rfl) (Zh rfl rfl) ?_
  exact W86
 ·try simp only [qB] at hc1
  refine Zj (Zc (Zd (Za ?_)))
  refine Lo u36 (Zb (.inl rfl) rfl) ?_
  refine Lo u36 (rfl) ?_
  refine Lo u36 (v_makeSlice rfl rfl rfl rfl rfl (by decide) ⟨by omega, Int.le_refl _, by show (rows.length : Int) * (8 : Nat) ≤ _; omega, by omega⟩) ?_
  refine Lo u36 (Zb (.inr rfl) rfl) ?_
  refine Ze (Zc (Zd (Zd (Za ?_))))
  refine Lo u36 (Zg (VVal.int .i64 0) (.inr rfl) rfl) ?_
  refine Ze (Zc (Zi ?_))
  refine Zu (mk 36 68719476710) (env' := u36) rfl ?_
  refine Zx (fun (k : Nat) => rows.length - k) (fun (k : Nat) => [(4, iI (k : Nat))]) (fun (k : Nat) G => (k ≤ rows.length) ∧ G = H ++ [haB (iniT rows.length k)]) 0 rfl ?_ ?_
  ·refine ⟨?_, (by show _ ++ [VBlk.cells (ZS [VVal.int .i64 0] _) true] = _; rw [rep_cells]; rfl)⟩
   exact Nat.zero_le _
  rintro k _ ⟨hk, rfl⟩
  refine ZO (env' := u36) rfl ?_
  refine Zd (Zd (Za ?_))
  refine Lo u36 (Zb (.inl rfl) rfl) ?_
  refine Lo u36 (Zb (.inl rfl) rfl) ?_
  refine Lo u36 (rfl) ?_
  refine Lo u36 (rfl) ?_
  refine Ze (Zc ?_)
  refine Zk _ rfl (fun hc2 => ?_) (fun hc2 => ?_)
  ·try simp only [qB] at hc2
   refine Zj (Zc (Zd (Zi (Za ?_))))
   refine Lo u36 (Zb (.inl rfl) rfl) ?_
   refine Lo u36 (Zb (.inl rfl) rfl) ?_
   refine Lo u36 (W18 rfl rfl rfl rfl rfl rfl rfl) ?_
   refine Lo u36 (Yk (VVal.int .i64 (-1)) rfl rfl rfl rfl rfl rfl rfl XH0 (by first | exact has_len (s := (iniT rows.length k, 0#64)) (by rw [iniT_len (by omega)]; omega)) (by exact (ZP rfl).trans (congrArg (fun c => H ++ [VBlk.cells c true]) (splice_i (l := iniT rows.length k) (k := k) (r := -1) (by rw [iniT_len hk]; omega))))) ?_
   refine Ze (Zy (Zc (Za ?_)))
   refine Lo u36 (Zb (.inl rfl) rfl) ?_
   refine Lo u36 (W14 rfl rfl rfl) ?_
   refine Lo u36 (Zb (.inr rfl) rfl) ?_
   refine Ze ?_
   have hE : (iniT rows.length k).set (k : Int).toNat (-1) = iniT rows.length (k + 1) := iniT_set (by omega)
   refine Zw (mk 36 68719476710) (env' := u36) rfl ⟨k + 1, ?_, rfl, ?_⟩
   ·first | omega | (simp only []; omega)
   ·exact ⟨by omega, by rw [← hE]; rfl⟩
  ·try simp only [qB] at hc2
   refine ZD (ZB (Zv (ZC (Zc (Zd (Za ?_))))))
   refine Lo u36 (Zg (VVal.int .i64 0) (.inr rfl) rfl) ?_
   refine Ze (Zc (Zd (Zd (Za ?_))))
   refine Lo u36 (Zg (VVal.int .i64 0) (.inr rfl) rfl) ?_
   refine Ze (Zc (Zi ?_))
   refine Zu (mk 36 68719476630) (env' := u36) rfl ?_
   refine Zx (fun (k : Nat) => rows.length - k) (fun (k : Nat) => [(5, iI ((rsz rows k).2 : Nat)), (6, iI (k : Nat))]) (fun (k : Nat) G => (k ≤ rows.length) ∧ G = H ++ [haB (rsz rows k).1]) 0 rfl ?_ ?_
   ·refine ⟨?_, (by rw [show k = rows.length by omega, iniT_all]; rfl)⟩
    exact Nat.zero_le _
   rintro k _ ⟨hk, rfl⟩
   refine ZO (env' := u36) rfl ?_
   refine Zd (Zd (Za ?_))
   refine Lo u36 (Zb (.inl rfl) rfl) ?_
   refine Lo u36 (Zb (.inl rfl) rfl) ?_
   refine Lo u36 (rfl) ?_
   refine Lo u36 (rfl) ?_
   refine Ze (Zc ?_)
   refine Zk _ rfl (fun hc3 => ?_) (fun hc3 => ?_)
   ·try simp only [qB] at hc3
    refine Zj (Zc (Zd (Zi (Zd (Za ?_)))))
    refine Lo u36 (ZG rfl rfl) ?_
    refine Lo u36 (Yk (VVal.int .u64 0) rfl rfl rfl rfl rfl rfl rfl XH0 XH5 XH1) ?_
    refine Ze (Zc (Zd (Za ?_)))
    refine Lo u36 (Zb (.inl rfl) rfl) ?_
    refine Lo u36 (Zb (.inl rfl) rfl) ?_
    refine Lo u36 (Zb (.inl rfl) rfl) ?_
    refine Zs rfl rfl rfl (by exact turn_at H _ rows (rsz rows k).1 k (by omega) (rsz_len (by omega)) h62) ?_
    rintro _ _ ⟨rfl, rfl⟩
    refine Le u36 ?_
    refine Ze (Zc ?_)
    refine Zk _ rfl (fun hc4 => ?_) (fun hc4 => ?_)
    ·try simp only [qB] at hc4
     refine Za ?_
     refine Lo u36 (Zb (.inl rfl) rfl) ?_
     refine Lo u36 (W89 rfl rfl rfl) ?_
     refine Lo u36 (Zb (.inr rfl) rfl) ?_
     refine Ze (Zy (Zc (Za ?_)))
     refine Lo u36 (Zb (.inl rfl) rfl) ?_
     refine Lo u36 (W14 rfl rfl rfl) ?_
     refine Lo u36 (Zb (.inr rfl) rfl) ?_
     refine Ze ?_
     first
       | (have hE : (((rsz rows k).2 : Nat) : Int) + 1 = ((rsz rows (k + 1)).2 : Nat) := by rw [rsz, if_pos (by assumption)]; rfl); rw [hE]
       | (have hE : (rsz rows k).2 = (rsz rows (k + 1)).2 := by rw [rsz]; simp only; rw [if_neg (not_of_f (by assumption))]); rw [hE]
     refine K_loopG (mk 36 68719476630) (env' := u36) rfl (Gh.dropTo (L := [haB (rsz rows (k + 1)).1]) (X := [seB _]) 1 rfl (BaseOk.refl _) (by first | (simp [VVal.underL, VVal.under, Yx]; done) | (simp [VVal.underL, VVal.under, Yx]; omega)) (by simp [haB_under])) ⟨k + 1, ?_, rfl, ?_⟩
     ·first | omega | (simp only []; omega)
     ·exact ⟨by omega, rfl⟩
    ·try simp only [qB] at hc4
     refine Zj (Zy (Zc (Za ?_)))
     refine Lo u36 (Zb (.inl rfl) rfl) ?_
     refine Lo u36 (W14 rfl rfl rfl) ?_
     refine Lo u36 (Zb (.inr rfl) rfl) ?_
     refine Ze ?_
     first
       | (have hE : (((rsz rows k).2 : Nat) : Int) + 1 = ((rsz rows (k + 1)).2 : Nat) := by rw [rsz, if_pos (by assumption)]; rfl); rw [hE]
       | (have hE : (rsz rows k).2 = (rsz rows (k + 1)).2 := by rw [rsz]; simp only; rw [if_neg (not_of_f (by assumption))]); rw [hE]
     refine K_loopG (mk 36 68719476630) (env' := u36) rfl (Gh.dropTo (L := [haB (rsz rows (k + 1)).1]) (X := [seB _]) 1 rfl (BaseOk.refl _) (by first | (simp [VVal.underL, VVal.under, Yx]; done) | (simp [VVal.underL, VVal.under, Yx]; omega)) (by simp [haB_under])) ⟨k + 1, ?_, rfl, ?_⟩
     ·first | omega | (simp only []; omega)
     ·exact ⟨by omega, rfl⟩
   ·try simp only [qB] at hc3
    refine ZD (ZB (Zv (ZC (Zc (Zd (Za ?_))))))
    refine Lo u36 (Zb (.inl rfl) rfl) ?_
    refine Lo u36 (Zb (.inr rfl) rfl) ?_
    refine Ze (Zc (Zl ?_))
    refine W85 (.inr rfl) (Zh rfl rfl) ?_
    exact W86
theorem refFull_spec {x : SW} (H : Zf) (rows : List (BitVec 64)) (h62 : rows.length ≤ 1000000) : F (psys x) 128 [fzW rows] H fun v G => v = .bool (decide (rows.length ≤ 12) && Yd rows 0#64) ∧ G = H := by
 refine Zt Tryd.func128 rfl u13 rfl ?_
 refine Zd (Za ?_)
 refine Lo u13 (Zg (VVal.bool false) (.inr rfl) rfl) ?_
 refine Ze (Zc (Zd (Za ?_)))
 refine Lo u13 (Zb (.inl rfl) rfl) ?_
 refine Lo u13 (rfl) ?_
 refine Lo u13 (rfl) ?_
 refine Lo u13 (Zb (.inl rfl) rfl) ?_
 refine ZK 6 (env1 := u13) (env2 := u13) rfl rfl rfl (fun hg1 => ?_) (fun hg1 => ?_)
 ·try simp only [qB] at hg1
  refine Lo u13 (Zb (.inl rfl) rfl) ?_
  refine Zs rfl rfl rfl (by exact refSize_spec _ _ h62) ?_
  rintro _ _ ⟨rfl, rfl⟩
  refine Le u13 ?_
  refine Lo u13 (Zb (.inl rfl) rfl) ?_
  refine Lo u13 (rfl) ?_
  refine Lo u13 (rfl) ?_
  refine Lo u13 (ZR rfl rfl rfl) ?_
  refine Lo u13 (Zb (.inr rfl) rfl) ?_
  refine Ze (Zc (Zl ?_))
  refine W10 (.inr rfl) (Zh rfl rfl) ?_
  exact W8b
 ·try simp only [qB] at hg1
  refine Lf u13 ?_
  refine Lf u13 ?_
  refine Lf u13 ?_
  refine Lf u13 ?_
  refine Lf u13 ?_
  refine Lo u13 (ZL (VVal.bool false) rfl rfl rfl) ?_
  refine Lo u13 (Zb (.inr rfl) rfl) ?_
  refine Ze (Zc (Zl ?_))
  refine W10 (.inr rfl) (Zh rfl rfl) ?_
  exact W8b
theorem W8f {S : V.Sys} {H : Zf} {fn : Func} {ex : Exit} {env : VEnv} {B L : Zf} {v : VVal} {R : VVal → Zf → Prop} (hx : ex = .normal ∨ ex = .ret) (hv : ZT S.C.T env (B ++ L) fn.results = some v) (h : R v B) (hB : BaseOk H B := by exact XH42) (hu : v.under H.length = true := by first | rfl | simp [VVal.under, VVal.underL, Yv, *]) : fnK S fn H R ex env (B ++ L) := YZ hx hv hB hu h
theorem W8g {P : Prop} (h : P := by first | exact ⟨by rw [leV, if_neg (fun e => by rw [decide_eq_true e.1, e.2] at hc1; cases hc1)]; rfl, rfl⟩ | (obtain rfl : r = [] := List.eq_nil_of_length_eq_zero (by omega)); exact ⟨by rw [leV, if_pos hc1, hlst]; simp [lst], rfl⟩) : P := h
theorem W8h {T : TypeId → Option VTy} {H : Zf} {op : Op} {ρ : Operand → VVal} {t : TypeId} {a : Operand} {y : VTy} {p v : VVal} (ho : op = .load t a) (ha : ρ a = p) (hy : T t = some y) (hd : Zm y.desc = false) (h : LdOk H p v := by first | exact .inl ⟨_, _, rfl, by first | exact fget (α := BitVec 64) (n := 0) 0 (by omega) | rfl⟩ | exact .inr ⟨_, _, _, _, rfl, XH37, by first | exact fget (α := BitVec 64) (n := 0) 0 (by omega) | rfl⟩) : vop T ρ H op = some (v, H) := Yu ho ha hy hd h
def gvT (rows : List (BitVec 64)) (t : BitVec 64) (i : Nat) : List (BitVec 64) := msk ((rows.take i).drop 1) t
theorem gvT_1 {rows : List (BitVec 64)} {t : BitVec 64} : gvT rows t 1 = [] := by
  unfold gvT
  cases rows <;> rfl
theorem gvT_succ {rows : List (BitVec 64)} {t : BitVec 64} {i : Nat} (h1 : 1 ≤ i) (h : i < rows.length) : gvT rows t (i + 1) = gvT rows t i ++ [rows.getD (i : Int).toNat 0 &&& ~~~t] := by
  unfold gvT msk
  rw [List.take_succ_eq_append_getElem h, List.drop_append_of_le_length XH27, List.map_append, Int.toNat_natCast, List.getD_eq_getElem?_getD, List.getElem?_eq_getElem h]; rfl
theorem gvT_all {rows : List (BitVec 64)} {t : BitVec 64} {i : Nat} (h : rows.length ≤ i) : gvT rows t i = msk (rows.drop 1) t := by
  unfold gvT; rw [List.take_of_length_le h]
theorem msk_fullB {l : List (BitVec 64)} {s t : BitVec 64} : Yd (msk l s) t = Yd l (s ||| t) := by unfold Yd; rw [msk_msk, Yo]
theorem msk_w {w s t : BitVec 64} : (w &&& ~~~s) &&& ~~~t = w &&& ~~~(s ||| t) := YA fun i hi => by
  simp only [BitVec.getLsbD_and, BitVec.getLsbD_not, BitVec.getLsbD_or, hi, decide_true, Bool.true_and, Bool.not_or, Bool.and_assoc]
theorem lst_msk : ∀ {l : List (BitVec 64)} {s t : BitVec 64}, lst (msk l s) t = lst l (s ||| t)
  | [], s, t => rfl
  | w :: l, s, t => by
    show lst ((w &&& ~~~s) :: msk l s) t = _
    rw [lst, lst, msk_w]
    simp only [msk_fullB, BitVec.or_assoc, lst_msk]
theorem z_not (w : BitVec 64) : w &&& ~~~0#64 = w := YA fun i hi => by rw [BitVec.getLsbD_and, BitVec.getLsbD_not, BitVec.getLsbD_zero, decide_eq_true hi]; simp
theorem lst_first {w : BitVec 64} {l : List (BitVec 64)} {u : Nat} (hu : u < 64) (h1 : w.getLsbD u = true) (h2 : Yd (msk l (1#64 <<< u)) 0#64 = true) (h3 : ∀ v, v < u → w.getLsbD v = true → Yd (msk l (1#64 <<< v)) 0#64 = false) : lst (w :: l) 0#64 = u :: lst (msk l (1#64 <<< u)) 0#64 := by
  have hor : ∀ v : Nat, 0#64 ||| 1#64 <<< v = 1#64 <<< v ||| 0#64 := fun v => by simp
  have hx : pl w 0 = (List.range u).filter w.getLsbD ++ u :: pl w (u + 1) := by
    have e1 : pl w 0 = (List.range u).filter w.getLsbD ++ pl w u := by
      unfold pl
      rw [show (64 : Nat) - 0 = u + (64 - u) by omega, List.range_eq_range', List.range'_append_1 |>.symm, List.filter_append, Nat.zero_add]
    rw [e1, pl_step w u, if_pos hu, if_pos h1]
  rw [lst, z_not, hx, find_yes (c := u) (fun v hv => ?_) (by rw [hor, ← msk_fullB]; exact h2)]
  · simp only
    rw [hor, lst_msk]
  · have hv := List.mem_filter.1 hv
    rw [hor, ← msk_fullB]; exact h3 v (List.mem_range.1 hv.1) hv.2
theorem first_ex {w : BitVec 64} {l : List (BitVec 64)} (h : Yd (w :: l) 0#64 = true) : ∃ u, u < 64 ∧ w.getLsbD u = true ∧ Yd (msk l (1#64 <<< u)) 0#64 = true := by
  obtain ⟨u, h1, h2⟩ := mat_cons.1 (full0.1 h)
  exact ⟨u, BitVec.lt_of_getLsbD h1, h1, full0.2 h2⟩
theorem LV.appW {h : Nat} {X : Zf} {v : VVal} {l : List (BitVec 64)} {w : BitVec 64} {n : Nat} (r : LV h 1 X v (l.map iW ++ [iW w]) n) : LV h 1 X v ((l ++ [w]).map iW) n := by rw [List.map_append]; exact r
theorem LV.appN {h : Nat} {X : Zf} {v : VVal} {l : List Nat} {u : Nat} {n : Nat} (r : LV h 1 X v (l.map jN ++ [jN u]) n) : LV h 1 X v ((l ++ [u]).map jN) n := by rw [List.map_append]; exact r
theorem given_spec {x : SW} (H : Zf) (rows : List (BitVec 64)) (u : Nat) (h62 : rows.length ≤ 1000000) : F (psys x) 129 [fzW rows, iI (u : Nat)] H fun v G => v = fzW (msk (rows.drop 1) (1#64 <<< u)) ∧ G = H := by
 refine Zt Tryd.func129 rfl u24 rfl ?_
 refine Zd (Za ?_)
 refine Lo u24 (Zg (VVal.slice none 0 0 true 0) (.inr rfl) rfl) ?_
 refine Ze (Zc (Zd (Za ?_)))
 refine Lo u24 (Zg (VVal.slice none 0 0 true 0) (.inr rfl) rfl) ?_
 refine Ze (Zc (Zd (Zd (Za ?_))))
 refine Lo u24 (Zg (VVal.int .i64 1) (.inr rfl) rfl) ?_
 refine Ze (Zc (Zi ?_))
 refine Zu (mk 24 16777116) (env' := u24) rfl ?_
 refine Zx (fun (⟨i, lv⟩ : Nat × VVal) => rows.length - i) (fun (⟨i, lv⟩ : Nat × VVal) => [(5, lv), (6, iI (i : Nat))]) (fun (⟨i, lv⟩ : Nat × VVal) G => (1 ≤ i ∧ (i ≤ rows.length ∨ i = 1)) ∧ ∃ X, G = H ++ X ∧ LV H.length 1 X lv ((gvT rows (1#64 <<< u) i).map iW) (i - 1)) ⟨1, _⟩ rfl ?_ ?_
 ·refine ⟨?_, ⟨_, rfl, by rw [gvT_1]; exact LV.nil _ _ _⟩⟩
  exact ⟨Nat.le_refl _, .inr rfl⟩
 rintro ⟨i, lv⟩ _ ⟨⟨hi1, hi2⟩, ⟨X, rfl, hl⟩⟩
 refine ZO (env' := u24) rfl ?_
 refine Zd (Zd (Za ?_))
 refine Lo u24 (Zb (.inl rfl) rfl) ?_
 refine Lo u24 (Zb (.inl rfl) rfl) ?_
 refine Lo u24 (rfl) ?_
 refine Lo u24 (rfl) ?_
 refine Ze (Zc ?_)
 refine Zk _ rfl (fun hc1 => ?_) (fun hc1 => ?_)
 ·try simp only [qB] at hc1
  refine Zj (Zc (Zd (Zi ?_)))
  refine ZW [0, 1, 2, 3, 4, 5, 6, 7, 8, 9, 10] #[0, 0, 0, 6, 14, 0, 32, 126, 254, 511, 1023] XH3 XH3 XH3 ?_
  refine Oo u24 .calm rfl (Zb (.inl rfl) rfl) ?_
  refine Oo u24 .calm rfl (Zb (.inl rfl) rfl) ?_
  refine Oo u24 .calm rfl (Zb (.inl rfl) rfl) ?_
  refine Oo u24 .calm rfl (W18 rfl rfl rfl rfl rfl rfl rfl) ?_
  refine Oo u24 .look rfl (W12 rfl rfl rfl rfl) ?_
  refine Oo u24 .calm rfl (Zb (.inl rfl) rfl) ?_
  refine Oo u24 .calm rfl (v_shl1 rfl rfl rfl XH4) ?_
  refine Oo u24 .calm rfl (v_andNotW rfl rfl rfl) ?_
  refine Oo u24 .grow rfl (Zr rfl rfl (by decide) rfl) ?_
  refine O_opX .turn rfl rfl rfl (v_appX rfl rfl rfl rfl rfl rfl rfl hl rfl rfl (by decide) (by show (i - 1 + 1) * 8 ≤ _ ∧ i - 1 + 1 ≤ _; omega) (by decide)) rfl rfl ?_
  rintro _ _ ⟨Y1, rfl, rfl, hY1, hY2, hY3⟩
  refine O_env (env' := u24) rfl ?_
  refine Oo u24 .calm rfl (Zb (.inr rfl) rfl) ?_
  refine ZQ [] XH3 (trivial) ?_
  refine Zy (Zc (Za ?_))
  refine Lo u24 (Zb (.inl rfl) rfl) ?_
  refine Lo u24 (W14 rfl rfl rfl) ?_
  refine Lo u24 (Zb (.inr rfl) rfl) ?_
  refine Ze ?_
  refine Zw (mk 24 16777116) (env' := u24) rfl ⟨⟨i + 1, _⟩, ?_, rfl, ?_⟩
  ·first | omega | (simp only []; omega)
  ·exact ⟨⟨by omega, .inl (by omega)⟩, _, rfl, by rw [gvT_succ hi1 (by omega), show i + 1 - 1 = i - 1 + 1 by omega]; exact LV.appW hY3⟩
 ·try simp only [qB] at hc1
  refine ZD (ZB (Zv (ZC (Zc (Zd (Za ?_))))))
  refine Lo u24 (Zb (.inl rfl) rfl) ?_
  refine Lo u24 (Zb (.inr rfl) rfl) ?_
  refine Ze (Zc (Zl ?_))
  refine E_gh (.inr rfl) (Zh rfl rfl) (Gh.ansLV (BaseOk.refl _) hl (Y5 _ _)) ?_
  have hE := gvT_all (rows := rows) (t := 1#64 <<< u) (i := i) (by omega)
  have hlen : (gvT rows (1#64 <<< u) i).length = i - 1 := by unfold gvT; rw [Yo, List.length_drop, List.length_take]; omega
  refine ⟨?_, rfl⟩
  rw [← hE]
  show _ = VVal.fsl ((gvT rows (1#64 <<< u) i).map iW) (gvT rows (1#64 <<< u) i).length 1 false
  rw [hlen]
theorem refFull_12 {x : SW} (H : Zf) (rows : List (BitVec 64)) (h : rows.length ≤ 12) : F (psys x) 128 [fzW rows] H fun v G => v = .bool (Yd rows 0#64) ∧ G = H := by
  have := refFull_spec (x := x) H rows (by omega)
  rw [decide_eq_true h, Bool.true_and] at this; exact this
theorem getD_tail {l : List (BitVec 64)} (h : 0 < l.length) : ∃ w m, l = w :: m := by
  cases l with
  | nil => simp at h
  | cons w m => exact ⟨w, m, rfl⟩
theorem refLeast_spec {x : SW} (H : Zf) (rows : List (BitVec 64)) (h62 : rows.length ≤ 1000000) : F (psys x) 150 [fzW rows] H fun v G => v = leV rows ∧ G = H := by
 refine Zt Tryd.func150 rfl u36 rfl ?_
 refine Zd (Za ?_)
 refine Lo u36 (Zg (VVal.slice none 0 0 true 0) (.inr rfl) rfl) ?_
 refine Lo u36 (Zg (VVal.bool false) (.inr rfl) rfl) ?_
 refine Ze (Zc (Zd (Zd (Za ?_))))
 refine Lo u36 (Zb (.inl rfl) rfl) ?_
 refine Zs rfl rfl rfl (by exact refFull_spec _ rows h62) ?_
 rintro _ _ ⟨rfl, rfl⟩
 refine Le u36 ?_
 refine Lo u36 (rfl) ?_
 refine Ze (Zc ?_)
 refine Zk _ rfl (fun hc1 => ?_) (fun hc1 => ?_)
 ·try simp only [qB] at hc1
  refine Zd (Za ?_)
  refine Lo u36 (Zg (VVal.slice none 0 0 true 0) (.inr rfl) rfl) ?_
  refine Lo u36 (Zg (VVal.bool false) (.inr rfl) rfl) ?_
  refine Ze (Zc ?_)
  refine ZY (Gh.freezeNil 2 (es' := 1) rfl rfl) ?_
  refine Zl (Zn ?_)
  refine W8f (.inr rfl) (YE rfl rfl rfl) ?_
  exact W8g
 ·try simp only [qB] at hc1
  refine Zj (Zc (Zd (Za ?_)))
  refine Lo u36 (Zg (VVal.slice none 0 0 true 0) (.inr rfl) rfl) ?_
  refine Ze (Zc (Zd (Zi ?_)))
  refine Zu (mk 36 68719476718) (env' := u36) rfl ?_
  refine Zx (fun (⟨r, ds, lv⟩ : List (BitVec 64) × List Nat × VVal) => r.length) (fun (⟨r, ds, lv⟩ : List (BitVec 64) × List Nat × VVal) => [(0, fzW r), (4, lv)]) (fun (⟨r, ds, lv⟩ : List (BitVec 64) × List Nat × VVal) G => (Yd r 0#64 = true ∧ r.length ≤ 12 ∧ ds.length + r.length = rows.length ∧ lst rows 0#64 = ds ++ lst r 0#64) ∧ ∃ X, G = H ++ X ∧ LV H.length 1 X lv (ds.map jN) ds.length) ⟨rows, [], _⟩ rfl ?_ ?_
  ·refine ⟨?_, ⟨_, rfl, LV.nil _ _ _⟩⟩
   exact ⟨hc1.2, hc1.1, by simp, by simp⟩
  rintro ⟨r, ds, lv⟩ _ ⟨⟨hfr, hr12, hdl, hlst⟩, ⟨X, rfl, hl⟩⟩
  refine ZO (env' := u36) rfl ?_
  refine Zd (Zd (Za ?_))
  refine Lo u36 (Zb (.inl rfl) rfl) ?_
  refine Lo u36 (rfl) ?_
  refine Lo u36 (rfl) ?_
  refine Ze (Zc ?_)
  refine Zk _ rfl (fun hc2 => ?_) (fun hc2 => ?_)
  ·try simp only [qB] at hc2
   refine Zj (Zc (Zi (Zd ?_)))
   obtain ⟨w, m, rfl⟩ := getD_tail (l := r) (by omega)
   obtain ⟨u0, hu0, hw0, hf0⟩ := first_ex hfr
   refine Za ?_
   refine Lo u36 (Zg (VVal.int .i64 0) (.inr rfl) rfl) ?_
   refine Ze (Zc (Zd (Zi ?_)))
   refine Zu (mk 36 68719476686) (env' := u36) rfl ?_
   refine Zx (fun (u : Nat) => 64 - u) (fun (u : Nat) => [(5, iI (u : Nat))]) (fun (u : Nat) G => (u ≤ u0 ∧ ∀ v, v < u → w.getLsbD v = true → Yd (msk m (1#64 <<< v)) 0#64 = false) ∧ G = H ++ X) 0 rfl ?_ ?_
   ·refine ⟨?_, rfl⟩
    exact ⟨Nat.zero_le _, fun v h => by omega⟩
   rintro u _ ⟨⟨hu, hno⟩, rfl⟩
   refine ZO (env' := u36) rfl ?_
   refine Zd (Zd (Za ?_))
   refine Lo u36 (Zb (.inl rfl) rfl) ?_
   refine Lo u36 (W18 rfl rfl rfl rfl rfl rfl rfl) ?_
   refine Lo u36 (W8h rfl rfl rfl rfl) ?_
   refine Lo u36 (Zb (.inl rfl) rfl) ?_
   refine Lo u36 (v_shrW rfl rfl rfl XH4) ?_
   refine Lo u36 (v_andW (b := 1#64) rfl rfl rfl) ?_
   refine Lo u36 (rfl) ?_
   refine Lo u36 (Zb (.inl rfl) rfl) ?_
   refine ZK 19 (env1 := u36) (env2 := u36) rfl rfl rfl (fun hg3 => ?_) (fun hg3 => ?_)
   ·try simp only [qB] at hg3
    refine Lf u36 ?_
    refine Lf u36 ?_
    refine Lf u36 ?_
    refine Lf u36 ?_
    refine Lf u36 ?_
    refine Lo u36 (ZN (VVal.bool true) rfl rfl rfl) ?_
    refine Ze (Zc ?_)
    refine ZU rfl rfl ?_
    refine Zj (Zc (Zi (Za ?_)))
    refine Lo u36 (Zb (.inl rfl) rfl) ?_
    refine Lo u36 (W14 rfl rfl rfl) ?_
    refine Lo u36 (Zb (.inr rfl) rfl) ?_
    refine Ze (Zy ?_)
    refine Zw (mk 36 68719476686) (env' := u36) rfl ⟨u + 1, ?_, rfl, ?_⟩
    ·first | omega | (simp only []; omega)
    ·first | exact ⟨⟨Nat.lt_of_le_of_ne hu (fun e => by subst e; rw [sh0.1 (by assumption)] at hw0; cases hw0), fun v hv hb => by by_cases e : v = u; (subst e; rw [sh0.1 (by assumption)] at hb; cases hb); exact hno v (by omega) hb⟩, rfl⟩ | exact ⟨⟨Nat.lt_of_le_of_ne hu (fun e => by subst e; exact absurd hf0 (not_of_f (by assumption))), fun v hv hb => by by_cases e : v = u; (subst e; assumption); exact hno v (by omega) hb⟩, rfl⟩
   ·try simp only [qB] at hg3
    refine Lo u36 (Zb (.inl rfl) rfl) ?_
    refine Lo u36 (Zb (.inl rfl) rfl) ?_
    refine Zs rfl rfl rfl (by exact given_spec _ (w :: m) u (Nat.le_trans (show (w :: m).length ≤ 12 from hr12) (by decide))) ?_
    rintro _ _ ⟨rfl, rfl⟩
    refine Le u36 ?_
    refine Zs rfl rfl rfl (by exact refFull_12 _ (msk m (1#64 <<< u)) (by rw [Yo]; simp only [List.length_cons] at hr12; omega)) ?_
    rintro _ _ ⟨rfl, rfl⟩
    refine Le u36 ?_
    refine Lo u36 (rfl) ?_
    refine Lo u36 (ZX rfl rfl rfl) ?_
    refine Ze (Zc ?_)
    refine Zk _ rfl (fun hc4 => ?_) (fun hc4 => ?_)
    ·try simp only [qB] at hc4
     refine Zj (Zc (Zi (Za ?_)))
     refine Lo u36 (Zb (.inl rfl) rfl) ?_
     refine Lo u36 (W14 rfl rfl rfl) ?_
     refine Lo u36 (Zb (.inr rfl) rfl) ?_
     refine Ze (Zy ?_)
     refine Zw (mk 36 68719476686) (env' := u36) rfl ⟨u + 1, ?_, rfl, ?_⟩
     ·first | omega | (simp only []; omega)
     ·first | exact ⟨⟨Nat.lt_of_le_of_ne hu (fun e => by subst e; rw [sh0.1 (by assumption)] at hw0; cases hw0), fun v hv hb => by by_cases e : v = u; (subst e; rw [sh0.1 (by assumption)] at hb; cases hb); exact hno v (by omega) hb⟩, rfl⟩ | exact ⟨⟨Nat.lt_of_le_of_ne hu (fun e => by subst e; exact absurd hf0 (not_of_f (by assumption))), fun v hv hb => by by_cases e : v = u; (subst e; assumption); exact hno v (by omega) hb⟩, rfl⟩
    ·try simp only [qB] at hc4
     refine ZD (ZB (Zv (ZC (Zc (Zd ?_)))))
     have hbit : w.getLsbD u = true := sh_not0 (by assumption)
     have hfu : Yd (msk m (1#64 <<< u)) 0#64 = true := by assumption
     simp only [List.length_cons] at hr12 hdl
     refine Za ?_
     refine Lo u36 (Zb (.inl rfl) rfl) ?_
     refine Lo u36 (Zb (.inl rfl) rfl) ?_
     refine Lo u36 (Zr rfl rfl (by decide) rfl) ?_
     refine Yt rfl rfl (v_appX rfl rfl rfl rfl rfl rfl rfl hl rfl rfl (by decide) (by show (ds.length + 1) * 8 ≤ _ ∧ ds.length + 1 ≤ _; omega) (by decide)) ?_
     rintro _ _ ⟨Y1, rfl, rfl, hY1, hY2, hY3⟩
     refine Le u36 ?_
     refine Lo u36 (Zb (.inr rfl) rfl) ?_
     refine Ze (Zc (Za ?_))
     refine Lo u36 (Zb (.inl rfl) rfl) ?_
     refine Lo u36 (Zb (.inl rfl) rfl) ?_
     refine Zs rfl rfl rfl (by exact given_spec _ (w :: m) u (Nat.le_trans (show (w :: m).length ≤ 12 from hr12) (by decide))) ?_
     rintro _ _ ⟨rfl, rfl⟩
     refine Le u36 ?_
     refine Lo u36 (Zb (.inr rfl) rfl) ?_
     refine Ze (Zy ?_)
     refine Zw (mk 36 68719476718) (env' := u36) rfl ⟨⟨msk m (1#64 <<< u), ds ++ [u], _⟩, ?_, rfl, ?_⟩
     ·show (msk m (1#64 <<< u)).length < (w :: m).length; rw [Yo]; simp
     ·exact ⟨⟨hfu, by rw [Yo]; omega, by rw [List.length_append, Yo]; show ds.length + 1 + m.length = _; omega, hlst.trans ((congrArg (ds ++ ·) (lst_first (by omega) hbit hfu hno)).trans (by simp))⟩, _, rfl, by rw [List.length_append]; exact LV.appN hY3⟩
  ·try simp only [qB] at hc2
   refine ZD (ZB (Zv (ZC (Zc (Zd (Za ?_))))))
   refine Lo u36 (Zb (.inl rfl) rfl) ?_
   refine Lo u36 (Zb (.inr rfl) rfl) ?_
   refine Lo u36 (Zg (VVal.bool true) (.inr rfl) rfl) ?_
   refine Ze (Zc ?_)
   refine B_ghLV (env' := u36) 2 hl rfl rfl fun X2 _ _ => ?_
   refine Zl ?_
   refine W8f (.inr rfl) (YE rfl rfl rfl) ?_
   exact W8g
theorem W8i {T : TypeId → Option VTy} {H : Zf} {op : Op} {ρ : Operand → VVal} {t : TypeId} {a : Operand} {y : VTy} {p : VVal} {n : Nat} {vs : List VVal} (ho : op = .load t a) (ha : ρ a = p) (hy : T t = some y) (hd : Zm y.desc = true) (hn : y.size = n) (h : LdOkA H p n vs := by exact XH48) : vop T ρ H op = some (.agg vs, H) := v_ldA ho ha hy hd hn h
theorem W8j {S : V.Sys} {H : Zf} {fn : Func} {ex : Exit} {env : VEnv} {B L : Zf} {v : VVal} {R : VVal → Zf → Prop} (hx : ex = .normal ∨ ex = .ret) (hv : ZT S.C.T env (B ++ L) fn.results = some v) (h : R v B) (hB : BaseOk H B := by exact XH42) (hu : v.under H.length = true := by first | rfl | exact (show ((fzN (plN a l)).under H.length && (true && true)) = true by rw [show (fzN (plN a l)).under H.length = true from Yv _ _]; rfl)) : fnK S fn H R ex env (B ++ L) := YZ hx hv hB hu h
theorem W8k {P : Prop} (h : P := by first | exact ⟨by rw [srF_0 hey, h7]; show _ = VVal.tuple [fzN (plN a l), .bool true]; rw [fzN_pl]; rfl, rfl⟩ | exact ⟨by rw [srF_0 hey, h6 (by assumption)]; rfl, rfl⟩ | exact ⟨by rw [srF_e (by rw [YH]; assumption)]; rfl, rfl⟩) : P := h
theorem W8n {T : TypeId → Option VTy} {H : Zf} {op : Op} {ρ : VEnv} {H' : Zf} {t : TypeId} {a : Operand} {i : Nat} {v : VVal} {y : VTy} {b off : Nat} {cs new : List VVal} (ho : op = .store t a (.tmp i)) (hv : ρ[i]? = some v) (ha : ρ.eval a = .ptr (some (b, off))) (hy : T t = some y) (hx : v.cells = some new) (hn : new.length = y.size) (h1 : new.all VVal.one = true) (hb : H[b]? = some (.cells cs true) := by exact XH37) (hl : off + new.length ≤ cs.length := by show 0 + k * 1 + 1 ≤ _; rw [List.length_map, plK_len (by omega)]; omega) (hH : H.set b (.cells (ZE cs off new) true) = H' := by exact (ZP rfl).trans (by show _ ++ [VBlk.dead, VBlk.cells (ZE (rcN (plK a l k)) (0 + k * 1) [iI ((l.getD (a.getD k 0) 0 : Nat) : Int)]) true] = _; rw [spl_N (by rw [plK_len (by omega)]; omega)])) : vop T ρ.eval H op = some (.skip, H') := ZZ ho hv ha hy hx hn h1 hb hl hH
theorem W8p {S : V.Sys} {H : Zf} {fn : Func} {ex : Exit} {env : VEnv} {B L : Zf} {v : VVal} {R : VVal → Zf → Prop} (hx : ex = .normal ∨ ex = .ret) (hv : ZT S.C.T env (B ++ L) fn.results = some v) (h : R v B) (hB : BaseOk H B := by exact XH42) (hu : v.under H.length = true := by first | rfl | exact (show ((fzN l).under H.length && (true && true)) = true by rw [show (fzN l).under H.length = true from Yv _ _]; rfl)) : fnK S fn H R ex env (B ++ L) := YZ hx hv hB hu h
theorem W8q {P : Prop} (h : P := by first | exact ⟨by rw [srF_R hey, hsr, srR_yes (by omega) (h5 rfl)]; rfl, rfl⟩ | exact ⟨by rw [srF_R hey, hsr, srR_end (by omega)]; rfl, rfl⟩ | exact ⟨by rw [srF_e (by rw [YH]; assumption)]; rfl, rfl⟩) : P := h
theorem W8r {T : TypeId → Option VTy} {H : Zf} {op : Op} {ρ : Operand → VVal} {t : TypeId} {a : Operand} {y : VTy} {p : VVal} {n : Nat} {vs : List VVal} (ho : op = .load t a) (ha : ρ a = p) (hy : T t = some y) (hd : Zm y.desc = true) (hn : y.size = n) (h : LdOkA H p n vs := by first | exact .inl ⟨_, _, rfl, by rfl⟩ | exact .inr ⟨_, _, _, _, rfl, XH37, by rfl⟩) : vop T ρ H op = some (.agg vs, H) := v_ldA ho ha hy hd hn h
theorem W8s {P : Prop} (h : P := by first | exact ⟨he.symm, rfl⟩ | exact ⟨by rw [show leA p = none from if_neg (by assumption)]; rfl, rfl⟩) : P := h
theorem search_in {x : SW} {H Z : Zf} {pv : VVal} {a : List Nat} {b i n c : Nat} {o : Option (List Nat)} (hZ : Z[i]? = some (.cells (rcN (a ++ [b])) true)) (h : F (psys x) 136 [pv, fzN (a ++ [b])] (H ++ Z.set i .dead) fun v G => v = leT o ∧ G = H ++ Z.set i .dead) (hn : n = a.length + 1) (hc : c = n) : F (psys x) 136 [pv, .slice (some (H.length + i, 0)) n c false 1] (H ++ Z) fun v G => v = leT o ∧ G = H ++ Z.set i .dead := by
  subst hc; subst hn
  exact F.pre (Gh.freezeL (H := H) (l := rcN (a ++ [b])) (vs' := [pv, fzN (a ++ [b])]) 1 i rfl hZ (Yf (by simp)) (Nat.le_refl _) (by simp)) h
theorem leV_o {ws : List (BitVec 64)} {a : List Nat} (h : (Z8 ws a a.length).length ≤ 12) : ∃ l ok, leV (Z8 ws a a.length) = .tuple [fzN l, .bool ok] ∧ (ok = true → plO ws a = some (plN a l) ∧ l.length = (Z8 ws a a.length).length) ∧ (ok = false → plO ws a = none) := by
  unfold leV plO
  by_cases hf : Yd (Z8 ws a a.length) 0#64 = true
  · rw [if_pos ⟨h, hf⟩, if_pos hf]
    refine ⟨_, true, rfl, fun _ => ⟨rfl, ?_⟩, fun e => (by cases e)⟩
    have := (lst_ok (fullB_iff.1 hf)).len
    rwa [Yo] at this
  · rw [if_neg (fun e => hf e.2), if_neg hf]
    exact ⟨[], false, rfl, fun e => (by cases e), fun _ => rfl⟩
theorem search_0 {x : SW} (p : Pb) (hp : PbL p) (g : Go.V.Good p) (H : Zf) (a : List Nat) (ha : Pat a) (hl : a.length = p.who.length) : F (psys x) 136 [.agg (pbB p), fzN a] H fun v G => v = leT (srF (wsP p) p.rules 0 a) ∧ G = H := by
 have h1 := hp.w
 have g1 := g.n12
 have hz := @szP_le a a.length
 have hbl := @YC (wsP p) a a.length
 refine Zt Tryd.func136 rfl u73 rfl ?_
 refine Zd (Za ?_)
 refine Lo u73 (ZH rfl rfl rfl) ?_
 refine Lo u73 (Zg (VVal.slice none 0 0 true 0) (.inr rfl) rfl) ?_
 refine Lo u73 (Zg (VVal.bool false) (.inr rfl) rfl) ?_
 refine Ze (Zc (Zd (Zd ?_)))
 refine ZY (Gh.freezePtrL (cs := pbB p) 2 0 rfl rfl rfl) ?_
 refine Za ?_
 refine Lo u73 (W8i rfl rfl rfl rfl rfl) ?_
 refine Lo u73 (Zb (.inl rfl) rfl) ?_
 refine Zs rfl rfl rfl (by exact early_spec _ p hp a) ?_
 rintro _ _ ⟨rfl, rfl⟩
 refine Le u73 ?_
 refine Lo u73 (rfl) ?_
 refine Ze (Zc ?_)
 refine Zk _ rfl (fun hc1 => ?_) (fun hc1 => ?_)
 ·try simp only [qB, qN] at hc1
  refine Zd (Za ?_)
  refine Lo u73 (Zg (VVal.slice none 0 0 true 0) (.inr rfl) rfl) ?_
  refine Lo u73 (Zg (VVal.bool false) (.inr rfl) rfl) ?_
  refine Ze (Zc ?_)
  refine ZY (Gh.freezeNil 4 (es' := 1) rfl rfl) ?_
  refine Zl (Zn ?_)
  refine W8j (.inr rfl) (YE rfl rfl rfl) ?_
  exact W8k
 ·try simp only [qB, qN] at hc1
  refine Zj (Zc (Zd (Zd ?_)))
  have hey : erlA (wsP p).length p.rules a = true := by rw [YH]; assumption
  refine Za ?_
  refine Lo u73 (Zb (.inl rfl) rfl) ?_
  refine Lo u73 (rfl) ?_
  refine Lo u73 (rfl) ?_
  refine Lo u73 (W4x rfl rfl rfl rfl) ?_
  refine Lo u73 (rfl) ?_
  refine Lo u73 (v_is true rfl (by rw [hl]; simp)) ?_
  refine Ze (Zc ?_)
  refine ZU rfl rfl ?_
  refine Zd (Za ?_)
  refine Lo u73 (W8i rfl rfl rfl rfl rfl) ?_
  refine Lo u73 (Zb (.inl rfl) rfl) ?_
  refine Zs rfl rfl rfl (by exact Rows_spec _ p g a ha (by omega)) ?_
  rintro _ _ ⟨rfl, rfl⟩
  refine Le u73 ?_
  refine Zs rfl rfl rfl (by exact refLeast_spec _ (Z8 (wsP p) a a.length) (by omega)) ?_
  rintro v _ ⟨hv, rfl⟩; obtain ⟨l, ok, he, h5, h6⟩ := leV_o (ws := wsP p) (a := a) (by omega); rw [he] at hv; subst hv
  refine Le u73 ?_
  refine Lo u73 (Zb (.inl rfl) rfl) ?_
  refine Lo u73 (rfl) ?_
  refine Lo u73 (rfl) ?_
  refine Lo u73 (Zb (.inr rfl) rfl) ?_
  refine Lo u73 (Zb (.inr rfl) rfl) ?_
  refine Ze (Zc (Zd (Zd (Za ?_))))
  refine Lo u73 (Zb (.inl rfl) rfl) ?_
  refine Lo u73 (rfl) ?_
  refine Ze (Zc ?_)
  refine Zk _ rfl (fun hc2 => ?_) (fun hc2 => ?_)
  ·try simp only [qB, qN] at hc2
   refine Zd (Za ?_)
   refine Lo u73 (Zg (VVal.slice none 0 0 true 0) (.inr rfl) rfl) ?_
   refine Lo u73 (Zg (VVal.bool false) (.inr rfl) rfl) ?_
   refine Ze (Zc ?_)
   refine ZY (Gh.freezeNil 4 (es' := 1) rfl rfl) ?_
   refine Zl (Zn (Zn ?_))
   refine W8j (.inr rfl) (YE rfl rfl rfl) ?_
   exact W8k
  ·try simp only [qB, qN] at hc2
   refine Zj (Zc (Zd ?_))
   have hok : ok = true := by assumption
   obtain ⟨h7, h8⟩ := h5 hok
   refine Za ?_
   refine Lo u73 (Zb (.inl rfl) rfl) ?_
   refine Lo u73 (rfl) ?_
   refine Lo u73 (v_makeSlice rfl rfl rfl rfl rfl (by decide) ⟨by omega, Int.le_refl _, by show (a.length : Int) * (8 : Nat) ≤ _; omega, by omega⟩) ?_
   refine Lo u73 (Zb (.inr rfl) rfl) ?_
   refine Ze (Zc (Zd (Zd (Za ?_))))
   refine Lo u73 (Zg (VVal.int .i64 0) (.inr rfl) rfl) ?_
   refine Ze (Zc (Zi ?_))
   refine Zu (mk 73 9444732965739290426557) (env' := u73) rfl ?_
   refine Zx (fun (k : Nat) => a.length - k) (fun (k : Nat) => [(9, iI (k : Nat))]) (fun (k : Nat) G => (k ≤ a.length) ∧ G = H ++ [.dead, .cells (rcN (plK a l k)) true]) 0 rfl ?_ ?_
   ·refine ⟨?_, (by rw [show plK a l 0 = List.replicate a.length 0 from rfl, ← rep_rc]; rfl)⟩
    exact Nat.zero_le _
   rintro k _ ⟨hk9, rfl⟩
   refine ZO (env' := u73) rfl ?_
   refine Zd (Zd (Za ?_))
   refine Lo u73 (Zb (.inl rfl) rfl) ?_
   refine Lo u73 (Zb (.inl rfl) rfl) ?_
   refine Lo u73 (rfl) ?_
   refine Lo u73 (rfl) ?_
   refine Ze (Zc ?_)
   refine Zk _ rfl (fun hc3 => ?_) (fun hc3 => ?_)
   ·try simp only [qB, qN] at hc3
    refine Zj (Zc (Zd (Zi ?_)))
    have hlt := Pat.lt ha (Nat.le_refl a.length) (i := k) (by omega)
    refine Za ?_
    refine Lo u73 (Zb (.inl rfl) rfl) ?_
    refine Lo u73 (Zb (.inl rfl) rfl) ?_
    refine Lo u73 (Zb (.inl rfl) rfl) ?_
    refine Lo u73 (Zb (.inl rfl) rfl) ?_
    refine Lo u73 (Zb (.inl rfl) rfl) ?_
    refine Lo u73 (W18 rfl rfl rfl rfl rfl rfl rfl) ?_
    refine Lo u73 (W4x rfl rfl rfl rfl) ?_
    refine Lo u73 (W18 rfl rfl rfl rfl rfl rfl rfl) ?_
    refine Lo u73 (W4x rfl rfl rfl rfl) ?_
    refine Lo u73 (W18 rfl rfl rfl rfl rfl rfl rfl) ?_
    refine Lo u73 (W8n rfl rfl rfl rfl rfl rfl rfl) ?_
    refine Ze (Zy (Zc (Za ?_)))
    refine Lo u73 (Zb (.inl rfl) rfl) ?_
    refine Lo u73 (W14 rfl rfl rfl) ?_
    refine Lo u73 (Zb (.inr rfl) rfl) ?_
    refine Ze ?_
    refine Zw (mk 73 9444732965739290426557) (env' := u73) rfl ⟨k + 1, ?_, rfl, ?_⟩
    ·first | omega | (simp only []; omega)
    ·exact ⟨by omega, by rw [plK_step (by omega)]⟩
   ·try simp only [qB, qN] at hc3
    refine ZD (ZB (Zv (ZC (Zc (Zd (Za ?_))))))
    refine Lo u73 (Zb (.inl rfl) rfl) ?_
    refine Lo u73 (Zb (.inr rfl) rfl) ?_
    refine Lo u73 (Zg (VVal.bool true) (.inr rfl) rfl) ?_
    refine Ze (Zc ?_)
    obtain rfl : k = a.length := by omega
    rw [plK_all]
    refine ZY (Gh.freezeL (l := rcN (plN a l)) 4 1 rfl rfl (Yf (by rw [List.length_map, plN_len]; rfl)) (Nat.le_refl _) rfl) ?_
    refine Zl (Zn ?_)
    refine W8j (.inr rfl) (YE rfl rfl rfl) ?_
    exact W8k
theorem search_s {x : SW} (p : Pb) (hp : PbL p) (g : Go.V.Good p) (M : Nat) (ih : ∀ (H : Zf) (a : List Nat), Pat a → a.length + M = p.who.length → F (psys x) 136 [.agg (pbB p), fzN a] H (fun v G => v = leT (srF (wsP p) p.rules M a) ∧ G = H)) (H : Zf) (a : List Nat) (ha : Pat a) (hl : a.length + (M + 1) = p.who.length) : F (psys x) 136 [.agg (pbB p), fzN a] H fun v G => v = leT (srF (wsP p) p.rules (M + 1) a) ∧ G = H := by
 have h1 := hp.w
 have g1 := g.n12
 have hz := @szP_le a a.length
 have hbl := @YC (wsP p) a a.length
 refine Zt Tryd.func136 rfl u73 rfl ?_
 refine Zd (Za ?_)
 refine Lo u73 (ZH rfl rfl rfl) ?_
 refine Lo u73 (Zg (VVal.slice none 0 0 true 0) (.inr rfl) rfl) ?_
 refine Lo u73 (Zg (VVal.bool false) (.inr rfl) rfl) ?_
 refine Ze (Zc (Zd (Zd ?_)))
 refine ZY (Gh.freezePtrL (cs := pbB p) 2 0 rfl rfl rfl) ?_
 refine Za ?_
 refine Lo u73 (W8i rfl rfl rfl rfl rfl) ?_
 refine Lo u73 (Zb (.inl rfl) rfl) ?_
 refine Zs rfl rfl rfl (by exact early_spec _ p hp a) ?_
 rintro _ _ ⟨rfl, rfl⟩
 refine Le u73 ?_
 refine Lo u73 (rfl) ?_
 refine Ze (Zc ?_)
 refine Zk _ rfl (fun hc1 => ?_) (fun hc1 => ?_)
 ·try simp only [qB, qN] at hc1
  refine Zd (Za ?_)
  refine Lo u73 (Zg (VVal.slice none 0 0 true 0) (.inr rfl) rfl) ?_
  refine Lo u73 (Zg (VVal.bool false) (.inr rfl) rfl) ?_
  refine Ze (Zc ?_)
  refine ZY (Gh.freezeNil 4 (es' := 1) rfl rfl) ?_
  refine Zl (Zn ?_)
  refine W8p (.inr rfl) (YE rfl rfl rfl) ?_
  exact W8q
 ·try simp only [qB, qN] at hc1
  refine Zj (Zc (Zd (Zd ?_)))
  have hey : erlA (wsP p).length p.rules a = true := by rw [YH]; assumption
  refine Za ?_
  refine Lo u73 (Zb (.inl rfl) rfl) ?_
  refine Lo u73 (rfl) ?_
  refine Lo u73 (rfl) ?_
  refine Lo u73 (W4x rfl rfl rfl rfl) ?_
  refine Lo u73 (rfl) ?_
  refine Lo u73 (v_is false rfl (by simp; omega)) ?_
  refine Ze (Zc ?_)
  refine Z5 rfl rfl ?_
  refine Zj (Zc (Zd (Zd (Za ?_))))
  refine Lo u73 (Zg (VVal.int .i64 0) (.inr rfl) rfl) ?_
  refine Ze (Zc (Zi ?_))
  refine Zu (mk 73 9444732965739290426361) (env' := u73) rfl ?_
  refine Zx (fun (b : Nat) => szP a a.length + 1 - b) (fun (b : Nat) => [(10, iI (b : Nat))]) (fun (b : Nat) G => (b ≤ szP a a.length + 1 ∧ srR (wsP p) p.rules M a 0 = srR (wsP p) p.rules M a b) ∧ ∃ X, G = H ++ X) 0 rfl ?_ ?_
  ·refine ⟨?_, ⟨_, rfl⟩⟩
   exact ⟨Nat.zero_le _, rfl⟩
  rintro b _ ⟨⟨hb, hsr⟩, ⟨X, rfl⟩⟩
  refine ZO (env' := u73) rfl ?_
  refine Zd (Zd (Za ?_))
  refine Lo u73 (Zb (.inl rfl) rfl) ?_
  refine Lo u73 (Zb (.inl rfl) rfl) ?_
  refine Zs rfl rfl rfl (by exact Size_spec _ a ha (by omega)) ?_
  rintro _ _ ⟨rfl, rfl⟩
  refine Le u73 ?_
  refine Lo u73 (rfl) ?_
  refine Ze (Zc ?_)
  refine Zk _ rfl (fun hc2 => ?_) (fun hc2 => ?_)
  ·try simp only [qB, qN] at hc2
   refine Zj (Zc (Zd (Zi (Zd (Za ?_)))))
   refine Lo u73 (Zg (VVal.slice none 0 0 true 0) (.inr rfl) rfl) ?_
   refine Ze (Zc (Zd (Za ?_)))
   refine Lo u73 (Zb (.inl rfl) rfl) ?_
   refine Lo u73 (Zb (.inl rfl) rfl) ?_
   refine Yt rfl rfl (v_cpN rfl rfl rfl rfl rfl rfl rfl rfl (by show a.length * 8 ≤ _ ∧ _; omega)) ?_
   rintro w _ ⟨Z, rfl, hcp⟩
   refine Le u73 ?_
   refine Lo u73 (Zb (.inr rfl) rfl) ?_
   refine Ze (Zc (Zd ?_))
   refine B_drawP #[0, 0, 0, 4, 14, 31, 63, 127, 127, 255, 1023] XH3 ?_
   refine P_seg [0, 1, 2, 3, 4] (bef := #[0, 0, 0, 4, 14, 31, 63, 127, 127, 255, 1023]) XH3 XH3 XH3 ?_
   refine Yg (env' := u73) (x := .look _ _) rfl rfl rfl (W8i rfl rfl rfl rfl rfl) rfl rfl rfl ?_
   refine Oo u73 .calm rfl (Zb (.inl rfl) rfl) ?_
   refine Oo u73 .calm rfl (Zb (.inl rfl) rfl) ?_
   refine Oo u73 .grow rfl (Zr rfl rfl (by decide) rfl) ?_
   refine O_opXI (fun _ G => .turn _ G) rfl rfl rfl (v_cpApp rfl rfl rfl rfl rfl rfl rfl rfl hcp (by show (a.length + 1) * 8 ≤ _ ∧ _; omega)) (fun _ _ => rfl) ?_
   rintro _ _ ⟨Z2, i, rfl, rfl, hZ2⟩
   refine O_env (env' := u73) rfl ?_
   refine ZQ [_] (by rfl) (And.intro (And.intro (W8i rfl rfl rfl rfl rfl) (W8i rfl rfl rfl rfl rfl)) trivial) ?_
   refine P_call 5 (bef := #[0, 0, 0, 4, 14, 31, 63, 127, 127, 255, 1023]) XH3 XH3 rfl rfl rfl rfl (by exact search_in hZ2 (ih _ (a ++ [b]) (Pat_snoc ha (by omega)) (by simp; omega)) rfl rfl) ?_
   rintro v _ ⟨hv, rfl⟩; obtain ⟨l, ok, he, h5, h6⟩ := leT_eq (srF (wsP p) p.rules M (a ++ [b])); rw [he] at hv; subst hv
   refine P_env (env' := u73) rfl ?_
   refine P_seg [6, 7, 8, 9, 10] (bef := #[0, 0, 0, 4, 14, 31, 63, 127, 127, 255, 1023]) XH3 XH3 XH3 ?_
   refine Oo u73 .calm rfl (Zb (.inl rfl) rfl) ?_
   refine Oo u73 .calm rfl (rfl) ?_
   refine Oo u73 .calm rfl (rfl) ?_
   refine Oo u73 .calm rfl (Zb (.inr rfl) rfl) ?_
   refine Oo u73 .calm rfl (Zb (.inr rfl) rfl) ?_
   refine ZQ [] XH3 (trivial) ?_
   refine P_end XH3 ?_
   refine Zc (Zd (Za ?_))
   refine Lo u73 (Zb (.inl rfl) rfl) ?_
   refine Ze (Zc ?_)
   refine Zk _ rfl (fun hc3 => ?_) (fun hc3 => ?_)
   ·try simp only [qB, qN] at hc3
    have hok : ok = true := by assumption
    subst hok
    refine Zd (Za ?_)
    refine Lo u73 (Zb (.inl rfl) rfl) ?_
    refine Lo u73 (Zb (.inr rfl) rfl) ?_
    refine Lo u73 (Zg (VVal.bool true) (.inr rfl) rfl) ?_
    refine Ze (Zc (Zl (ZA (Zn (Z3 (ZA (Zn ?_)))))))
    refine W8p (.inr rfl) (YE rfl rfl rfl) ?_
    exact W8q
   ·try simp only [qB, qN] at hc3
    have hok : ok = false := by assumption
    subst hok
    refine Zj (Zy (Zc (Za ?_)))
    refine Lo u73 (Zb (.inl rfl) rfl) ?_
    refine Lo u73 (W14 rfl rfl rfl) ?_
    refine Lo u73 (Zb (.inr rfl) rfl) ?_
    refine Ze ?_
    refine Zw (mk 73 9444732965739290426361) (env' := u73) rfl ⟨b + 1, ?_, rfl, ?_⟩
    ·first | omega | (simp only []; omega)
    ·exact ⟨⟨by omega, hsr.trans (srR_no (by omega) (h6 rfl).2)⟩, _, rfl⟩
  ·try simp only [qB, qN] at hc2
   refine ZD (ZB (Zv (ZC (Zc (Zd (Za ?_))))))
   refine Lo u73 (Zg (VVal.slice none 0 0 true 0) (.inr rfl) rfl) ?_
   refine Lo u73 (Zg (VVal.bool false) (.inr rfl) rfl) ?_
   refine Ze (Zc ?_)
   refine ZY (Gh.freezeNil 4 (es' := 1) rfl rfl) ?_
   refine Zl ?_
   refine W8p (.inr rfl) (YE rfl rfl rfl) ?_
   exact W8q
theorem search_spec {x : SW} (p : Pb) (hp : PbL p) (g : Go.V.Good p) : ∀ (M : Nat) (H : Zf) (a : List Nat), Pat a → a.length + M = p.who.length → F (psys x) 136 [.agg (pbB p), fzN a] H (fun v G => v = leT (srF (wsP p) p.rules M a) ∧ G = H)
  | 0, H, a, ha, hl => search_0 p hp g H a ha hl
  | M + 1, H, a, ha, hl => search_s p hp g M (fun H a b c => search_spec p hp g M H a b c) H a ha hl
theorem search_top {x : SW} (p : Pb) (hp : PbL p) (g : Go.V.Good p) (H : Zf) : F (psys x) 136 [.agg (pbB p), niS] H (fun v G => ∃ l ok, v = .tuple [fzN l, .bool ok] ∧ leT (leA p) = .tuple [fzN l, .bool ok] ∧ G = H) := by
  refine F.pre (Gh.freezeNil (vs' := [.agg (pbB p), fzN []]) 1 rfl rfl) ?_
  refine (search_spec p hp g p.who.length H [] Pat_nil (Nat.zero_add _)).mono ?_
  rintro v G ⟨rfl, rfl⟩
  have h1 := srF_fd (u := p.users.toNat) (ws := wsP p) (rs := p.rules) fun r hr => by rw [YH]; exact g.ru r hr
  have h2 : leA p = srF (wsP p) p.rules p.who.length [] := by
    unfold leA
    rw [if_pos (pck_good.2 g)]
    unfold Yq
    rw [← YH, h1]
  rw [← h2]
  obtain ⟨l, ok, he, _, _⟩ := leT_eq (leA p)
  exact ⟨l, ok, he, he, rfl⟩
theorem fLeast_spec {x : SW} (H : Zf) (p : Pb) (hp : PbL p) : F (psys x) 107 [.agg (pbB p)] H fun v G => v = leT (leA p) ∧ G = H := by
 refine Zt Tryd.func107 rfl u11 rfl ?_
 refine Zd (Za ?_)
 refine Lo u11 (ZH rfl rfl rfl) ?_
 refine Lo u11 (Zg (VVal.slice none 0 0 true 0) (.inr rfl) rfl) ?_
 refine Lo u11 (Zg (VVal.bool false) (.inr rfl) rfl) ?_
 refine Ze (Zc (Zd (Zd ?_)))
 refine ZY (Gh.freezePtrL (cs := pbB p) 1 0 rfl rfl rfl) ?_
 refine Za ?_
 refine Lo u11 (W8r rfl rfl rfl rfl rfl) ?_
 refine Zs rfl rfl rfl (by exact fpCheck_spec _ _ hp) ?_
 rintro _ _ ⟨rfl, rfl⟩
 refine Le u11 ?_
 refine Lo u11 (rfl) ?_
 refine Ze (Zc ?_)
 refine Zk _ rfl (fun hc1 => ?_) (fun hc1 => ?_)
 ·try simp only [qB] at hc1
  refine Zd (Za ?_)
  refine Lo u11 (Zg (VVal.slice none 0 0 true 0) (.inr rfl) rfl) ?_
  refine Lo u11 (Zg (VVal.bool false) (.inr rfl) rfl) ?_
  refine Ze (Zc ?_)
  refine ZY (Gh.freezeNil 2 (es' := 1) rfl rfl) ?_
  refine Zl (Zn ?_)
  refine W8p (.inr rfl) (YE rfl rfl rfl) ?_
  exact W8s
 ·try simp only [qB] at hc1
  refine Zj (Zc (Zd ?_))
  have g : Go.V.Good p := pck_good.1 (by assumption)
  refine Za ?_
  refine Lo u11 (W8r rfl rfl rfl rfl rfl) ?_
  refine Zs rfl rfl rfl (by exact search_top p hp g _) ?_
  rintro _ _ ⟨l, ok, rfl, he, rfl⟩
  refine Le u11 ?_
  refine Lo u11 (rfl) ?_
  refine Lo u11 (rfl) ?_
  refine Lo u11 (Zb (.inr rfl) rfl) ?_
  refine Lo u11 (Zb (.inr rfl) rfl) ?_
  refine Ze (Zc (Zl ?_))
  refine W8p (.inr rfl) (YE rfl rfl rfl) ?_
  exact W8s
theorem fCan_spec {x : SW} (H : Zf) (p : Pb) (hp : PbL p) : F (psys x) 65 [.agg (pbB p)] H fun v G => v = .bool (leA p).isSome ∧ G = H := by
 refine Zt Tryd.func65 rfl u11 rfl ?_
 refine Zd (Za ?_)
 refine Lo u11 (ZH rfl rfl rfl) ?_
 refine Lo u11 (Zg (VVal.bool false) (.inr rfl) rfl) ?_
 refine Ze (Zc (Zd (Za ?_)))
 refine Lo u11 (W11 rfl rfl rfl rfl rfl) ?_
 refine Zs rfl rfl rfl (by exact fLeast_spec _ p hp) ?_
 rintro v _ ⟨hv, rfl⟩; obtain ⟨l, ok, he, h1, h2⟩ := leT_eq (leA p); have hok := leT_ok he; rw [he] at hv; subst hv; subst hok
 refine Le u11 ?_
 refine Lo u11 (Zb (.inl rfl) rfl) ?_
 refine Lo u11 (rfl) ?_
 refine Lo u11 (rfl) ?_
 refine Lo u11 (Zb (.inr rfl) rfl) ?_
 refine Lo u11 (Zb (.inr rfl) rfl) ?_
 refine Ze (Zc (Zd (Za ?_)))
 refine Lo u11 (Zb (.inl rfl) rfl) ?_
 refine Lo u11 (Zb (.inr rfl) rfl) ?_
 refine Ze (Zc (Zl ?_))
 refine W10 (.inr rfl) (Zh rfl rfl) ?_
 exact ⟨rfl, rfl⟩
abbrev u82 {a0 a1 a2 a3 a4 a5 a6 a7 a8 a9 a10 a11 a12 a13 a14 a15 a16 a17 a18 a19 a20 a21 a22 a23 a24 a25 a26 a27 a28 a29 a30 a31 a32 a33 a34 a35 a36 a37 a38 a39 a40 a41 a42 a43 a44 a45 a46 a47 a48 a49 a50 a51 a52 a53 a54 a55 a56 a57 a58 a59 a60 a61 a62 a63 a64 a65 a66 a67 a68 a69 a70 a71 a72 a73 a74 a75 a76 a77 a78 a79 a80 a81 : VVal} : VEnv := a0 :: a1 :: a2 :: a3 :: a4 :: a5 :: a6 :: a7 :: a8 :: a9 :: a10 :: a11 :: a12 :: a13 :: a14 :: a15 :: a16 :: a17 :: a18 :: a19 :: a20 :: a21 :: a22 :: a23 :: a24 :: a25 :: a26 :: a27 :: a28 :: a29 :: a30 :: a31 :: a32 :: a33 :: a34 :: a35 :: a36 :: a37 :: a38 :: a39 :: a40 :: a41 :: a42 :: a43 :: a44 :: a45 :: a46 :: a47 :: a48 :: a49 :: a50 :: a51 :: a52 :: a53 :: a54 :: a55 :: a56 :: a57 :: a58 :: a59 :: a60 :: a61 :: a62 :: a63 :: a64 :: a65 :: a66 :: a67 :: a68 :: a69 :: a70 :: a71 :: a72 :: a73 :: a74 :: a75 :: a76 :: a77 :: a78 :: a79 :: a80 :: a81 :: []
theorem W8x {P : Prop} (h : P := by first | exact ⟨(whV_y hwb).symm, rfl⟩ | exact ⟨(whV_n (whB_no1 (by assumption))).symm, rfl⟩ | exact ⟨(whV_n (whB_no2 (by simpa using hc2))).symm, rfl⟩) : P := h
theorem fWithoutN {x : SW} (H : Zf) (p : Pb) (a c : List Nat) (hp : PbL p) (ha : a.length ≤ 1000) (hc : c.length ≤ 1000) : F (psys x) 29 [.agg (pbB p), fzN a, fzN c] H fun v G => v = .tuple [.agg (pbB (woP p (zI a) (zI c))), iI (woE p (zI a) (zI c))] ∧ G = H := by
  rw [fzN_is, fzN_is]
  exact fWithout_spec H p (zI a) (zI c) hp (by rw [zI_len]; omega) (by rw [zI_len]; omega)
theorem stW_f {p : Pb} {a c : List Nat} {b : Bool} (h : (leA (woP p (zI a) (zI c))).isSome = b) : stW p a c = !b := by unfold stW; rw [h]
theorem gr_l {st : List Nat → Bool} {i : Nat} : (gr st i).1.length ≤ i ∧ (gr st i).2.length ≤ i := by have := gr_len (st := st) i; omega
theorem fWhy_spec {x : SW} (H : Zf) (p : Pb) (hp : PbL p) : F (psys x) 24 [.agg (pbB p)] H fun v G => v = whV p ∧ G = H := by
 refine Zt Tryd.func24 rfl u82 rfl ?_
 refine Zd (Za ?_)
 refine Lo u82 (ZH rfl rfl rfl) ?_
 refine Lo u82 (Zg (VVal.slice none 0 0 true 0) (.inr rfl) rfl) ?_
 refine Lo u82 (Zg (VVal.slice none 0 0 true 0) (.inr rfl) rfl) ?_
 refine Lo u82 (Zg (VVal.bool false) (.inr rfl) rfl) ?_
 refine Ze (Zc (Zd (Zd ?_)))
 refine ZY (Gh.freezePtrL (cs := pbB p) 1 0 rfl rfl rfl) ?_
 refine Za ?_
 refine Lo u82 (W2p rfl rfl rfl rfl rfl) ?_
 refine Zs rfl rfl rfl (by exact fpCheck_spec _ p hp) ?_
 rintro _ _ ⟨rfl, rfl⟩
 refine Le u82 ?_
 refine Lo u82 (rfl) ?_
 refine Lo u82 (Zb (.inl rfl) rfl) ?_
 refine ZK 20 (env1 := u82) (env2 := u82) rfl rfl rfl (fun hg1 => ?_) (fun hg1 => ?_)
 ·try simp only [qB, qN] at hg1
  refine Lf u82 ?_
  refine Lf u82 ?_
  refine Lo u82 (ZN (VVal.bool true) rfl rfl rfl) ?_
  refine Ze (Zc ?_)
  refine ZU rfl rfl ?_
  refine Zd (Za ?_)
  refine Lo u82 (Zg (VVal.slice none 0 0 true 0) (.inr rfl) rfl) ?_
  refine Lo u82 (Zg (VVal.slice none 0 0 true 0) (.inr rfl) rfl) ?_
  refine Lo u82 (Zg (VVal.bool false) (.inr rfl) rfl) ?_
  refine Ze (Zc ?_)
  refine ZY (Gh.freezeNil 2 (es' := 1) rfl rfl) ?_
  refine ZY (Gh.freezeNil 3 (es' := 1) rfl rfl) ?_
  refine Zl (Zn ?_)
  refine W7c (.inr rfl) (vres_tmp3 rfl rfl rfl rfl) ?_
  exact W8x
 ·try simp only [qB, qN] at hg1
  refine Lo u82 (W2p rfl rfl rfl rfl rfl) ?_
  refine Zs rfl rfl rfl (by exact fCan_spec _ p hp) ?_
  rintro _ _ ⟨rfl, rfl⟩
  refine Le u82 ?_
  refine Lo u82 (ZX rfl rfl rfl) ?_
  refine Ze (Zc ?_)
  refine Zk _ rfl (fun hc2 => ?_) (fun hc2 => ?_)
  ·try simp only [qB, qN] at hc2
   refine Zd (Za ?_)
   refine Lo u82 (Zg (VVal.slice none 0 0 true 0) (.inr rfl) rfl) ?_
   refine Lo u82 (Zg (VVal.slice none 0 0 true 0) (.inr rfl) rfl) ?_
   refine Lo u82 (Zg (VVal.bool false) (.inr rfl) rfl) ?_
   refine Ze (Zc ?_)
   refine ZY (Gh.freezeNil 2 (es' := 1) rfl rfl) ?_
   refine ZY (Gh.freezeNil 3 (es' := 1) rfl rfl) ?_
   refine Zl (Zn ?_)
   refine W7c (.inr rfl) (vres_tmp3 rfl rfl rfl rfl) ?_
   exact W8x
  ·try simp only [qB, qN] at hc2
   refine Zj (Zc (Zd ?_))
   have g : Go.V.Good p := pck_good.1 (by assumption)
   have hwb : whB p = true := whB_yes (by assumption) (by simpa using hc2)
   have g1 := g.n12; have g3 := g.r32
   have hA := @whA_len p; have hC := @whC_len p
   refine Za ?_
   refine Lo u82 (Zg (VVal.slice none 0 0 true 0) (.inr rfl) rfl) ?_
   refine Lo u82 (Zg (VVal.slice none 0 0 true 0) (.inr rfl) rfl) ?_
   refine Ze (Zc (Zd (Za ?_)))
   refine Lo u82 (Zg (VVal.slice none 0 0 true 0) (.inr rfl) rfl) ?_
   refine Lo u82 (Zg (VVal.slice none 0 0 true 0) (.inr rfl) rfl) ?_
   refine Ze (Zc (Zd (Zd ?_)))
   refine ZY (Gh.freezeNil 5 (es' := 1) rfl rfl) ?_
   refine ZY (Gh.freezeNil 6 (es' := 1) rfl rfl) ?_
   refine Za ?_
   refine Lo u82 (Zg (VVal.int .i64 0) (.inr rfl) rfl) ?_
   refine Ze (Zc (Zi ?_))
   refine Zu (mk 82 4835703278458516698823709) (env' := u82) rfl ?_
   refine Zx (fun (⟨i, lv⟩ : Nat × VVal) => p.rules.length - i) (fun (⟨i, lv⟩ : Nat × VVal) => [(5, fzN (gr (fun l => stW p l []) i).1), (7, lv), (9, iI (i : Nat))]) (fun (⟨i, lv⟩ : Nat × VVal) G => (i ≤ p.rules.length) ∧ ∃ X, G = (H ++ [.dead]) ++ X ∧ LV (H.length + 1) 1 X lv (rcN (gr (fun l => stW p l []) i).2) (gr (fun l => stW p l []) i).2.length) ⟨0, niS⟩ rfl ?_ ?_
   ·refine ⟨?_, ⟨[], (List.append_nil _).symm, LV.nil _ _ _⟩⟩
    exact Nat.zero_le _
   rintro ⟨i, lv⟩ _ ⟨hi, ⟨X, rfl, hl⟩⟩
   refine ZO (env' := u82) rfl ?_
   have hgl := @gr_l (fun l => stW p l []) i
   refine Zd (Zd (Za ?_))
   refine Lo u82 (Zb (.inl rfl) rfl) ?_
   refine Lo u82 (rfl) ?_
   refine Lo u82 (W2r rfl rfl rfl rfl) ?_
   refine Lo u82 (rfl) ?_
   refine Lo u82 (rfl) ?_
   refine Ze (Zc ?_)
   refine Zk _ rfl (fun hc3 => ?_) (fun hc3 => ?_)
   ·try simp only [qB, qN] at hc3
    refine Zj (Zc (Zd (Zi (Zd (Za ?_)))))
    refine Lo u82 (Zg (VVal.slice none 0 0 true 0) (.inr rfl) rfl) ?_
    refine Ze (Zc (Zd ?_))
    refine Ym (H' := ((H ++ [.dead]) ++ X) ++ []) (List.append_nil _).symm ?_
    refine Za ?_
    refine Lo u82 (Zb (.inl rfl) rfl) ?_
    refine Lo u82 (Zb (.inl rfl) rfl) ?_
    refine Yt rfl rfl (v_cpN rfl rfl rfl rfl rfl rfl rfl rfl (by show (gr (fun l => stW p l []) i).1.length * 8 ≤ _ ∧ _; omega)) ?_
    rintro w _ ⟨Z, rfl, hcp⟩
    refine Le u82 ?_
    refine Lo u82 (Zb (.inr rfl) rfl) ?_
    refine Ze (Zc (Zd (Za ?_)))
    refine Lo u82 (Zb (.inl rfl) rfl) ?_
    refine Lo u82 (Zb (.inl rfl) rfl) ?_
    refine Lo u82 (Zr rfl rfl (by decide) rfl) ?_
    refine Yt rfl rfl (v_cpApp rfl rfl rfl rfl rfl rfl rfl rfl hcp (by show ((gr (fun l => stW p l []) i).1.length + 1) * 8 ≤ _ ∧ _; omega)) ?_
    rintro _ _ ⟨Z2, j9, rfl, rfl, hZ2⟩; rw [show (gr (fun l => stW p l []) i).1.length + 1 = ((gr (fun l => stW p l []) i).1 ++ [i]).length by simp]
    refine Le u82 ?_
    refine Lo u82 (Zb (.inr rfl) rfl) ?_
    refine Ze (Zc (Zd ?_))
    refine ZY (Gh.freezeL (l := rcN ((gr (fun l => stW p l []) i).1 ++ [i])) 10 j9 rfl hZ2 (Yf (by simp)) (Nat.le_refl _) rfl) ?_
    have hA9 : ((gr (fun l => stW p l []) i).1 ++ [i]).length ≤ 1000 := by rw [List.length_append]; show _ + 1 ≤ _; omega
    refine Za ?_
    refine Lo u82 (W2p rfl rfl rfl rfl rfl) ?_
    refine Lo u82 (Zb (.inl rfl) rfl) ?_
    refine Lo u82 (Zb (.inl rfl) rfl) ?_
    refine Zs rfl rfl rfl (by exact fWithoutN _ p ((gr (fun l => stW p l []) i).1 ++ [i]) [] hp XH33 XH33) ?_
    rintro _ _ ⟨rfl, rfl⟩
    refine Le u82 ?_
    refine Lo u82 (Zb (.inl rfl) rfl) ?_
    refine Lo u82 (rfl) ?_
    refine Lo u82 (rfl) ?_
    refine Lo u82 (ZG rfl rfl) ?_
    refine Lo u82 (W13 rfl rfl rfl rfl rfl rfl rfl) ?_
    refine Lo u82 (Zb (.inr rfl) rfl) ?_
    refine Ze (Zc (Zd (Za ?_)))
    refine Lo u82 (W2p rfl rfl rfl rfl rfl) ?_
    refine Zs rfl rfl rfl (by exact fCan_spec _ (woP p (zI ((gr (fun l => stW p l []) i).1 ++ [i])) (zI [])) (woP_L hp)) ?_
    rintro _ _ ⟨rfl, rfl⟩
    refine Le u82 ?_
    refine Ze (Zc ?_)
    refine Zk _ rfl (fun hc4 => ?_) (fun hc4 => ?_)
    ·try simp only [qB, qN] at hc4
     have hs1 : (fun l => stW p l []) ((gr (fun l => stW p l []) i).1 ++ [i]) = false := (stW_f hc4).trans rfl
     refine Ym (List.append_assoc _ _ _) ?_
     refine Za ?_
     refine Lo u82 (Zb (.inl rfl) rfl) ?_
     refine Lo u82 (Zb (.inl rfl) rfl) ?_
     refine Lo u82 (Zr rfl rfl (by decide) rfl) ?_
     refine Yt rfl rfl (Ys rfl rfl rfl rfl rfl rfl rfl (by simp) (hl.app _) rfl rfl (by decide) (by show ((gr (fun l => stW p l []) i).2.length + 1) * 8 ≤ _ ∧ _; omega) (by decide)) ?_
     rintro _ _ ⟨Y3, rfl, rfl, hY1, hY2, hL3⟩
     refine Le u82 ?_
     refine Lo u82 (Zb (.inr rfl) rfl) ?_
     refine Ze (Zy (Zc (Za ?_)))
     refine Lo u82 (Zb (.inl rfl) rfl) ?_
     refine Lo u82 (W14 rfl rfl rfl) ?_
     refine Lo u82 (Zb (.inr rfl) rfl) ?_
     refine Ze ?_
     refine Zw (mk 82 4835703278458516698823709) (env' := u82) rfl ⟨⟨i + 1, _⟩, ?_, XH16, ?_⟩
     ·first | omega | (simp only []; omega)
     ·first | exact ⟨by omega, _, List.append_assoc _ _ _, by rw [gr_yes (st := (fun l => stW p l [])) hs1]; exact hl.app _⟩ | exact ⟨by omega, _, rfl, by rw [gr_no (st := (fun l => stW p l [])) hs1]; exact LV.pushN hL3⟩
    ·try simp only [qB, qN] at hc4
     have hs1 : (fun l => stW p l []) ((gr (fun l => stW p l []) i).1 ++ [i]) = true := (stW_f (b := false) (by simpa using hc4)).trans rfl
     refine Za ?_
     refine Lo u82 (Zb (.inl rfl) rfl) ?_
     refine Lo u82 (Zb (.inr rfl) rfl) ?_
     refine Ze (Zy (Zc (Za ?_)))
     refine Lo u82 (Zb (.inl rfl) rfl) ?_
     refine Lo u82 (W14 rfl rfl rfl) ?_
     refine Lo u82 (Zb (.inr rfl) rfl) ?_
     refine Ze ?_
     refine Zw (mk 82 4835703278458516698823709) (env' := u82) rfl ⟨⟨i + 1, _⟩, ?_, XH16, ?_⟩
     ·first | omega | (simp only []; omega)
     ·first | exact ⟨by omega, _, List.append_assoc _ _ _, by rw [gr_yes (st := (fun l => stW p l [])) hs1]; exact hl.app _⟩ | exact ⟨by omega, _, rfl, by rw [gr_no (st := (fun l => stW p l [])) hs1]; exact LV.pushN hL3⟩
   ·try simp only [qB, qN] at hc3
    refine ZD (ZB (Zv (ZC (Zc (Zd (Zd ?_))))))
    obtain rfl : i = p.rules.length := by omega
    refine B_ghLVh 7 hl (by simp) rfl rfl fun X3 _ _ => ?_
    refine Za ?_
    refine Lo u82 (Zg (VVal.int .i64 0) (.inr rfl) rfl) ?_
    refine Ze (Zc (Zi ?_))
    refine Zu (mk 82 4835703278458516698816029) (env' := u82) rfl ?_
    refine Zx (fun (⟨i, lv⟩ : Nat × VVal) => p.who.length - i) (fun (⟨i, lv⟩ : Nat × VVal) => [(6, fzN (gr (fun m => stW p (whA p).1 m) i).1), (8, lv), (13, iI (i : Nat))]) (fun (⟨i, lv⟩ : Nat × VVal) G => (i ≤ p.who.length) ∧ ∃ X, G = (H ++ [.dead]) ++ X ∧ LV (H.length + 1) 1 X lv (rcN (gr (fun m => stW p (whA p).1 m) i).2) (gr (fun m => stW p (whA p).1 m) i).2.length) ⟨0, niS⟩ rfl ?_ ?_
    ·refine ⟨?_, ⟨X3, rfl, LV.nil _ _ _⟩⟩
     exact Nat.zero_le _
    rintro ⟨i, lv⟩ _ ⟨hi, ⟨X, rfl, hl⟩⟩
    refine ZO (env' := u82) rfl ?_
    have hgl := @gr_l (fun m => stW p (whA p).1 m) i
    refine Zd (Zd (Za ?_))
    refine Lo u82 (Zb (.inl rfl) rfl) ?_
    refine Lo u82 (rfl) ?_
    refine Lo u82 (W2r rfl rfl rfl rfl) ?_
    refine Lo u82 (rfl) ?_
    refine Lo u82 (rfl) ?_
    refine Ze (Zc ?_)
    refine Zk _ rfl (fun hc5 => ?_) (fun hc5 => ?_)
    ·try simp only [qB, qN] at hc5
     refine Zj (Zc (Zd (Zi (Zd (Za ?_)))))
     refine Lo u82 (Zg (VVal.slice none 0 0 true 0) (.inr rfl) rfl) ?_
     refine Ze (Zc (Zd ?_))
     refine Ym (H' := ((H ++ [.dead]) ++ X) ++ []) (List.append_nil _).symm ?_
     refine Za ?_
     refine Lo u82 (Zb (.inl rfl) rfl) ?_
     refine Lo u82 (Zb (.inl rfl) rfl) ?_
     refine Yt rfl rfl (v_cpN rfl rfl rfl rfl rfl rfl rfl rfl (by show (gr (fun m => stW p (whA p).1 m) i).1.length * 8 ≤ _ ∧ _; omega)) ?_
     rintro w _ ⟨Z, rfl, hcp⟩
     refine Le u82 ?_
     refine Lo u82 (Zb (.inr rfl) rfl) ?_
     refine Ze (Zc (Zd (Za ?_)))
     refine Lo u82 (Zb (.inl rfl) rfl) ?_
     refine Lo u82 (Zb (.inl rfl) rfl) ?_
     refine Lo u82 (Zr rfl rfl (by decide) rfl) ?_
     refine Yt rfl rfl (v_cpApp rfl rfl rfl rfl rfl rfl rfl rfl hcp (by show ((gr (fun m => stW p (whA p).1 m) i).1.length + 1) * 8 ≤ _ ∧ _; omega)) ?_
     rintro _ _ ⟨Z2, j9, rfl, rfl, hZ2⟩; rw [show (gr (fun m => stW p (whA p).1 m) i).1.length + 1 = ((gr (fun m => stW p (whA p).1 m) i).1 ++ [i]).length by simp]
     refine Le u82 ?_
     refine Lo u82 (Zb (.inr rfl) rfl) ?_
     refine Ze (Zc (Zd ?_))
     refine ZY (Gh.freezeL (l := rcN ((gr (fun m => stW p (whA p).1 m) i).1 ++ [i])) 14 j9 rfl hZ2 (Yf (by simp)) (Nat.le_refl _) rfl) ?_
     have hA9 : ((gr (fun m => stW p (whA p).1 m) i).1 ++ [i]).length ≤ 1000 := by rw [List.length_append]; show _ + 1 ≤ _; omega
     refine Za ?_
     refine Lo u82 (W2p rfl rfl rfl rfl rfl) ?_
     refine Lo u82 (Zb (.inl rfl) rfl) ?_
     refine Lo u82 (Zb (.inl rfl) rfl) ?_
     refine Zs rfl rfl rfl (by exact fWithoutN _ p (whA p).1 ((gr (fun m => stW p (whA p).1 m) i).1 ++ [i]) hp XH33 XH33) ?_
     rintro _ _ ⟨rfl, rfl⟩
     refine Le u82 ?_
     refine Lo u82 (Zb (.inl rfl) rfl) ?_
     refine Lo u82 (rfl) ?_
     refine Lo u82 (rfl) ?_
     refine Lo u82 (ZG rfl rfl) ?_
     refine Lo u82 (W13 rfl rfl rfl rfl rfl rfl rfl) ?_
     refine Lo u82 (Zb (.inr rfl) rfl) ?_
     refine Ze (Zc (Zd (Za ?_)))
     refine Lo u82 (W2p rfl rfl rfl rfl rfl) ?_
     refine Zs rfl rfl rfl (by exact fCan_spec _ (woP p (zI (whA p).1) (zI ((gr (fun m => stW p (whA p).1 m) i).1 ++ [i]))) (woP_L hp)) ?_
     rintro _ _ ⟨rfl, rfl⟩
     refine Le u82 ?_
     refine Ze (Zc ?_)
     refine Zk _ rfl (fun hc6 => ?_) (fun hc6 => ?_)
     ·try simp only [qB, qN] at hc6
      have hs1 : (fun m => stW p (whA p).1 m) ((gr (fun m => stW p (whA p).1 m) i).1 ++ [i]) = false := (stW_f hc6).trans rfl
      refine Ym (List.append_assoc _ _ _) ?_
      refine Za ?_
      refine Lo u82 (Zb (.inl rfl) rfl) ?_
      refine Lo u82 (Zb (.inl rfl) rfl) ?_
      refine Lo u82 (Zr rfl rfl (by decide) rfl) ?_
      refine Yt rfl rfl (Ys rfl rfl rfl rfl rfl rfl rfl (by simp) (hl.app _) rfl rfl (by decide) (by show ((gr (fun m => stW p (whA p).1 m) i).2.length + 1) * 8 ≤ _ ∧ _; omega) (by decide)) ?_
      rintro _ _ ⟨Y3, rfl, rfl, hY1, hY2, hL3⟩
      refine Le u82 ?_
      refine Lo u82 (Zb (.inr rfl) rfl) ?_
      refine Ze (Zy (Zc (Za ?_)))
      refine Lo u82 (Zb (.inl rfl) rfl) ?_
      refine Lo u82 (W14 rfl rfl rfl) ?_
      refine Lo u82 (Zb (.inr rfl) rfl) ?_
      refine Ze ?_
      refine Zw (mk 82 4835703278458516698816029) (env' := u82) rfl ⟨⟨i + 1, _⟩, ?_, XH14, ?_⟩
      ·first | omega | (simp only []; omega)
      ·first | exact ⟨by omega, _, List.append_assoc _ _ _, by rw [gr_yes (st := (fun m => stW p (whA p).1 m)) hs1]; exact hl.app _⟩ | exact ⟨by omega, _, rfl, by rw [gr_no (st := (fun m => stW p (whA p).1 m)) hs1]; exact LV.pushN hL3⟩
     ·try simp only [qB, qN] at hc6
      have hs1 : (fun m => stW p (whA p).1 m) ((gr (fun m => stW p (whA p).1 m) i).1 ++ [i]) = true := (stW_f (b := false) (by simpa using hc6)).trans rfl
      refine Za ?_
      refine Lo u82 (Zb (.inl rfl) rfl) ?_
      refine Lo u82 (Zb (.inr rfl) rfl) ?_
      refine Ze (Zy (Zc (Za ?_)))
      refine Lo u82 (Zb (.inl rfl) rfl) ?_
      refine Lo u82 (W14 rfl rfl rfl) ?_
      refine Lo u82 (Zb (.inr rfl) rfl) ?_
      refine Ze ?_
      refine Zw (mk 82 4835703278458516698816029) (env' := u82) rfl ⟨⟨i + 1, _⟩, ?_, XH14, ?_⟩
      ·first | omega | (simp only []; omega)
      ·first | exact ⟨by omega, _, List.append_assoc _ _ _, by rw [gr_yes (st := (fun m => stW p (whA p).1 m)) hs1]; exact hl.app _⟩ | exact ⟨by omega, _, rfl, by rw [gr_no (st := (fun m => stW p (whA p).1 m)) hs1]; exact LV.pushN hL3⟩
    ·try simp only [qB, qN] at hc5
     refine ZD (ZB (Zv (ZC (Zc (Zd ?_)))))
     obtain rfl : i = p.who.length := by omega
     refine B_ghLVh 8 hl (by simp) rfl rfl fun X4 _ _ => ?_
     refine Ym (List.append_assoc _ _ _) ?_
     refine Za ?_
     refine Lo u82 (Zb (.inl rfl) rfl) ?_
     refine Lo u82 (Zb (.inl rfl) rfl) ?_
     refine Lo u82 (Zb (.inr rfl) rfl) ?_
     refine Lo u82 (Zb (.inr rfl) rfl) ?_
     refine Lo u82 (Zg (VVal.bool true) (.inr rfl) rfl) ?_
     refine Ze (Zc (Zl ?_))
     refine W7c (.inr rfl) (vres_tmp3 rfl rfl rfl rfl) ?_
     exact W8x
end Go.Proofs.YtgbahioegcpjiaaDoor.VT
