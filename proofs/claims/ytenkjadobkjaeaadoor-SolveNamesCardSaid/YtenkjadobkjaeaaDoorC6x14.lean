/- Proved: Rows.SolveNamesCardSaid, the statement SolveNames with its card, of the given program at the commit; no conditions beyond those in the statement. -/
import Derived.Test.YtenkjadobkjaeaaDoorC6x13
set_option autoImplicit false
set_option linter.unusedVariables false
set_option linter.unusedSimpArgs false
set_option maxHeartbeats 4000000
set_option maxRecDepth 100000
namespace Go.Proofs.YtenkjadobkjaeaaDoor.VT
open Go Go.V Go.RowKit
abbrev u26 {a0 a1 a2 a3 a4 a5 a6 a7 a8 a9 a10 a11 a12 a13 a14 a15 a16 a17 a18 a19 a20 a21 a22 a23 a24 a25 : VVal} : VEnv := a0 :: a1 :: a2 :: a3 :: a4 :: a5 :: a6 :: a7 :: a8 :: a9 :: a10 :: a11 :: a12 :: a13 :: a14 :: a15 :: a16 :: a17 :: a18 :: a19 :: a20 :: a21 :: a22 :: a23 :: a24 :: a25 :: []
abbrev u41 {a0 a1 a2 a3 a4 a5 a6 a7 a8 a9 a10 a11 a12 a13 a14 a15 a16 a17 a18 a19 a20 a21 a22 a23 a24 a25 a26 a27 a28 a29 a30 a31 a32 a33 a34 a35 a36 a37 a38 a39 a40 : VVal} : VEnv := a0 :: a1 :: a2 :: a3 :: a4 :: a5 :: a6 :: a7 :: a8 :: a9 :: a10 :: a11 :: a12 :: a13 :: a14 :: a15 :: a16 :: a17 :: a18 :: a19 :: a20 :: a21 :: a22 :: a23 :: a24 :: a25 :: a26 :: a27 :: a28 :: a29 :: a30 :: a31 :: a32 :: a33 :: a34 :: a35 :: a36 :: a37 :: a38 :: a39 :: a40 :: []
theorem W51 {T : TypeId → Option VTy} {H : Zc} {op : Op} {ρ : Operand → VVal} {t : TypeId} {a : Operand} {y : VTy} {p v : VVal} (ho : op = .load t a) (ha : ρ a = p) (hy : T t = some y) (hd : Zk y.desc = false) (h : LdOk H p v := by first | exact .inl ⟨_, _, rfl, by first | rfl | exact fgetN (α := Int) 0 (by omega)⟩ | exact .inr ⟨_, _, _, _, rfl, XH23, by first | rfl | exact fgetN (α := Int) 0 (by omega)⟩) : vop T ρ H op = some (v, H) := v_ld ho ha hy hd h
theorem kInts_spec {x : SW} (H : Zc) (l r : List (Int)) (h1 : l.length ≤ 1000000) : F (psys x) 23 [fzI l, fzI r] H fun v G => v = .bool (decide (l = r)) ∧ G = H := by
 refine Zu Tryd.func23 rfl u26 rfl ?_
 refine Ze (Za ?_)
 refine Lo u26 (Zg (VVal.bool false) (.inr rfl) rfl) ?_
 refine Zf (Zd (Ze (Ze (Za ?_))))
 refine Lo u26 (Zb (.inl rfl) rfl) ?_
 refine Lo u26 (rfl) ?_
 refine Lo u26 (Zb (.inl rfl) rfl) ?_
 refine Lo u26 (rfl) ?_
 refine Lo u26 (rfl) ?_
 refine Zf (Zd ?_)
 refine Zo _ rfl (fun hc1 => ?_) (fun hc1 => ?_)
 ·try simp only [qB, qN] at hc1
  refine Ze (Za ?_)
  refine Lo u26 (Zg (VVal.bool false) (.inr rfl) rfl) ?_
  refine Zf (Zd (Zl (Zr ?_)))
  refine W10 (.inr rfl) (Zh rfl rfl) ?_
  exact ⟨by rw [decide_eq_false (fun e => by rw [e] at hc1; omega)], rfl⟩
 ·try simp only [qB, qN] at hc1
  refine Zn (Zd (Ze (Ze (Za ?_))))
  refine Lo u26 (Zg (VVal.int .i64 0) (.inr rfl) rfl) ?_
  refine Zf (Zd (Zm ?_))
  refine ZE (mk 26 67108828) (env' := u26) rfl ?_
  refine ZN (fun (k : Nat) => l.length - k) (fun (k : Nat) => [(5, iI (k : Nat))]) (fun (k : Nat) G => (k ≤ l.length ∧ ∀ j, j < k → l.getD j 0 = r.getD j 0) ∧ G = H ++ []) 0 rfl ?_ ?_
  ·refine ⟨?_, rfl⟩
   exact ⟨Nat.zero_le _, fun j h => by omega⟩
  rintro k _ ⟨⟨hk, hall⟩, rfl⟩
  refine ZW (env' := u26) rfl ?_
  refine Ze (Ze (Za ?_))
  refine Lo u26 (Zb (.inl rfl) rfl) ?_
  refine Lo u26 (Zb (.inl rfl) rfl) ?_
  refine Lo u26 (rfl) ?_
  refine Lo u26 (rfl) ?_
  refine Zf (Zd ?_)
  refine Zo _ rfl (fun hc2 => ?_) (fun hc2 => ?_)
  ·try simp only [qB, qN] at hc2
   refine Zn (Zd (Ze (Zm (Ze ?_))))
   refine ZO [0, 1, 2, 3, 4, 5, 6, 7, 8] #[0, 0, 3, 7, 0, 0, 48, 112, 255] XH2 XH2 XH2 ?_
   refine Oo u26 .calm rfl (Zb (.inl rfl) rfl) ?_
   refine Oo u26 .calm rfl (Zb (.inl rfl) rfl) ?_
   refine Oo u26 .calm rfl (W18 rfl rfl rfl rfl rfl rfl rfl) ?_
   refine Oo u26 .look rfl (W51 rfl rfl rfl rfl) ?_
   refine Oo u26 .calm rfl (Zb (.inl rfl) rfl) ?_
   refine Oo u26 .calm rfl (Zb (.inl rfl) rfl) ?_
   refine Oo u26 .calm rfl (W18 rfl rfl rfl rfl rfl rfl rfl) ?_
   refine Oo u26 .look rfl (W51 rfl rfl rfl rfl) ?_
   refine Oo u26 .calm rfl (rfl) ?_
   refine ZP [] XH2 (trivial) ?_
   refine Zd ?_
   refine Zo _ rfl (fun hc3 => ?_) (fun hc3 => ?_)
   ·try simp only [qB, qN] at hc3
    refine Ze (Za ?_)
    refine Lo u26 (Zg (VVal.bool false) (.inr rfl) rfl) ?_
    refine Zf (Zd (Zl (ZQ (Zr (YE (ZQ (Zr ?_)))))))
    refine W10 (.inr rfl) (Zh rfl rfl) ?_
    exact ⟨by rw [decide_eq_false (fun e => by subst e; exact hc3 rfl)], rfl⟩
   ·try simp only [qB, qN] at hc3
    refine Zn (ZA (Zd (Za ?_)))
    refine Lo u26 (Zb (.inl rfl) rfl) ?_
    refine Lo u26 (W14 rfl rfl rfl) ?_
    refine Lo u26 (Zb (.inr rfl) rfl) ?_
    refine Zf ?_
    refine Zw (mk 26 67108828) (env' := u26) rfl ⟨k + 1, ?_, rfl, ?_⟩
    ·first | omega | (simp only []; omega)
    ·exact ⟨⟨by omega, fun j hj => by by_cases e : j = k; (subst e; assumption); exact hall j (by omega)⟩, rfl⟩
  ·try simp only [qB, qN] at hc2
   refine ZL (ZJ (Zx (ZK (Zd (Ze (Za ?_))))))
   refine Lo u26 (Zg (VVal.bool true) (.inr rfl) rfl) ?_
   refine Zf (Zd (Zl ?_))
   refine W10 (.inr rfl) (Zh rfl rfl) ?_
   have e := eq_getD (d := 0) (by omega) (fun j hj => hall j (by omega))
   exact ⟨by rw [decide_eq_true e], rfl⟩
def pw : Pb := (3, [3#64, 3#64, 4#64], [-1, -1, -1], [(1, 0, [0, 1], ())], ())
theorem wk_le : leA pw = some [0, 1, 2] := by decide +kernel
theorem pw_L : PbL pw := ⟨by decide, by decide, by decide, by decide, fun r hr => by
  have hr : r ∈ [((1 : Int), (0 : Int), [(0 : Int), 1], ())] := hr
  rw [List.mem_singleton] at hr; subst hr; decide⟩
theorem wk_h : hds pw [0, 1, 2] = true := by decide +kernel
theorem wk_c : pck pw = 0 := by decide +kernel
theorem wk_t : leT (leA pw) = .tuple [fzI [0, 1, 2], .bool true] := by rw [wk_le]; rfl
theorem at_get {H L : Zc} {k : VBlk} : (H ++ k :: L)[H.length]? = some k := by rw [List.getElem?_append_right (Nat.le_refl _), Nat.sub_self]; rfl
theorem at_set {H L : Zc} {k k' : VBlk} : (H ++ k :: L).set H.length k' = H ++ k' :: L := by rw [List.set_append_right _ _ (Nat.le_refl _), Nat.sub_self]; rfl
theorem sLeast_at {x : SW} (H L : Zc) (g : Gz) (p : Pb) (hp : PbL p) : F (psys x) 21 [.ptr (some (H.length, 0)), .agg (pbB p)] (H ++ gaB g :: L) fun v G => v = leT (leA p) ∧ G = H ++ gaB (g + leG p) :: L := by
  have := sLeast_spec (x := x) (H ++ gaB g :: L) H.length g at_get p hp
  rw [at_set] at this; exact this
theorem Can_at {x : SW} (H L : Zc) (g : Gz) (p : Pb) (hp : PbL p) : F (psys x) 20 [.ptr (some (H.length, 0)), .agg (pbB p)] (H ++ gaB g :: L) fun v G => v = .bool (leA p).isSome ∧ G = H ++ gaB (g + leG p) :: L := by
  have := Can_spec (x := x) (H ++ gaB g :: L) H.length g at_get p hp
  rw [at_set] at this; exact this
theorem wakes_spec {x : SW} (H : Zc) : F (psys x) 17 [] H fun v G => v = .bool true ∧ G = H := by
 refine Zu Tryd.func17 rfl u41 rfl ?_
 refine Ze (Za ?_)
 refine Lo u41 (Zg (VVal.bool false) (.inr rfl) rfl) ?_
 refine Zf (Zd (Ze (Za ?_)))
 refine ZC rfl rfl rfl (by exact sNew_spec _) ?_
 rintro _ _ ⟨rfl, rfl⟩; rw [List.append_nil]
 refine Le u41 ?_
 refine Lo u41 (Zb (.inr rfl) rfl) ?_
 refine Zf (Zd (Ze (Ze (Za ?_))))
 refine Lo u41 (Zb (.inl rfl) rfl) ?_
 refine Lo u41 (v_is false rfl rfl) ?_
 refine Zf (Zd ?_)
 refine Z7 rfl rfl ?_
 refine Zn (Zd (Ze (Za ?_)))
 refine Lo u41 (Zt rfl rfl (by decide) rfl) ?_
 refine Lo u41 (Zt rfl rfl (by decide) rfl) ?_
 refine Lo u41 (Zt rfl rfl (by decide) rfl) ?_
 refine Lo u41 (rfl) ?_
 refine Lo u41 (Zt rfl rfl (by decide) rfl) ?_
 refine Lo u41 (rfl) ?_
 refine Lo u41 (ZF rfl rfl) ?_
 refine Lo u41 (W13 rfl rfl rfl rfl rfl rfl rfl) ?_
 refine Zf (Zd (Ze (Za ?_)))
 refine L_gh (Gh.cellL (l := [iI 0, iI 1]) 4 2 3 rfl rfl (by decide) rfl rfl (Nat.le_refl _)) ?_
 refine L_gh (Gh.cellL (l := [iW 3#64, iW 3#64, iW 4#64]) 5 1 1 rfl rfl (by decide) rfl rfl (Nat.le_refl _)) ?_
 refine L_gh (Gh.cellL (l := [iI (-1), iI (-1), iI (-1)]) 5 2 2 rfl rfl (by decide) rfl rfl (Nat.le_refl _)) ?_
 refine L_gh (Gh.cellL (l := rlB (1, 0, [0, 1], ())) 5 3 4 rfl rfl (by decide) rfl rfl (Nat.le_refl _)) ?_
 refine Lo u41 (Zb (.inl rfl) rfl) ?_
 refine Lo u41 (W11 rfl rfl rfl rfl rfl) ?_
 refine ZC rfl rfl rfl (by exact sLeast_at H _ 0 pw pw_L) ?_
 rintro v _ ⟨hv, rfl⟩; rw [wk_t] at hv; subst hv
 refine Le u41 ?_
 refine Lo u41 (Zb (.inl rfl) rfl) ?_
 refine Lo u41 (rfl) ?_
 refine Lo u41 (rfl) ?_
 refine Lo u41 (Zb (.inr rfl) rfl) ?_
 refine Lo u41 (Zb (.inr rfl) rfl) ?_
 refine Zf (Zd (Ze (Za ?_)))
 refine Lo u41 (Zb (.inl rfl) rfl) ?_
 refine Lo u41 (Zb (.inl rfl) rfl) ?_
 refine Lo u41 (Zb (.inl rfl) rfl) ?_
 refine Lo u41 (Zt rfl rfl (by decide) rfl) ?_
 refine L_gh (Gh.freezeL (l := [iI 0, iI 1, iI 2]) 23 6 rfl rfl rfl (Nat.le_refl _) rfl) ?_
 refine ZC rfl rfl rfl (by exact kInts_spec _ [0, 1, 2] [0, 1, 2] (by decide)) ?_
 rintro v _ ⟨hv, rfl⟩; obtain rfl : v = .bool true := hv.trans (congrArg VVal.bool (by decide))
 refine Le u41 ?_
 refine Lo u41 (ZI rfl rfl rfl) ?_
 refine Lo u41 (Zb (.inl rfl) rfl) ?_
 refine Lo u41 (Zb (.inl rfl) rfl) ?_
 refine Lo u41 (W11 rfl rfl rfl rfl rfl) ?_
 refine ZC rfl rfl rfl (by exact Can_at H _ (0 + leG pw) pw pw_L) ?_
 rintro v _ ⟨hv, rfl⟩; obtain rfl : v = .bool true := hv.trans (congrArg VVal.bool (by rw [wk_le]; rfl))
 refine Le u41 ?_
 refine Lo u41 (ZI rfl rfl rfl) ?_
 refine Lo u41 (Zb (.inl rfl) rfl) ?_
 refine Lo u41 (W11 rfl rfl rfl rfl rfl) ?_
 refine Lo u41 (Zb (.inl rfl) rfl) ?_
 refine ZC rfl rfl rfl (by exact Holds_spec _ pw [0, 1, 2] pw_L (by decide)) ?_
 rintro v _ ⟨hv, rfl⟩; obtain rfl : v = .bool true := hv.trans (congrArg VVal.bool wk_h)
 refine Le u41 ?_
 refine Lo u41 (ZI rfl rfl rfl) ?_
 refine Lo u41 (Zb (.inl rfl) rfl) ?_
 refine Lo u41 (W11 rfl rfl rfl rfl rfl) ?_
 refine ZC rfl rfl rfl (by exact Yz _ pw pw_L) ?_
 rintro v _ ⟨hv, rfl⟩; rw [wk_c] at hv; subst hv
 refine Le u41 ?_
 refine Lo u41 (rfl) ?_
 refine Lo u41 (ZI rfl rfl rfl) ?_
 refine Lo u41 (Zb (.inr rfl) rfl) ?_
 refine Zf (Zd (Zl ?_))
 refine W10 (.inr rfl) (Zh rfl rfl) ?_
 exact ⟨rfl, rfl⟩
theorem Cut_few {x : SW} (H : Zc) (p : Pb) (m : Nat) : F (psys x) 19 [.agg (pbB (ZU p m))] H fun v G => v = .agg (pbB (ZU p m)) ∧ G = H := by
  have := Cut_spec (x := x) H (ZU p m)
  rw [fewP_cut] at this; exact this
def CwR (H : Zc) (p : Pb) (v : VVal) (G : Zc) : Prop := ∃ Y j k, v = .agg [iI p.users, .slice (some (H.length + j, 0)) p.who.length p.who.length false 1, .slice (some (H.length + k, 0)) p.fixed.length p.fixed.length false 1, fzR p.rules] ∧ G = H ++ Y ∧ Y[j]? = some (.cells (p.who.map iW) true) ∧ Y[k]? = some (.cells (p.fixed.map iI) true) ∧ j ≠ k
theorem Cut_L {x : SW} (H : Zc) (p : Pb) (hnw : p.who ≠ []) (hnf : p.fixed ≠ []) : F (psys x) 19 [.agg (pbB p)] H (CwR H (cutP p)) := by
 have hw0 : 0 < (p.who.take 20).length := by have := List.length_pos_iff.2 hnw; rw [List.length_take]; omega
 have hf0 : 0 < (p.fixed.take 20).length := by have := List.length_pos_iff.2 hnf; rw [List.length_take]; omega
 refine Zu Tryd.func19 rfl Zj rfl ?_
 refine Ze (Za ?_)
 refine Lo Zj (Zy rfl rfl rfl) ?_
 refine Lo Zj (ZF rfl rfl) ?_
 refine Zf (Zd (Ze (Za ?_)))
 refine L_gh (Gh.freezePtrL (cs := pbB p) 1 0 rfl rfl rfl) ?_
 refine Lo Zj (rfl) ?_
 refine Lo Zj (W1t rfl rfl rfl rfl) ?_
 refine Lo Zj (rfl) ?_
 refine Lo Zj (ZF rfl rfl) ?_
 refine Lo Zj (W13 rfl rfl rfl rfl rfl rfl rfl) ?_
 refine Zf (Zd ?_)
 refine B_seqJ (mk 102 5070602400912917605986812821489) (fun (u0 : Unit) => []) (fun (u0 : Unit) G => (True) ∧ ∃ lv X, G = (H ++ [VBlk.dead, pqB 0 Z4 Z4 Z4, pqB p.users lv Z4 Z4]) ++ X ∧ LV (H.length + 3) 1 X lv ((p.who.take 20).map iW) (p.who.take 20).length) ?_ ?_
 ·skip
  refine Ze (Za ?_)
  refine Lo Zj (Zg (VVal.int .i64 0) (.inr rfl) rfl) ?_
  refine Zf (Zd (Zm ?_))
  refine ZE (mk 102 5070602400912917605986812821473) (env' := Zj) rfl ?_
  refine ZN (fun (k : Nat) => p.who.length - k) (fun (k : Nat) => [(4, iI (k : Nat))]) (fun (k : Nat) G => (k ≤ p.who.length ∧ k ≤ 20) ∧ ∃ lv X, G = (H ++ [VBlk.dead, pqB 0 Z4 Z4 Z4, pqB p.users lv Z4 Z4]) ++ X ∧ LV (H.length + 3) 1 X lv (((p.who).take k).map iW) ((p.who).take k).length) 0 rfl ?_ ?_
  ·refine ⟨?_, ⟨_, [], (List.append_nil _).symm, LV.nil _ _ _⟩⟩
   exact ⟨Nat.zero_le _, Nat.zero_le _⟩
  rintro k _ ⟨⟨hk1, hk2⟩, ⟨lv, X, rfl, hl⟩⟩
  refine ZW (env' := Zj) rfl ?_
  refine Ze (Ze (Za ?_))
  refine Lo Zj (Zb (.inl rfl) rfl) ?_
  refine Lo Zj (rfl) ?_
  refine Lo Zj (W1t rfl rfl rfl rfl) ?_
  refine Lo Zj (rfl) ?_
  refine Lo Zj (rfl) ?_
  refine Lo Zj (Zb (.inl rfl) rfl) ?_
  refine ZM 18 (env1 := Zj) (env2 := Zj) rfl rfl rfl (fun hg1 => ?_) (fun hg1 => ?_)
  ·try simp only [qB, qN] at hg1
   refine Lo Zj (Zb (.inl rfl) rfl) ?_
   refine Lo Zj (rfl) ?_
   refine Lo Zj (ZI rfl rfl rfl) ?_
   refine Zf (Zd ?_)
   refine Zo _ rfl (fun hc2 => ?_) (fun hc2 => ?_)
   ·try simp only [qB, qN] at hc2
    refine Zn (Zd (Ze (Zm ?_)))
    refine ZO [0, 1, 2, 3, 4, 5, 6, 7, 8, 9, 10] #[0, 1, 0, 4, 0, 28, 60, 124, 255, 511, 1023] XH2 XH2 XH2 ?_
    refine Oo Zj .calm rfl (rfl) ?_
    refine Oo Zj .look rfl (W1t rfl rfl rfl rfl) ?_
    refine Oo Zj .calm rfl (rfl) ?_
    refine Oo Zj .look rfl (W1t rfl rfl rfl rfl) ?_
    refine Oo Zj .calm rfl (Zb (.inl rfl) rfl) ?_
    refine Oo Zj .calm rfl (W18 rfl rfl rfl rfl rfl rfl rfl) ?_
    refine Oo Zj .look rfl (W1t rfl rfl rfl rfl) ?_
    refine Oo Zj .grow rfl (Zt rfl rfl (by decide) rfl) ?_
    refine O_opX .turn rfl rfl rfl (YC rfl rfl rfl rfl rfl rfl rfl (by simp) hl rfl rfl (by decide) XH10 (by decide)) rfl rfl ?_
    rintro _ _ ⟨Y1, rfl, rfl, hY1, hY2, hY3⟩
    refine O_env (env' := Zj) rfl ?_
    refine Oo Zj .calm rfl (rfl) ?_
    refine Oo Zj .turn rfl (W13 rfl rfl rfl rfl rfl rfl rfl) ?_
    refine ZP [] XH2 (trivial) ?_
    refine ZA (Zd (Za ?_))
    refine Lo Zj (Zb (.inl rfl) rfl) ?_
    refine Lo Zj (W14 rfl rfl rfl) ?_
    refine Lo Zj (Zb (.inr rfl) rfl) ?_
    refine Zf ?_
    refine Zw (mk 102 5070602400912917605986812821473) (env' := Zj) rfl ⟨k + 1, ?_, rfl, ?_⟩
    ·first | omega | (simp only []; omega)
    ·exact ⟨⟨by omega, by omega⟩, _, _, rfl, by rw [Yc (d := 0) (by omega)]; exact LV.pushW hY3⟩
   ·try simp only [qB, qN] at hc2
    refine ZL (ZJ (Zx (ZK ?_)))
    refine Zw (mk 102 5070602400912917605986812821489) (env' := Zj) rfl ⟨(), rfl, ?_⟩
    exact ⟨trivial, _, _, rfl, by rw [← Yd (m := 20) hk2 (by omega)]; exact hl⟩
  ·try simp only [qB, qN] at hg1
   refine Lf Zj ?_
   refine Lf Zj ?_
   refine Lo Zj (Zz (VVal.bool false) rfl rfl rfl) ?_
   refine Zf (Zd ?_)
   refine Z7 rfl rfl ?_
   refine ZL (ZJ (Zx (ZK ?_)))
   refine Zw (mk 102 5070602400912917605986812821489) (env' := Zj) rfl ⟨(), rfl, ?_⟩
   exact ⟨trivial, _, _, rfl, by rw [← Yd (m := 20) hk2 (by omega)]; exact hl⟩
 ·rintro u0 _ ⟨_, ⟨wv, X0, rfl, hw⟩⟩
  refine ZW (env' := Zj) rfl ?_
  refine B_seqJ (mk 102 5070602400912917605986812821489) (fun (u0 : Unit) => []) (fun (u0 : Unit) G => (True) ∧ ∃ lv X, G = (H ++ (VBlk.dead :: pqB 0 Z4 Z4 Z4 :: pqB p.users wv lv Z4 :: X0)) ++ X ∧ LV (H.length + (X0.length + 3)) 1 X lv ((p.fixed.take 20).map iI) (p.fixed.take 20).length) ?_ ?_
  ·skip
   refine Ze ?_
   refine YB (H' := (H ++ (VBlk.dead :: pqB 0 Z4 Z4 Z4 :: pqB p.users wv Z4 Z4 :: X0)) ++ []) (by simp) ?_
   refine Za ?_
   refine Lo Zj (Zg (VVal.int .i64 0) (.inr rfl) rfl) ?_
   refine Zf (Zd (Zm ?_))
   refine ZE (mk 102 5070602400912917605986812821457) (env' := Zj) rfl ?_
   refine ZN (fun (j : Nat) => p.fixed.length - j) (fun (j : Nat) => [(5, iI (j : Nat))]) (fun (j : Nat) G => (j ≤ p.fixed.length ∧ j ≤ 20) ∧ ∃ lv X, G = (H ++ (VBlk.dead :: pqB 0 Z4 Z4 Z4 :: pqB p.users wv lv Z4 :: X0)) ++ X ∧ LV (H.length + (X0.length + 3)) 1 X lv (((p.fixed).take j).map iI) ((p.fixed).take j).length) 0 rfl ?_ ?_
   ·refine ⟨?_, ⟨_, [], rfl, LV.nil _ _ _⟩⟩
    exact ⟨Nat.zero_le _, Nat.zero_le _⟩
   rintro j _ ⟨⟨hj1, hj2⟩, ⟨lv, X, rfl, hl⟩⟩
   refine ZW (env' := Zj) rfl ?_
   refine Ze (Ze (Za ?_))
   refine Lo Zj (Zb (.inl rfl) rfl) ?_
   refine Lo Zj (rfl) ?_
   refine Lo Zj (W1t rfl rfl rfl rfl) ?_
   refine Lo Zj (rfl) ?_
   refine Lo Zj (rfl) ?_
   refine Lo Zj (Zb (.inl rfl) rfl) ?_
   refine ZM 39 (env1 := Zj) (env2 := Zj) rfl rfl rfl (fun hg3 => ?_) (fun hg3 => ?_)
   ·try simp only [qB, qN] at hg3
    refine Lo Zj (Zb (.inl rfl) rfl) ?_
    refine Lo Zj (rfl) ?_
    refine Lo Zj (ZI rfl rfl rfl) ?_
    refine Zf (Zd ?_)
    refine Zo _ rfl (fun hc4 => ?_) (fun hc4 => ?_)
    ·try simp only [qB, qN] at hc4
     refine Zn (Zd (Ze (Zm ?_)))
     refine ZO [0, 1, 2, 3, 4, 5, 6, 7, 8, 9, 10] #[0, 1, 0, 4, 0, 28, 60, 124, 255, 511, 1023] XH2 XH2 XH2 ?_
     refine Oo Zj .calm rfl (rfl) ?_
     refine Oo Zj .look rfl (W1t rfl rfl rfl rfl) ?_
     refine Oo Zj .calm rfl (rfl) ?_
     refine Oo Zj .look rfl (W1t rfl rfl rfl rfl) ?_
     refine Oo Zj .calm rfl (Zb (.inl rfl) rfl) ?_
     refine Oo Zj .calm rfl (W18 rfl rfl rfl rfl rfl rfl rfl) ?_
     refine Oo Zj .look rfl (W1t rfl rfl rfl rfl) ?_
     refine Oo Zj .grow rfl (Zt rfl rfl (by decide) rfl) ?_
     refine O_opX .turn rfl rfl rfl (YC rfl rfl rfl rfl rfl rfl rfl (by simp) hl rfl rfl (by decide) XH10 (by decide)) rfl rfl ?_
     rintro _ _ ⟨Y1, rfl, rfl, hY1, hY2, hY3⟩
     refine O_env (env' := Zj) rfl ?_
     refine Oo Zj .calm rfl (rfl) ?_
     refine Oo Zj .turn rfl (W13 rfl rfl rfl rfl rfl rfl rfl) ?_
     refine ZP [] XH2 (trivial) ?_
     refine ZA (Zd (Za ?_))
     refine Lo Zj (Zb (.inl rfl) rfl) ?_
     refine Lo Zj (W14 rfl rfl rfl) ?_
     refine Lo Zj (Zb (.inr rfl) rfl) ?_
     refine Zf ?_
     refine Zw (mk 102 5070602400912917605986812821457) (env' := Zj) rfl ⟨j + 1, ?_, rfl, ?_⟩
     ·first | omega | (simp only []; omega)
     ·exact ⟨⟨by omega, by omega⟩, _, _, rfl, by rw [Yc (d := 0) (by omega)]; exact LV.pushI hY3⟩
    ·try simp only [qB, qN] at hc4
     refine ZL (ZJ (Zx (ZK ?_)))
     refine Zw (mk 102 5070602400912917605986812821489) (env' := Zj) rfl ⟨(), rfl, ?_⟩
     exact ⟨trivial, _, _, rfl, by rw [← Yd (m := 20) hj2 (by omega)]; exact hl⟩
   ·try simp only [qB, qN] at hg3
    refine Lf Zj ?_
    refine Lf Zj ?_
    refine Lo Zj (Zz (VVal.bool false) rfl rfl rfl) ?_
    refine Zf (Zd ?_)
    refine Z7 rfl rfl ?_
    refine ZL (ZJ (Zx (ZK ?_)))
    refine Zw (mk 102 5070602400912917605986812821489) (env' := Zj) rfl ⟨(), rfl, ?_⟩
    exact ⟨trivial, _, _, rfl, by rw [← Yd (m := 20) hj2 (by omega)]; exact hl⟩
  ·rintro u0 _ ⟨_, ⟨fv, X1, rfl, hf⟩⟩
   refine ZW (env' := Zj) rfl ?_
   refine B_seqJ (mk 102 5070602400912917605986812821491) (fun (u0 : Unit) => []) (fun (u0 : Unit) G => (True) ∧ ∃ lv X, G = (H ++ (VBlk.dead :: pqB 0 Z4 Z4 Z4 :: pqB p.users wv fv lv :: (X0 ++ X1))) ++ X ∧ LV (H.length + ((X0 ++ X1).length + 3)) 3 X lv (((p.rules.take 40).map cutR).flatMap rlB) ((p.rules.take 40).map cutR).length) ?_ ?_
   ·skip
    refine Ze ?_
    refine YB (H' := (H ++ (VBlk.dead :: pqB 0 Z4 Z4 Z4 :: pqB p.users wv fv Z4 :: (X0 ++ X1))) ++ []) (by simp) ?_
    refine Za ?_
    refine Lo Zj (Zg (VVal.int .i64 0) (.inr rfl) rfl) ?_
    refine Zf (Zd (Zm ?_))
    refine ZE (mk 102 5070602400912917605986812821425) (env' := Zj) rfl ?_
    refine ZN (fun (m : Nat) => p.rules.length - m) (fun (m : Nat) => [(6, iI (m : Nat))]) (fun (m : Nat) G => (m ≤ p.rules.length ∧ m ≤ 40) ∧ ∃ lv X, G = (H ++ (VBlk.dead :: pqB 0 Z4 Z4 Z4 :: pqB p.users wv fv lv :: (X0 ++ X1))) ++ X ∧ LV (H.length + ((X0 ++ X1).length + 3)) 3 X lv (((p.rules.take m).map cutR).flatMap rlB) ((p.rules.take m).map cutR).length) 0 rfl ?_ ?_
    ·refine ⟨?_, ⟨_, [], rfl, LV.nil _ _ _⟩⟩
     exact ⟨Nat.zero_le _, Nat.zero_le _⟩
    rintro m _ ⟨⟨hm1, hm2⟩, ⟨lv, X, rfl, hl⟩⟩
    refine ZW (env' := Zj) rfl ?_
    refine Ze (Ze (Za ?_))
    refine Lo Zj (Zb (.inl rfl) rfl) ?_
    refine Lo Zj (rfl) ?_
    refine Lo Zj (W1t rfl rfl rfl rfl) ?_
    refine Lo Zj (rfl) ?_
    refine Lo Zj (rfl) ?_
    refine Lo Zj (Zb (.inl rfl) rfl) ?_
    refine ZM 60 (env1 := Zj) (env2 := Zj) rfl rfl rfl (fun hg5 => ?_) (fun hg5 => ?_)
    ·try simp only [qB, qN] at hg5
     refine Lo Zj (Zb (.inl rfl) rfl) ?_
     refine Lo Zj (rfl) ?_
     refine Lo Zj (ZI rfl rfl rfl) ?_
     refine Zf (Zd ?_)
     refine Zo _ rfl (fun hc6 => ?_) (fun hc6 => ?_)
     ·try simp only [qB, qN] at hc6
      refine Zn (Zd (Ze (Zm (Ze (Za ?_)))))
      refine Lo Zj (rfl) ?_
      refine Lo Zj (W1t rfl rfl rfl rfl) ?_
      refine Lo Zj (Zb (.inl rfl) rfl) ?_
      refine Lo Zj (W18 rfl rfl rfl rfl rfl rfl rfl) ?_
      refine Lo Zj (W1x rfl rfl rfl rfl rfl) ?_
      refine Lo Zj (ZF rfl rfl) ?_
      refine Lo Zj (W13 rfl rfl rfl rfl rfl rfl rfl) ?_
      refine Zf (Zd (Ze ?_))
      refine Yy (Gh.freezeEnd (cs := rlB (p.rules.getD m r0)) 7 rfl rfl) ?_
      refine Za ?_
      refine Lo Zj (Zg (VVal.slice none 0 0 true 0) (.inr rfl) rfl) ?_
      refine Zf (Zd (Ze (Ze (Za ?_))))
      refine Lo Zj (Zg (VVal.int .i64 0) (.inr rfl) rfl) ?_
      refine Zf (Zd (Zm ?_))
      refine ZE (mk 102 5070602400912917605986812820529) (env' := Zj) rfl ?_
      refine ZN (fun (⟨k, sv⟩ : Nat × VVal) => (p.rules.getD m r0).steps.length - k) (fun (⟨k, sv⟩ : Nat × VVal) => [(8, sv), (9, iI (k : Nat))]) (fun (⟨k, sv⟩ : Nat × VVal) G => (k ≤ (p.rules.getD m r0).steps.length ∧ k ≤ 20) ∧ ∃ X, G = (H ++ (VBlk.dead :: pqB 0 Z4 Z4 Z4 :: pqB p.users wv fv lv :: (X0 ++ X1))) ++ X ∧ LV (H.length + ((X0 ++ X1).length + 3)) 3 X lv (((p.rules.take m).map cutR).flatMap rlB) ((p.rules.take m).map cutR).length ∧ LV (H.length + ((X0 ++ X1).length + 3)) 1 X sv (((p.rules.getD m r0).steps.take k).map iI) ((p.rules.getD m r0).steps.take k).length ∧ ∀ n, Yp lv = some n → Yp sv ≠ some n) ⟨0, _⟩ rfl ?_ ?_
      ·refine ⟨?_, ⟨X ++ [.dead], rfl, LV.app hl _, LV.nil _ _ _, fun n _ e => by cases e⟩⟩
       exact ⟨Nat.zero_le _, Nat.zero_le _⟩
      rintro ⟨k, sv⟩ _ ⟨⟨hk1, hk2⟩, ⟨X3, rfl, hl3, hs, hd⟩⟩
      refine ZW (env' := Zj) rfl ?_
      refine Ze (Ze (Za ?_))
      refine Lo Zj (Zb (.inl rfl) rfl) ?_
      refine Lo Zj (rfl) ?_
      refine Lo Zj (W1t rfl rfl rfl rfl) ?_
      refine Lo Zj (rfl) ?_
      refine Lo Zj (rfl) ?_
      refine Lo Zj (Zb (.inl rfl) rfl) ?_
      refine ZM 76 (env1 := Zj) (env2 := Zj) rfl rfl rfl (fun hg7 => ?_) (fun hg7 => ?_)
      ·try simp only [qB, qN] at hg7
       refine Lo Zj (Zb (.inl rfl) rfl) ?_
       refine Lo Zj (rfl) ?_
       refine Lo Zj (ZI rfl rfl rfl) ?_
       refine Zf (Zd ?_)
       refine Zo _ rfl (fun hc8 => ?_) (fun hc8 => ?_)
       ·try simp only [qB, qN] at hc8
        refine Zn (Zd (Ze (Zm (Za ?_))))
        refine Lo Zj (Zb (.inl rfl) rfl) ?_
        refine Lo Zj (rfl) ?_
        refine Lo Zj (W1t rfl rfl rfl rfl) ?_
        refine Lo Zj (Zb (.inl rfl) rfl) ?_
        refine Lo Zj (W18 rfl rfl rfl rfl rfl rfl rfl) ?_
        refine Lo Zj (W1t rfl rfl rfl rfl) ?_
        refine Lo Zj (Zt rfl rfl (by decide) rfl) ?_
        refine L_opX rfl rfl (YC rfl rfl rfl rfl rfl rfl rfl (by simp) hs rfl rfl (by decide) XH10 (by decide)) ?_
        rintro _ _ ⟨Y1, rfl, rfl, hY1, hY2, hY3⟩
        refine Le Zj ?_
        refine Lo Zj (Zb (.inr rfl) rfl) ?_
        refine Zf (ZA (Zd (Za ?_)))
        refine Lo Zj (Zb (.inl rfl) rfl) ?_
        refine Lo Zj (W14 rfl rfl rfl) ?_
        refine Lo Zj (Zb (.inr rfl) rfl) ?_
        refine Zf ?_
        refine Zw (mk 102 5070602400912917605986812820529) (env' := Zj) rfl ⟨⟨k + 1, _⟩, ?_, rfl, ?_⟩
        ·first | omega | (simp only []; omega)
        ·exact ⟨⟨by omega, by omega⟩, _, rfl, LV.app (LV.keep hl3 hd hY2) _, by rw [Yc (d := 0) (by omega)]; exact LV.pushI hY3, LV.far hl3 (Nat.le_succ _)⟩
       ·try simp only [qB, qN] at hc8
        refine ZL (ZJ (Zx (ZK (Zd ?_))))
        rw [Yd (m := 20) hk2 (by omega)] at hs
        refine B_ghLVh (env' := Zj) 8 hs (by simp) rfl rfl fun X4 hX4 hF4 => ?_
        have hl4 := LV.keep hl3 hd hF4
        refine Za ?_
        refine Lo Zj (rfl) ?_
        refine Lo Zj (W1t rfl rfl rfl rfl) ?_
        refine Lo Zj (rfl) ?_
        refine Lo Zj (W1t rfl rfl rfl rfl) ?_
        refine Lo Zj (rfl) ?_
        refine Lo Zj (W1t rfl rfl rfl rfl) ?_
        refine Lo Zj (Zb (.inl rfl) rfl) ?_
        refine Lo Zj (rfl) ?_
        refine Lo Zj (Zt rfl rfl (by decide) rfl) ?_
        refine L_opX rfl rfl (YC rfl rfl rfl rfl rfl rfl rfl (by simp) hl4 rfl rfl (by decide) XH14 (by decide)) ?_
        rintro _ _ ⟨Y1, rfl, rfl, hY1, hY2, hY3⟩
        refine Le Zj ?_
        refine Lo Zj (rfl) ?_
        refine Lo Zj (W13 rfl rfl rfl rfl rfl rfl rfl) ?_
        refine Zf (ZA (Zd (Za ?_)))
        refine Lo Zj (Zb (.inl rfl) rfl) ?_
        refine Lo Zj (W14 rfl rfl rfl) ?_
        refine Lo Zj (Zb (.inr rfl) rfl) ?_
        refine Zf ?_
        refine Zw (mk 102 5070602400912917605986812821425) (env' := Zj) rfl ⟨m + 1, ?_, rfl, ?_⟩
        ·first | omega | (simp only []; omega)
        ·exact ⟨⟨by omega, by omega⟩, _, _, rfl, by rw [cutR_step (by omega)]; exact LV.pushF hY3⟩
      ·try simp only [qB, qN] at hg7
       refine Lf Zj ?_
       refine Lf Zj ?_
       refine Lo Zj (Zz (VVal.bool false) rfl rfl rfl) ?_
       refine Zf (Zd ?_)
       refine Z7 rfl rfl ?_
       refine ZL (ZJ (Zx (ZK (Zd ?_))))
       rw [Yd (m := 20) hk2 (by omega)] at hs
       refine B_ghLVh (env' := Zj) 8 hs (by simp) rfl rfl fun X4 hX4 hF4 => ?_
       have hl4 := LV.keep hl3 hd hF4
       refine Za ?_
       refine Lo Zj (rfl) ?_
       refine Lo Zj (W1t rfl rfl rfl rfl) ?_
       refine Lo Zj (rfl) ?_
       refine Lo Zj (W1t rfl rfl rfl rfl) ?_
       refine Lo Zj (rfl) ?_
       refine Lo Zj (W1t rfl rfl rfl rfl) ?_
       refine Lo Zj (Zb (.inl rfl) rfl) ?_
       refine Lo Zj (rfl) ?_
       refine Lo Zj (Zt rfl rfl (by decide) rfl) ?_
       refine L_opX rfl rfl (YC rfl rfl rfl rfl rfl rfl rfl (by simp) hl4 rfl rfl (by decide) XH14 (by decide)) ?_
       rintro _ _ ⟨Y1, rfl, rfl, hY1, hY2, hY3⟩
       refine Le Zj ?_
       refine Lo Zj (rfl) ?_
       refine Lo Zj (W13 rfl rfl rfl rfl rfl rfl rfl) ?_
       refine Zf (ZA (Zd (Za ?_)))
       refine Lo Zj (Zb (.inl rfl) rfl) ?_
       refine Lo Zj (W14 rfl rfl rfl) ?_
       refine Lo Zj (Zb (.inr rfl) rfl) ?_
       refine Zf ?_
       refine Zw (mk 102 5070602400912917605986812821425) (env' := Zj) rfl ⟨m + 1, ?_, rfl, ?_⟩
       ·first | omega | (simp only []; omega)
       ·exact ⟨⟨by omega, by omega⟩, _, _, rfl, by rw [cutR_step (by omega)]; exact LV.pushF hY3⟩
     ·try simp only [qB, qN] at hc6
      refine ZL (ZJ (Zx (ZK ?_)))
      refine Zw (mk 102 5070602400912917605986812821491) (env' := Zj) rfl ⟨(), rfl, ?_⟩
      exact ⟨trivial, _, _, rfl, by rw [← Yd (m := 40) hm2 (by omega)]; exact hl⟩
    ·try simp only [qB, qN] at hg5
     refine Lf Zj ?_
     refine Lf Zj ?_
     refine Lo Zj (Zz (VVal.bool false) rfl rfl rfl) ?_
     refine Zf (Zd ?_)
     refine Z7 rfl rfl ?_
     refine ZL (ZJ (Zx (ZK ?_)))
     refine Zw (mk 102 5070602400912917605986812821491) (env' := Zj) rfl ⟨(), rfl, ?_⟩
     exact ⟨trivial, _, _, rfl, by rw [← Yd (m := 40) hm2 (by omega)]; exact hl⟩
   ·rintro u0 _ ⟨_, ⟨lv, X, rfl, hl⟩⟩
    refine ZW (env' := Zj) rfl ?_
    refine Ze ?_
    obtain ⟨b, hb1, hb2⟩ := hw.pos hw0
    obtain ⟨c, hc1, hc2⟩ := hf.pos hf0
    subst hb1 hc1
    refine B_ghCell 2 3 hl rfl rfl (by simp) fun X5 _ _ => ?_
    refine YB (List.append_assoc _ _ _) ?_
    refine Za ?_
    refine Lo Zj (W1x rfl rfl rfl rfl rfl) ?_
    refine Lo Zj (W13 rfl rfl rfl rfl rfl rfl rfl) ?_
    refine Zf (Zd (Zl ?_))
    refine E_keep (.inr rfl) (YH rfl rfl rfl rfl XH0 XH21) ?_
    have hb3 := ZD hb2
    have hc3 := ZD hc2
    refine ⟨_, 3 + b, 3 + (X0.length + c), ?_, rfl, ?_, ?_, by omega⟩
    ·show VVal.agg [_, .slice (some (H.length + 3 + b, 0)) _ _ false 1, .slice (some (H.length + (X0.length + 3) + c, 0)) _ _ false 1, _] = _; rw [show H.length + 3 + b = H.length + (3 + b) by omega, show H.length + (X0.length + 3) + c = H.length + (3 + (X0.length + c)) by omega]; rfl
    ·rw [show 3 + b = b + 3 by omega]; exact Zp (Zp hb2)
    ·rw [show 3 + (X0.length + c) = (X0.length + c) + 3 by omega]; exact Zp (show (X0 ++ X1)[X0.length + c]? = _ by rw [List.getElem?_append_right (by omega), Nat.add_sub_cancel_left]; exact hc2)
theorem myB_inN {p : Pb} {i n : Nat} (g : Go.V.Good p) (hi : i < p.who.length) (h : (wrd p i).getLsbD n = true) : n < p.users.toNat := by
  have g4 := g.u0; have g2 := g.u64
  have hm : myB p i (n : Nat) = true := myB_nat.2 h
  by_cases hf : 0 ≤ p.fixed.getD i 0
  · rw [myB_f g hi hf, decide_eq_true_eq] at hm
    have := (okW_in g hi).1
    omega
  · rw [myB_w g hi (by omega), Bool.and_eq_true, decide_eq_true_eq] at hm
    omega
structure Pm (t : List Int) : Prop where
  rg : ∀ i, i < t.length → 0 ≤ t.getD i 0 ∧ t.getD i 0 < t.length
  ij : ∀ i j, i < t.length → j < t.length → t.getD i 0 = t.getD j 0 → i = j
theorem Pm.swap {t : List Int} {a b : Nat} (h : Pm t) (ha : a < t.length) (hb : b < t.length) : Pm ((t.set a (t.getD b 0)).set b (t.getD a 0)) := by
  have e : ∀ i, i < t.length → ((t.set a (t.getD b 0)).set b (t.getD a 0)).getD i 0 = t.getD (if i = b then a else if i = a then b else i) 0 := fun i hi => by
    rw [getD_setL, getD_setL, List.length_set]
    by_cases e1 : i = b
    · rw [if_pos ⟨e1, hb⟩, if_pos e1]
    · rw [if_neg (fun k => e1 k.1), if_neg e1]
      by_cases e2 : i = a
      · rw [if_pos ⟨e2, ha⟩, if_pos e2]
      · rw [if_neg (fun k => e2 k.1), if_neg e2]
  have hl : ((t.set a (t.getD b 0)).set b (t.getD a 0)).length = t.length := by rw [List.length_set, List.length_set]
  refine ⟨fun i hi => ?_, fun i j hi hj hij => ?_⟩
  · rw [hl] at hi ⊢
    rw [e i hi]
    refine h.rg _ ?_
    split
    · exact ha
    · split
      · exact hb
      · exact hi
  · rw [hl] at hi hj
    rw [e i hi, e j hj] at hij
    have k := h.ij _ _ (by split; exact ha; split; exact hb; exact hi) (by split; exact ha; split; exact hb; exact hj) hij
    by_cases i1 : i = b <;> by_cases j1 : j = b <;> by_cases i2 : i = a <;> by_cases j2 : j = a <;> simp only [i1, j1, i2, j2, if_true, if_false] at k ⊢ <;> first | omega | (split at k <;> omega) | (split at k <;> split at k <;> omega)
def nmW (t : List Int) (w : BitVec 64) : Nat → BitVec 64
  | 0 => 0#64
  | k + 1 => if w.getLsbD k = true then nmW t w k ||| 1#64 <<< (t.getD k 0).toNat else nmW t w k
theorem nmW_bit {t : List Int} {w : BitVec 64} {n : Nat} (hn : n < 64) : ∀ {k : Nat}, (nmW t w k).getLsbD n = true ↔ ∃ u, u < k ∧ w.getLsbD u = true ∧ (t.getD u 0).toNat = n
  | 0 => ⟨fun h => by simp [nmW] at h, fun ⟨u, h, _⟩ => absurd h (by omega)⟩
  | k + 1 => by
    have ih := @nmW_bit t w n hn k
    unfold nmW
    by_cases hb : w.getLsbD k = true
    · rw [if_pos hb, BitVec.getLsbD_or, Bool.or_eq_true, ih, one_shl, Bool.and_eq_true, decide_eq_true_eq, decide_eq_true_eq]
      constructor
      · rintro (⟨u, h1, h2, h3⟩ | ⟨h1, _⟩)
        · exact ⟨u, by omega, h2, h3⟩
        · exact ⟨k, by omega, hb, h1.symm⟩
      · rintro ⟨u, h1, h2, h3⟩
        by_cases e : u = k
        · subst e; exact .inr ⟨h3.symm, hn⟩
        · exact .inl ⟨u, by omega, h2, h3⟩
    · rw [if_neg hb, ih]
      constructor
      · rintro ⟨u, h1, h2, h3⟩; exact ⟨u, by omega, h2, h3⟩
      · rintro ⟨u, h1, h2, h3⟩
        by_cases e : u = k
        · subst e; exact absurd h2 hb
        · exact ⟨u, by omega, h2, h3⟩
def nmF (t : List Int) (f : Int) : Int := if 0 ≤ f then t.getD f.toNat 0 else f
def nmQ (t : List Int) (q : Pb) : Pb := (q.users, q.who.map (fun w => nmW t w t.length), q.fixed.map (nmF t), q.rules, ())
theorem nmQ_who {t : List Int} {q : Pb} {i : Nat} (hi : i < q.who.length) : (nmQ t q).who.getD i 0 = nmW t (q.who.getD i 0) t.length := by
  show (q.who.map _).getD i 0 = _
  rw [List.getD_eq_getElem?_getD, List.getElem?_map, List.getD_eq_getElem?_getD, List.getElem?_eq_getElem hi]; rfl
theorem nmQ_fix {t : List Int} {q : Pb} {i : Nat} (hi : i < q.fixed.length) : (nmQ t q).fixed.getD i 0 = nmF t (q.fixed.getD i 0) := by
  show (q.fixed.map _).getD i 0 = _
  rw [List.getD_eq_getElem?_getD, List.getElem?_map, List.getD_eq_getElem?_getD, List.getElem?_eq_getElem hi]; rfl
theorem nmQ_len {t : List Int} {q : Pb} : (nmQ t q).who.length = q.who.length := List.length_map _
section
variable {t : List Int} {q : Pb}
theorem nm_wrd (g : Go.V.Good q) (ht : Pm t) (hl : t.length = q.users.toNat) {i n : Nat} (hi : i < q.who.length) (hn : n < 64) : (wrd (nmQ t q) i).getLsbD n = true ↔ ∃ u, u < t.length ∧ (wrd q i).getLsbD u = true ∧ (t.getD u 0).toNat = n := by
  have g5 := g.fx; have g4 := g.u0; have g2 := g.u64
  by_cases hf : 0 ≤ q.fixed.getD i 0
  · have hok := (okW_in g hi).1
    have h1 := ht.rg (q.fixed.getD i 0).toNat (by omega)
    have e : (nmQ t q).fixed.getD i 0 = t.getD (q.fixed.getD i 0).toNat 0 := by rw [nmQ_fix (by omega)]; exact if_pos hf
    rw [wrd_f (p := nmQ t q) (by rw [e]; omega), e, wrd_f hf, one_shl, Bool.and_eq_true, decide_eq_true_eq, decide_eq_true_eq]
    constructor
    · rintro ⟨h2, _⟩
      exact ⟨(q.fixed.getD i 0).toNat, by omega, by rw [one_shl, Bool.and_eq_true, decide_eq_true_eq, decide_eq_true_eq]; exact ⟨rfl, by omega⟩, h2.symm⟩
    · rintro ⟨u, h2, h3, h4⟩
      rw [one_shl, Bool.and_eq_true, decide_eq_true_eq, decide_eq_true_eq] at h3
      rw [h3.1] at h4
      exact ⟨h4.symm, hn⟩
  · have e : (nmQ t q).fixed.getD i 0 = q.fixed.getD i 0 := by rw [nmQ_fix (by omega)]; exact if_neg hf
    rw [wrd_w (p := nmQ t q) (by rw [e]; omega), wrd_w (p := q) (by omega), nmQ_who hi, nmW_bit hn]
theorem nm_good (g : Go.V.Good q) (ht : Pm t) (hl : t.length = q.users.toNat) : Go.V.Good (nmQ t q) := by
  have g5 := g.fx; have g4 := g.u0; have g2 := g.u64
  refine ⟨by rw [nmQ_len]; exact g.n12, g2, g.r32, g4, ?_, fun i hi => ?_, fun r hr => by rw [nmQ_len]; exact g.ru r hr⟩
  · show (q.fixed.map _).length = (q.who.map _).length; rw [List.length_map, List.length_map]; exact g5
  · rw [nmQ_len] at hi
    have hok := okW_in g hi
    show okW q.users _ _ = true
    unfold okW
    rw [Bool.and_eq_true, decide_eq_true_eq, decide_eq_true_eq, nmQ_who hi, nmQ_fix (by omega)]
    refine ⟨?_, ?_⟩
    · unfold nmF
      split
      · have := ht.rg (q.fixed.getD i 0).toNat (by omega); omega
      · exact hok.1
    · apply BitVec.eq_of_getLsbD_eq
      intro j hj
      rw [BitVec.getLsbD_ushiftRight, BitVec.getLsbD_zero, Bool.eq_false_iff]
      intro h
      have h64 := BitVec.lt_of_getLsbD h
      rw [nmW_bit h64] at h
      obtain ⟨u, h1, _, h3⟩ := h
      have := ht.rg u h1; omega
theorem nm_erl (ht : Pm t) {r : Rul} {n : Int} {ns : List Nat} (h : ∀ x, x ∈ ns → x < t.length) : erl r n (zI (ns.map fun u => (t.getD u 0).toNat)) = erl r n (zI ns) := by
  have e : zI (ns.map fun u => (t.getD u 0).toNat) = (zI ns).map fun x => ((t.getD x.toNat 0).toNat : Int) := by
    unfold zI; rw [List.map_map, List.map_map]; rfl
  rw [e]
  refine erl_map fun x hx y hy hxy => ?_
  unfold zI at hx hy
  obtain ⟨a, ha, rfl⟩ := List.mem_map.1 hx
  obtain ⟨b, hb, rfl⟩ := List.mem_map.1 hy
  have h1 := h a ha; have h2 := h b hb
  have r1 := ht.rg a h1; have r2 := ht.rg b h2
  have hxy : (((t.getD a 0).toNat : Nat) : Int) = ((t.getD b 0).toNat : Nat) := hxy
  have := ht.ij a b h1 h2 (by omega)
  rw [this]
theorem map_getN {f : Nat → Nat} {l : List Nat} {i : Nat} (h : i < l.length) : (l.map f).getD i 0 = f (l.getD i 0) := by
  rw [List.getD_eq_getElem?_getD, List.getElem?_map, List.getD_eq_getElem?_getD, List.getElem?_eq_getElem h]; rfl
theorem nm_some (g : Go.V.Good q) (ht : Pm t) (hl : t.length = q.users.toNat) : (leA (nmQ t q)).isSome = (leA q).isSome := by
  have g2 := g.u64
  have gn := nm_good g ht hl
  cases e : leA q with
  | some l =>
    obtain ⟨_, hp⟩ := hds_plan.1 (leA_some e)
    have hlen := hp.len; rw [ZV] at hlen
    have hin : ∀ i, i < q.who.length → (wrd q i).getLsbD (l.getD i 0) = true := fun i hi => by
      have := hp.may i (by rw [ZV]; exact hi)
      rwa [wsP_get hi] at this
    have hlt : ∀ x, x ∈ l → x < t.length := fun x hx => by
      obtain ⟨i, hi, rfl⟩ := List.getElem_of_mem hx
      have := myB_inN g (i := i) (by omega) (hin i (by omega))
      rw [List.getD_eq_getElem?_getD, List.getElem?_eq_getElem hi] at this
      rw [hl]; exact this
    refine leA_can (us := zI (l.map fun u => (t.getD u 0).toNat)) (hds_plan.2 ⟨gn, ?_, fun i hi => ?_, fun r hr => ?_⟩)
    · rw [ZV, nmQ_len, List.length_map]; exact hlen
    · rw [ZV, nmQ_len] at hi
      have hlt1 := hlt _ (show l.getD i 0 ∈ l by rw [List.getD_eq_getElem?_getD, List.getElem?_eq_getElem (by omega)]; exact List.getElem_mem _)
      have hr1 := ht.rg _ hlt1
      rw [wsP_get (by rw [nmQ_len]; exact hi), map_getN (by omega), nm_wrd g ht hl hi (by omega)]
      exact ⟨_, hlt1, hin i hi, rfl⟩
    · rw [nm_erl ht hlt, ZV, nmQ_len, ← ZV]; exact hp.rul r hr
  | none =>
    cases e2 : leA (nmQ t q) with
    | none => rfl
    | some m =>
      exfalso
      obtain ⟨_, hp⟩ := hds_plan.1 (leA_some e2)
      have hlen := hp.len; rw [ZV, nmQ_len] at hlen
      have hch : ∀ i, ∃ u, i < q.who.length → u < t.length ∧ (wrd q i).getLsbD u = true ∧ (t.getD u 0).toNat = m.getD i 0 := fun i => by
        by_cases hi : i < q.who.length
        · have h1 := hp.may i (by rw [ZV, nmQ_len]; exact hi)
          rw [wsP_get (by rw [nmQ_len]; exact hi)] at h1
          obtain ⟨u, h2⟩ := (nm_wrd g ht hl hi (BitVec.lt_of_getLsbD h1)).1 h1
          exact ⟨u, fun _ => h2⟩
        · exact ⟨0, fun h => absurd h hi⟩
      obtain ⟨f, hf⟩ := Classical.axiomOfChoice hch
      have hns : ∀ i, i < q.who.length → ((List.range q.who.length).map f).getD i 0 = f i := fun i hi => by
        rw [List.getD_eq_getElem?_getD, List.getElem?_map, List.getElem?_range hi]; rfl
      have hlt : ∀ x, x ∈ (List.range q.who.length).map f → x < t.length := fun x hx => by
        obtain ⟨i, hi, rfl⟩ := List.mem_map.1 hx
        exact (hf i (List.mem_range.1 hi)).1
      have hm : m = ((List.range q.who.length).map f).map fun u => (t.getD u 0).toNat := by
        apply List.ext_getElem (by simp [hlen])
        intro i h1 h2
        have h3 := (hf i (by omega)).2.2
        rw [List.getD_eq_getElem?_getD (l := m), List.getElem?_eq_getElem h1] at h3
        simp only [List.getElem_map, List.getElem_range]; exact h3.symm
      have : hds q (zI ((List.range q.who.length).map f)) = true := hds_plan.2 ⟨g, by simp [ZV], fun i hi => by
        rw [ZV] at hi
        rw [wsP_get hi, hns i hi]; exact (hf i hi).2.1, fun r hr => by
        have h1 := hp.rul r hr
        rw [hm, nm_erl ht hlt, ZV, nmQ_len] at h1
        rw [ZV]; exact h1⟩
      rw [leA_none e] at this; cases this
end
abbrev Zi {a0 a1 a2 a3 a4 a5 a6 a7 a8 a9 a10 a11 a12 a13 a14 a15 a16 a17 a18 a19 a20 a21 a22 a23 a24 a25 a26 a27 a28 a29 a30 a31 a32 a33 a34 a35 a36 a37 a38 a39 a40 a41 a42 a43 a44 a45 a46 a47 a48 a49 a50 a51 a52 a53 a54 a55 a56 a57 a58 a59 a60 a61 a62 a63 a64 a65 a66 a67 a68 a69 a70 a71 a72 a73 a74 a75 a76 a77 a78 a79 a80 a81 a82 a83 a84 a85 a86 a87 a88 a89 a90 a91 a92 a93 a94 a95 a96 a97 a98 a99 a100 a101 a102 a103 a104 a105 a106 a107 a108 a109 a110 a111 a112 a113 a114 a115 a116 a117 a118 a119 a120 a121 a122 a123 a124 a125 a126 a127 a128 a129 a130 a131 a132 a133 a134 a135 a136 a137 a138 a139 a140 a141 a142 a143 a144 a145 a146 a147 a148 a149 a150 a151 a152 a153 a154 a155 a156 a157 a158 a159 a160 a161 a162 a163 a164 a165 a166 : VVal} : VEnv := a0 :: a1 :: a2 :: a3 :: a4 :: a5 :: a6 :: a7 :: a8 :: a9 :: a10 :: a11 :: a12 :: a13 :: a14 :: a15 :: a16 :: a17 :: a18 :: a19 :: a20 :: a21 :: a22 :: a23 :: a24 :: a25 :: a26 :: a27 :: a28 :: a29 :: a30 :: a31 :: a32 :: a33 :: a34 :: a35 :: a36 :: a37 :: a38 :: a39 :: a40 :: a41 :: a42 :: a43 :: a44 :: a45 :: a46 :: a47 :: a48 :: a49 :: a50 :: a51 :: a52 :: a53 :: a54 :: a55 :: a56 :: a57 :: a58 :: a59 :: a60 :: a61 :: a62 :: a63 :: a64 :: a65 :: a66 :: a67 :: a68 :: a69 :: a70 :: a71 :: a72 :: a73 :: a74 :: a75 :: a76 :: a77 :: a78 :: a79 :: a80 :: a81 :: a82 :: a83 :: a84 :: a85 :: a86 :: a87 :: a88 :: a89 :: a90 :: a91 :: a92 :: a93 :: a94 :: a95 :: a96 :: a97 :: a98 :: a99 :: a100 :: a101 :: a102 :: a103 :: a104 :: a105 :: a106 :: a107 :: a108 :: a109 :: a110 :: a111 :: a112 :: a113 :: a114 :: a115 :: a116 :: a117 :: a118 :: a119 :: a120 :: a121 :: a122 :: a123 :: a124 :: a125 :: a126 :: a127 :: a128 :: a129 :: a130 :: a131 :: a132 :: a133 :: a134 :: a135 :: a136 :: a137 :: a138 :: a139 :: a140 :: a141 :: a142 :: a143 :: a144 :: a145 :: a146 :: a147 :: a148 :: a149 :: a150 :: a151 :: a152 :: a153 :: a154 :: a155 :: a156 :: a157 :: a158 :: a159 :: a160 :: a161 :: a162 :: a163 :: a164 :: a165 :: a166 :: []
theorem W5f {T : TypeId → Option VTy} {H : Zc} {op : Op} {ρ : VEnv} {H' : Zc} {t : TypeId} {a : Operand} {i : Nat} {v : VVal} {y : VTy} {b off : Nat} {cs new : List VVal} (ho : op = .store t a (.tmp i)) (hv : ρ[i]? = some v) (ha : ρ.eval a = .ptr (some (b, off))) (hy : T t = some y) (hx : v.cells = some new) (hn : new.length = y.size) (h1 : new.all VVal.one = true) (hb : H[b]? = some (.cells cs true) := by exact XH23) (hl : off + new.length ≤ cs.length := by show 0 + ((i : Nat) : Int).toNat * 1 + 1 ≤ _; rw [List.length_map, YK]; omega) (hH : H.set b (.cells (Zs cs off new) true) = H' := by exact (ZR rfl).trans (congrArg (fun c => H ++ [VBlk.dead, VBlk.dead, gaB 0, VBlk.cells c true]) (show Zs ((idT (ZU p 9).users.toNat i).map iI) (0 + i * 1) [iI (i : Nat)] = _ from (spl_I' (by rw [YK]; omega)).trans (congrArg (List.map iI) (idT_set (by omega)))))) : vop T ρ.eval H op = some (.skip, H') := ZX ho hv ha hy hx hn h1 hb hl hH
theorem W5i {T : TypeId → Option VTy} {H : Zc} {op : Op} {ρ : Operand → VVal} {t : TypeId} {a : Operand} {y : VTy} {p v : VVal} (ho : op = .load t a) (ha : ρ a = p) (hy : T t = some y) (hd : Zk y.desc = false) (h : LdOk H p v := by first | exact .inl ⟨_, _, rfl, by exact fgetF2 (by omega)⟩ | exact .inr ⟨_, _, _, _, rfl, XH23, by exact fgetF2 (by omega)⟩) : vop T ρ H op = some (v, H) := v_ld ho ha hy hd h
theorem W5j {T : TypeId → Option VTy} {H : Zc} {op : Op} {ρ : Operand → VVal} {t : TypeId} {a : Operand} {y : VTy} {p v : VVal} (ho : op = .load t a) (ha : ρ a = p) (hy : T t = some y) (hd : Zk y.desc = false) (h : LdOk H p v := by first | exact .inl ⟨_, _, rfl, by exact fget0N (by omega)⟩ | exact .inr ⟨_, _, _, _, rfl, XH23, by exact fget0N (by omega)⟩) : vop T ρ H op = some (v, H) := v_ld ho ha hy hd h
theorem W5k {T : TypeId → Option VTy} {H : Zc} {op : Op} {ρ : VEnv} {H' : Zc} {t : TypeId} {a : Operand} {i : Nat} {v : VVal} {y : VTy} {b off : Nat} {cs new : List VVal} (ho : op = .store t a (.tmp i)) (hv : ρ[i]? = some v) (ha : ρ.eval a = .ptr (some (b, off))) (hy : T t = some y) (hx : v.cells = some new) (hn : new.length = y.size) (h1 : new.all VVal.one = true) (hb : H[b]? = some (.cells cs true) := by exact XH23) (hl : off + new.length ≤ cs.length := by show 0 + ((a : Nat) : Int).toNat * 1 + 1 ≤ _; rw [List.length_map]; omega) (hH : H.set b (.cells (Zs cs off new) true) = H' := by exact (ZR rfl).trans (congrArg (fun c => H ++ [VBlk.dead, VBlk.dead, gaB 0, VBlk.cells c true]) (show Zs (t.map iI) (0 + a * 1) [iI (t.getD b 0)] = _ from spl_I' (by omega)))) : vop T ρ.eval H op = some (.skip, H') := ZX ho hv ha hy hx hn h1 hb hl hH
theorem W5l {T : TypeId → Option VTy} {H : Zc} {op : Op} {ρ : VEnv} {H' : Zc} {t : TypeId} {a : Operand} {i : Nat} {v : VVal} {y : VTy} {b off : Nat} {cs new : List VVal} (ho : op = .store t a (.tmp i)) (hv : ρ[i]? = some v) (ha : ρ.eval a = .ptr (some (b, off))) (hy : T t = some y) (hx : v.cells = some new) (hn : new.length = y.size) (h1 : new.all VVal.one = true) (hb : H[b]? = some (.cells cs true) := by exact XH23) (hl : off + new.length ≤ cs.length := by show 0 + ((b : Nat) : Int).toNat * 1 + 1 ≤ _; rw [List.length_map, List.length_set]; omega) (hH : H.set b (.cells (Zs cs off new) true) = H' := by exact (ZR rfl).trans (congrArg (fun c => H ++ [VBlk.dead, VBlk.dead, gaB 0, VBlk.cells c true]) (show Zs ((t.set a (t.getD b 0)).map iI) (0 + b * 1) [iI (t.getD a 0)] = _ from spl_I' (by rw [List.length_set]; omega)))) : vop T ρ.eval H op = some (.skip, H') := ZX ho hv ha hy hx hn h1 hb hl hH
theorem W5m {T : TypeId → Option VTy} {H : Zc} {op : Op} {ρ : Operand → VVal} {t : TypeId} {a : Operand} {y : VTy} {p v : VVal} (ho : op = .load t a) (ha : ρ a = p) (hy : T t = some y) (hd : Zk y.desc = false) (h : LdOk H p v := by first | exact .inl ⟨_, _, rfl, XH25⟩ | exact .inr ⟨_, _, _, _, rfl, by exact getBX hm, XH25⟩) : vop T ρ H op = some (v, H) := v_ld ho ha hy hd h
theorem W5n {T : TypeId → Option VTy} {H : Zc} {op : Op} {ρ : Operand → VVal} {t : TypeId} {a : Operand} {y : VTy} {p v : VVal} (ho : op = .load t a) (ha : ρ a = p) (hy : T t = some y) (hd : Zk y.desc = false) (h : LdOk H p v := by first | exact .inl ⟨_, _, rfl, by exact cW (by rw [mixL_len]; omega)⟩ | exact .inr ⟨_, _, _, _, rfl, by exact getBX hj, by exact cW (by rw [mixL_len]; omega)⟩) : vop T ρ H op = some (v, H) := v_ld ho ha hy hd h
theorem W5o {T : TypeId → Option VTy} {H : Zc} {op : Op} {ρ : VEnv} {H' : Zc} {t : TypeId} {a : Operand} {i : Nat} {v : VVal} {y : VTy} {b off : Nat} {cs new : List VVal} (ho : op = .store t a (.tmp i)) (hv : ρ[i]? = some v) (ha : ρ.eval a = .ptr (some (b, off))) (hy : T t = some y) (hx : v.cells = some new) (hn : new.length = y.size) (h1 : new.all VVal.one = true) (hb : H[b]? = some (.cells cs true) := by exact getBX hj) (hl : off + new.length ≤ cs.length := by show 0 + ((i : Nat) : Int).toNat * 1 + 1 ≤ _; rw [List.length_map, List.length_set, mixL_len]; omega) (hH : H.set b (.cells (Zs cs off new) true) = H' := by exact setBX.trans (congrArg (fun c => (H ++ [VBlk.dead, VBlk.dead, gaB 0, VBlk.dead]) ++ X.set j (VBlk.cells c true)) (show Zs (((mixL (fun w => nmW t w t.length) (ZU p 9).who i).set i (nmW t ((ZU p 9).who.getD i 0) u)).map iW) (0 + i * 1) [iW (nmW t ((ZU p 9).who.getD i 0) u ||| 1#64 <<< (t.getD u 0).toNat)] = _ from (spl_W (by rw [List.length_set, mixL_len]; omega)).trans (by rw [List.set_set])))) : vop T ρ.eval H op = some (.skip, H') := ZX ho hv ha hy hx hn h1 hb hl hH
theorem W5p {T : TypeId → Option VTy} {H : Zc} {op : Op} {ρ : Operand → VVal} {t : TypeId} {a : Operand} {y : VTy} {p v : VVal} (ho : op = .load t a) (ha : ρ a = p) (hy : T t = some y) (hd : Zk y.desc = false) (h : LdOk H p v := by first | exact .inl ⟨_, _, rfl, by exact fgetF (by omega) hf⟩ | exact .inr ⟨_, _, _, _, rfl, XH23, by exact fgetF (by omega) hf⟩) : vop T ρ H op = some (v, H) := v_ld ho ha hy hd h
theorem W5q {T : TypeId → Option VTy} {H : Zc} {op : Op} {ρ : VEnv} {H' : Zc} {t : TypeId} {a : Operand} {i : Nat} {v : VVal} {y : VTy} {b off : Nat} {cs new : List VVal} (ho : op = .store t a (.tmp i)) (hv : ρ[i]? = some v) (ha : ρ.eval a = .ptr (some (b, off))) (hy : T t = some y) (hx : v.cells = some new) (hn : new.length = y.size) (h1 : new.all VVal.one = true) (hb : H[b]? = some (.cells cs true) := by exact getBX hk) (hl : off + new.length ≤ cs.length := by show 0 + ((i : Nat) : Int).toNat * 1 + 1 ≤ _; rw [List.length_map, mixL_len]; omega) (hH : H.set b (.cells (Zs cs off new) true) = H' := by exact setBX.trans (congrArg (fun c => (H ++ [VBlk.dead, VBlk.dead, gaB 0, VBlk.dead]) ++ X.set k9 (VBlk.cells c true)) (show Zs ((mixL (nmF t) (ZU p 9).fixed i).map iI) (0 + i * 1) [iI (t.getD f 0)] = _ from (spl_I' (by rw [mixL_len]; omega)).trans (congrArg (List.map iI) ((congrArg (fun z => List.set _ i z) hFe.symm).trans (mixL_set hi8)))))) : vop T ρ.eval H op = some (.skip, H') := ZX ho hv ha hy hx hn h1 hb hl hH
theorem W5r {T : TypeId → Option VTy} {H : Zc} {op : Op} {ρ : Operand → VVal} {t : TypeId} {a : Operand} {y : VTy} {p : VVal} {n : Nat} {vs : List VVal} (ho : op = .load t a) (ha : ρ a = p) (hy : T t = some y) (hd : Zk y.desc = true) (hn : y.size = n) (h : LdOkA H p n vs := by first | exact .inl ⟨_, _, rfl, XH25⟩ | exact .inr ⟨_, _, _, _, rfl, by exact getBX hm3, XH25⟩) : vop T ρ H op = some (.agg vs, H) := v_ldA ho ha hy hd hn h
theorem Can_b {x : SW} {H X : Zc} {a b d : VBlk} (g : Gz) (q : Pb) (hq : PbL q) : F (psys x) 20 [.ptr (some (H.length + 2, 0)), .agg (pbB q)] ((H ++ [a, b, gaB g, d]) ++ X) fun v G => v = .bool (leA q).isSome ∧ G = (H ++ [a, b, gaB (g + leG q), d]) ++ X := by
  have := Can_spec (x := x) ((H ++ [a, b, gaB g, d]) ++ X) (H.length + 2) g (getB rfl rfl) q hq
  rw [setB rfl (show 2 < 4 by decide)] at this; exact this
theorem Cut_Lf {x : SW} (H : Zc) (p : Pb) (m : Nat) (hnw : (ZU p m).who ≠ []) (hnf : (ZU p m).fixed ≠ []) : F (psys x) 19 [.agg (pbB (ZU p m))] H (CwR H (ZU p m)) := by
  have := Cut_L (x := x) H (ZU p m) hnw hnf
  rw [fewP_cut] at this; exact this
theorem getBX {B X : Zc} {j : Nat} {c : VBlk} (h : X[j]? = some c) : (B ++ X)[B.length + j]? = some c := ZG rfl h
theorem setBX {B X : Zc} {j : Nat} {c : VBlk} : (B ++ X).set (B.length + j) c = B ++ X.set j c := ZR rfl
theorem set_get {X : Zc} {j : Nat} {a b : VBlk} (h : X[j]? = some a) : (X.set j b)[j]? = some b := List.getElem?_set_self (ZD h)
theorem Yr {X : Zc} {j k : Nat} {a b : VBlk} (h : X[k]? = some a) (d : j ≠ k) : (X.set j b)[k]? = some a := by rw [List.getElem?_set_ne d]; exact h
def idT (U i : Nat) : List Int := (List.range U).map fun j => if j < i then (j : Int) else 0
theorem YK {U i : Nat} : (idT U i).length = U := by unfold idT; simp
theorem idT_get {U i j : Nat} (h : j < U) : (idT U i).getD j 0 = if j < i then (j : Int) else 0 := by
  unfold idT; rw [List.getD_eq_getElem?_getD, List.getElem?_map, List.getElem?_range h]; rfl
theorem ext_I {l m : List Int} (h : l.length = m.length) (he : ∀ i, i < l.length → l.getD i 0 = m.getD i 0) : l = m := by
  apply List.ext_getElem h
  intro i h1 h2
  have := he i h1
  rw [List.getD_eq_getElem?_getD, List.getD_eq_getElem?_getD, List.getElem?_eq_getElem h1, List.getElem?_eq_getElem h2] at this
  exact this
theorem idT_set {U i : Nat} (h : i < U) : (idT U i).set i (i : Int) = idT U (i + 1) := by
  refine ext_I (by rw [List.length_set, YK, YK]) fun j hj => ?_
  rw [List.length_set, YK] at hj
  rw [getD_setL, YK, idT_get hj, idT_get hj]
  by_cases e : j = i
  · rw [if_pos ⟨e, h⟩, if_pos (by omega), e]
  · rw [if_neg (fun k => e k.1)]
    by_cases e2 : j < i
    · rw [if_pos e2, if_pos (by omega)]
    · rw [if_neg e2, if_neg (by omega)]
theorem rep_cellsI : ∀ {n : Nat}, Zv [iI 0] n = (List.replicate n (0 : Int)).map iI
  | 0 => rfl
  | n + 1 => by rw [Zv, rep_cellsI, List.replicate_succ]; rfl
theorem idT_0 {U : Nat} : Zv [iI 0] U = (idT U 0).map iI := by
  rw [show idT U 0 = List.replicate U 0 from ext_I (by rw [YK, List.length_replicate]) fun j hj => by
    rw [YK] at hj
    rw [idT_get hj, if_neg (Nat.not_lt_zero _), List.getD_eq_getElem?_getD, List.getElem?_replicate, if_pos hj]; rfl]
  exact rep_cellsI
theorem idT_Pm {U : Nat} : Pm (idT U U) := by
  refine ⟨fun i hi => ?_, fun i j hi hj h => ?_⟩
  · rw [YK] at hi ⊢
    rw [idT_get hi, if_pos hi]; omega
  · rw [YK] at hi hj
    rw [idT_get hi, if_pos hi, idT_get hj, if_pos hj] at h; omega
theorem tm_n (x : Int) {u : Int} (h : 1 ≤ u) : (-u < x.tmod u ∧ x.tmod u < u) ∧ ∃ a : Nat, (x.tmod u + u).tmod u = (a : Int) ∧ (a : Int) < u := by
  have h1 : -u < x.tmod u ∧ x.tmod u < u := by
    have hb : (u.natAbs : Int) = u := by omega
    have h3 := Int.tmod_lt_of_pos x (b := u) (by omega)
    have h4 := Int.tmod_lt_of_pos (-x) (b := u) (by omega)
    rw [Int.neg_tmod] at h4
    omega
  refine ⟨h1, ((x.tmod u + u).tmod u).toNat, ?_, ?_⟩
  · have := Int.tmod_nonneg (a := x.tmod u + u) u (by omega); omega
  · have := Int.tmod_nonneg (a := x.tmod u + u) u (by omega)
    have := Int.tmod_lt_of_pos (x.tmod u + u) (b := u) (by omega); omega
theorem nmW_yes {t : List Int} {w : BitVec 64} {k : Nat} (h : w.getLsbD k = true) : nmW t w (k + 1) = nmW t w k ||| 1#64 <<< (t.getD k 0).toNat := if_pos h
theorem nmW_no {t : List Int} {w : BitVec 64} {k : Nat} (h : w.getLsbD k = false) : nmW t w (k + 1) = nmW t w k := if_neg (by rw [h]; simp)
theorem nm_L {t : List Int} {q : Pb} (h : PbL q) : PbL (nmQ t q) := ⟨h.u, by show (q.who.map _).length ≤ _; rw [List.length_map]; exact h.w, by show (q.fixed.map _).length ≤ _; rw [List.length_map]; exact h.f, h.r, h.s⟩
theorem fgetF2 {l : List Int} {k : Nat} (h : k + 1 < l.length) : (l.map iI)[(((k : Nat) : Int) + 1).toNat * 1]? = some (iI (l.getD (k + 1) 0)) := by
  have := fgetN (f := iI) (l := l) (k := k + 1) (0 : Int) h
  rw [Int.toNat_natCast] at this
  rw [show (((k : Nat) : Int) + 1).toNat = k + 1 by omega]; exact this
def mixL {α : Type} (f : α → α) (l : List α) (i : Nat) : List α := (l.take i).map f ++ l.drop i
theorem mixL_len {α : Type} {f : α → α} {l : List α} {i : Nat} : (mixL f l i).length = l.length := by unfold mixL; rw [List.length_append, List.length_map, List.length_take, List.length_drop]; omega
theorem mixL_end {α : Type} {f : α → α} {l : List α} : mixL f l l.length = l.map f := by unfold mixL; rw [List.take_length, List.drop_length, List.append_nil]
theorem mixL_set {α : Type} {f : α → α} {l : List α} {i : Nat} {d : α} (h : i < l.length) : (mixL f l i).set i (f (l.getD i d)) = mixL f l (i + 1) := by
  unfold mixL
  rw [List.set_append_right _ _ (by rw [List.length_map, List.length_take]; omega), List.length_map, List.length_take, Nat.min_eq_left (by omega), Nat.sub_self, List.drop_eq_getElem_cons h, List.set_cons_zero, Yc (d := d) h, List.map_append, List.append_assoc]; rfl
theorem mixL_id {α : Type} {f : α → α} {l : List α} {i : Nat} {d : α} (h : i < l.length) (e : f (l.getD i d) = l.getD i d) : mixL f l i = mixL f l (i + 1) := by
  unfold mixL
  rw [List.drop_eq_getElem_cons h, Yc (d := d) h, List.map_append, List.append_assoc]
  show _ = List.map f (List.take i l) ++ ([f (l.getD i d)] ++ _)
  rw [e, List.getD_eq_getElem?_getD, List.getElem?_eq_getElem h]; rfl
theorem cW {l : List (BitVec 64)} {i : Nat} {w : BitVec 64} (h : i < l.length) : ((l.set i w).map iW)[0 + ((i : Nat) : Int).toNat * 1]? = some (iW w) := by
  rw [Int.toNat_natCast, Nat.zero_add, Nat.mul_one, List.getElem?_map, List.getElem?_set_self h]; rfl
theorem fget0N {l : List Int} {k : Nat} (h : k < l.length) : (l.map iI)[0 + ((k : Nat) : Int).toNat * 1]? = some (iI (l.getD k 0)) := by rw [Nat.zero_add]; exact fgetN (0 : Int) h
theorem fgetF {l : List Int} {i f : Nat} (h : i < l.length) (e : l.getD i 0 = (f : Int)) : (l.map iI)[((i : Nat) : Int).toNat * 1]? = some (iI (f : Nat)) := by
  rw [fgetN (f := iI) (0 : Int) h, e]
theorem whoBit {w : BitVec 64} {u : Nat} : (((w >>> ((u : Nat) : Int).toNat &&& 1#64).toNat : Int) == 1) = w.getLsbD u := by rw [Int.toNat_natCast]; exact bit_eq
theorem nm_gh {S : Go.V.Sys} {B X : Zc} {u r : VVal} {n n2 j k m : Nat} {w : List (BitVec 64)} {f : List Int} (hj : X[j]? = some (.cells (w.map iW) true)) (hk : X[k]? = some (.cells (f.map iI) true)) (hm : X[m]? = some (.cells [u, .slice (some (B.length + j, 0)) n n false 1, .slice (some (B.length + k, 0)) n2 n2 false 1, r] true))
    (hw : w.length = n) (hf : f.length = n2) (d1 : j ≠ k) (d2 : j ≠ m) (d3 : k ≠ m) : ∃ X3, (∀ (H0 : Zc) (vs : List VVal), Gh S H0 vs (B ++ X) vs (B ++ X3)) ∧ X3[m]? = some (.cells [u, fzW w, fzI f, r] true) := by
  subst hw hf
  have g1 := fun (H0 : Zc) (vs : List VVal) => Gh.cellL (S := S) (H := B) (H0 := H0) (vs := vs) m 1 j hm rfl (fun e => d2 e.symm) hj map_all (Nat.le_refl _)
  have h1 : ((X.set j .dead).set m (.cells ([u, .slice (some (B.length + j, 0)) w.length w.length false 1, .slice (some (B.length + k, 0)) f.length f.length false 1, r].set 1 (.fsl (w.map iW) w.length 1 false)) true))[m]? = some (.cells [u, fzW w, .slice (some (B.length + k, 0)) f.length f.length false 1, r] true) := set_get (Yr hm d2)
  have h2 : ((X.set j .dead).set m (.cells ([u, .slice (some (B.length + j, 0)) w.length w.length false 1, .slice (some (B.length + k, 0)) f.length f.length false 1, r].set 1 (.fsl (w.map iW) w.length 1 false)) true))[k]? = some (.cells (f.map iI) true) := Yr (Yr hk d1) (fun e => d3 e.symm)
  have g2 := fun (H0 : Zc) (vs : List VVal) => Gh.cellL (S := S) (H := B) (H0 := H0) (vs := vs) m 2 k h1 rfl (fun e => d3 e.symm) h2 map_all (Nat.le_refl _)
  exact ⟨_, fun H0 vs => (g1 H0 vs).trans (g2 H0 vs), set_get (Yr h1 d3)⟩
theorem SolveNames_walk1 {x : SW} (H : Zc) (p : Pb) (us : List Int) (hu : -9223372036854775808 ≤ p.users ∧ p.users < 9223372036854775808) (hnw : (ZU p 9).who ≠ []) : F (psys x) 4 [.agg (pbB p), fzI us] H fun v G => v = .bool true ∧ G = H := by
 have hL := fewP_L (m := 9) hu
 refine Zu Tryd.func4 rfl Zi rfl ?_
 refine Ze (Za ?_)
 refine Lo Zi (Zy rfl rfl rfl) ?_
 refine Lo Zi (Zg (VVal.bool false) (.inr rfl) rfl) ?_
 refine Zf (Zd (Ze ?_))
 refine Yy (Gh.freezePtrL (cs := pbB p) 2 0 rfl rfl rfl) ?_
 refine Za ?_
 refine Lo Zi (W2b rfl rfl rfl rfl rfl) ?_
 refine ZC rfl rfl rfl (by exact Few_spec _ p 9 hu) ?_
 rintro _ _ ⟨rfl, rfl⟩
 refine Le Zi ?_
 refine Lo Zi (ZF rfl rfl) ?_
 refine Lo Zi (W13 rfl rfl rfl rfl rfl rfl rfl) ?_
 refine Zf (Zd (Ze ?_))
 refine Yy (Gh.freezePtrL (cs := pbB (ZU p 9)) 5 1 rfl rfl rfl) ?_
 refine Za ?_
 refine ZC rfl rfl rfl (by exact sNew_spec _) ?_
 rintro _ _ ⟨rfl, rfl⟩; rw [List.append_assoc, List.length_append]
 refine Le Zi ?_
 refine Lo Zi (Zb (.inr rfl) rfl) ?_
 refine Zf (Zd (Ze (Ze (Za ?_))))
 refine Lo Zi (Zb (.inl rfl) rfl) ?_
 refine Lo Zi (v_is false rfl rfl) ?_
 refine Lo Zi (Zb (.inl rfl) rfl) ?_
 refine ZC rfl rfl rfl (by exact wakes_spec _) ?_
 rintro _ _ ⟨rfl, rfl⟩
 refine Le Zi ?_
 refine Lo Zi (rfl) ?_
 refine Lo Zi (Yk rfl rfl rfl) ?_
 refine Zf (Zd ?_)
 refine Z7 rfl rfl ?_
 refine Zn (Zd (Ze (Ze (Za ?_))))
 refine Lo Zi (W2b rfl rfl rfl rfl rfl) ?_
 refine ZC rfl rfl rfl (by exact Cut_few _ p 9) ?_
 rintro _ _ ⟨rfl, rfl⟩
 refine Le Zi ?_
 refine ZC rfl rfl rfl (by exact Yz _ (ZU p 9) hL) ?_
 rintro _ _ ⟨rfl, rfl⟩
 refine Le Zi ?_
 refine Lo Zi (rfl) ?_
 refine Lo Zi (Zb (.inl rfl) rfl) ?_
 refine ZM 28 (env1 := Zi) (env2 := Zi) rfl rfl rfl (fun hg1 => ?_) (fun hg1 => ?_)
 ·try simp only [qB, qN] at hg1
  refine Lf Zi ?_
  refine Lf Zi ?_
  refine Lf Zi ?_
  refine Lo Zi (Yl (VVal.bool true) rfl rfl rfl) ?_
  refine Zf (Zd ?_)
  refine Z0 rfl rfl ?_
  refine Ze (Za ?_)
  refine Lo Zi (Zg (VVal.bool true) (.inr rfl) rfl) ?_
  refine Zf (Zd ?_)
  try refine YB (List.append_assoc _ _ _) ?_
  refine Zl (Zr ?_)
  refine W10 (.inr rfl) (Zh rfl rfl) ?_
  exact ⟨rfl, rfl⟩
 ·try simp only [qB, qN] at hg1
  refine Lo Zi (rfl) ?_
  refine Lo Zi (W2d rfl rfl rfl rfl) ?_
  refine Lo Zi (rfl) ?_
  refine Lo Zi (Yk rfl rfl rfl) ?_
  refine Zf (Zd ?_)
  refine Zo _ rfl (fun hc2 => ?_) (fun hc2 => ?_)
  ·try simp only [qB, qN] at hc2
   refine Ze (Za ?_)
   refine Lo Zi (Zg (VVal.bool true) (.inr rfl) rfl) ?_
   refine Zf (Zd ?_)
   try refine YB (List.append_assoc _ _ _) ?_
   refine Zl (Zr ?_)
   refine W10 (.inr rfl) (Zh rfl rfl) ?_
   exact ⟨rfl, rfl⟩
  ·try simp only [qB, qN] at hc2
   refine Zn (Zd (Ze ?_))
   have h0 : pck (ZU p 9) = 0 := by first | assumption | simp_all
   have g := pck_good.1 h0
   have g2 := g.u64; have g4 := g.u0; have g5 := g.fx
   have hU1 : 1 ≤ (ZU p 9).users := by omega
   have gn12 := g.n12
   have hnw1 := List.length_pos_iff.2 hnw
   have hnf : (ZU p 9).fixed ≠ [] := List.length_pos_iff.1 (by omega)
   refine Za ?_
   refine Lo Zi (rfl) ?_
   refine Lo Zi (W2d rfl rfl rfl rfl) ?_
   refine Lo Zi (v_makeSlice rfl rfl rfl rfl rfl (by decide) ⟨by omega, Int.le_refl _, by show (ZU p 9).users * (8 : Nat) ≤ _; omega, by omega⟩) ?_
   refine Lo Zi (Zb (.inr rfl) rfl) ?_
   refine Zf (Zd (Ze (Ze (Za ?_))))
   refine Lo Zi (Zg (VVal.int .i64 0) (.inr rfl) rfl) ?_
   refine Zf (Zd (Zm ?_))
   refine ZE (mk 167 187072209578355573530071658587684226515959365500445) (env' := Zi) rfl ?_
   refine ZN (fun (i : Nat) => (ZU p 9).users.toNat - i) (fun (i : Nat) => [(8, iI (i : Nat))]) (fun (i : Nat) G => (i ≤ (ZU p 9).users.toNat) ∧ G = (H ++ [VBlk.dead, VBlk.dead, gaB 0, VBlk.cells ((idT (ZU p 9).users.toNat i).map iI) true])) 0 rfl ?_ ?_
   ·refine ⟨?_, (by show _ ++ [VBlk.dead, VBlk.dead, gaB 0, VBlk.cells (Zv [VVal.int .i64 0] _) true] = _; rw [idT_0])⟩
    exact Nat.zero_le _
   rintro i _ ⟨hi, rfl⟩
   refine ZW (env' := Zi) rfl ?_
   refine Ze (Ze (Za ?_))
   refine Lo Zi (Zb (.inl rfl) rfl) ?_
   refine Lo Zi (rfl) ?_
   refine Lo Zi (W2d rfl rfl rfl rfl) ?_
   refine Lo Zi (rfl) ?_
   refine Zf (Zd ?_)
   refine Zo _ rfl (fun hc3 => ?_) (fun hc3 => ?_)
   ·try simp only [qB, qN] at hc3
    refine Zn (Zd (Ze (Zm (Za ?_))))
    refine Lo Zi (Zb (.inl rfl) rfl) ?_
    refine Lo Zi (Zb (.inl rfl) rfl) ?_
    refine Lo Zi (Zb (.inl rfl) rfl) ?_
    refine Lo Zi (W18 rfl rfl rfl rfl rfl rfl rfl) ?_
    refine Lo Zi (W5f rfl rfl rfl rfl rfl rfl rfl) ?_
    refine Zf (ZA (Zd (Za ?_)))
    refine Lo Zi (Zb (.inl rfl) rfl) ?_
    refine Lo Zi (W14 rfl rfl rfl) ?_
    refine Lo Zi (Zb (.inr rfl) rfl) ?_
    refine Zf ?_
    refine Zw (mk 167 187072209578355573530071658587684226515959365500445) (env' := Zi) rfl ⟨i + 1, ?_, rfl, ?_⟩
    ·first | omega | (simp only []; omega)
    ·exact ⟨by omega, rfl⟩
   ·try simp only [qB, qN] at hc3
    refine ZL (ZJ (Zx (ZK (Zd ?_))))
    refine B_seqJ (mk 167 187072209578355573530071658587684226515959365500703) (fun (t : List Int) => []) (fun (t : List Int) G => (Pm t ∧ t.length = (ZU p 9).users.toNat) ∧ G = (H ++ [VBlk.dead, VBlk.dead, gaB 0, VBlk.cells ((t).map iI) true])) ?_ ?_
    ·skip
     refine Ze (Za ?_)
     refine Lo Zi (Zg (VVal.int .i64 0) (.inr rfl) rfl) ?_
     refine Zf (Zd (Zm ?_))
     refine ZE (mk 167 187072209578355573530071658587684226515959365500189) (env' := Zi) rfl ?_
     refine ZN (fun (⟨k, t⟩ : Nat × List Int) => 202 - k) (fun (⟨k, t⟩ : Nat × List Int) => [(9, iI (k : Nat))]) (fun (⟨k, t⟩ : Nat × List Int) G => (k ≤ 201 ∧ Pm t ∧ t.length = (ZU p 9).users.toNat) ∧ G = (H ++ [VBlk.dead, VBlk.dead, gaB 0, VBlk.cells ((t).map iI) true])) ⟨0, idT (ZU p 9).users.toNat (ZU p 9).users.toNat⟩ rfl ?_ ?_
     ·refine ⟨?_, (by rw [show i = (ZU p 9).users.toNat by omega])⟩
      exact ⟨Nat.zero_le _, idT_Pm, YK⟩
     rintro ⟨k, t⟩ _ ⟨⟨hk1, hP, hl⟩, rfl⟩
     refine ZW (env' := Zi) rfl ?_
     refine Ze (Ze (Za ?_))
     refine Lo Zi (Zb (.inl rfl) rfl) ?_
     refine Lo Zi (W14 rfl rfl rfl) ?_
     refine Lo Zi (Zb (.inl rfl) rfl) ?_
     refine Lo Zi (rfl) ?_
     refine Lo Zi (rfl) ?_
     refine Lo Zi (Zb (.inl rfl) rfl) ?_
     refine ZM 51 (env1 := Zi) (env2 := Zi) rfl rfl rfl (fun hg4 => ?_) (fun hg4 => ?_)
     ·try simp only [qB, qN] at hg4
      refine Lo Zi (Zb (.inl rfl) rfl) ?_
      refine Lo Zi (rfl) ?_
      refine Lo Zi (ZI rfl rfl rfl) ?_
      refine Zf (Zd ?_)
      refine Zo _ rfl (fun hc5 => ?_) (fun hc5 => ?_)
      ·try simp only [qB, qN] at hc5
       refine Zn (Zd (Ze (Zm (Ze ?_))))
       obtain ⟨hx1, a, hae, hau⟩ := tm_n (us.getD k 0) hU1
       refine ZO [0, 1, 2, 3, 4, 5, 6, 7, 8, 9, 10, 11, 12, 13] #[0, 0, 3, 7, 0, 16, 63, 0, 128, 511, 0, 1024, 4095, 8191] XH2 XH2 XH2 ?_
       refine Oo Zi .calm rfl (Zb (.inl rfl) rfl) ?_
       refine Oo Zi .calm rfl (Zb (.inl rfl) rfl) ?_
       refine Oo Zi .calm rfl (W18 rfl rfl rfl rfl rfl rfl rfl) ?_
       refine Oo Zi .look rfl (W1f rfl rfl rfl rfl) ?_
       refine Oo Zi .calm rfl (rfl) ?_
       refine Oo Zi .look rfl (W2d rfl rfl rfl rfl) ?_
       refine Oo Zi .calm rfl (v_rem rfl rfl rfl XH3) ?_
       refine Oo Zi .calm rfl (rfl) ?_
       refine Oo Zi .look rfl (W2d rfl rfl rfl rfl) ?_
       refine Oo Zi .calm rfl (W14 rfl rfl rfl) ?_
       refine Oo Zi .calm rfl (rfl) ?_
       refine Oo Zi .look rfl (W2d rfl rfl rfl rfl) ?_
       refine Oo Zi .calm rfl (v_rem rfl rfl rfl XH3) ?_
       refine Oo Zi .calm rfl (Zb (.inr rfl) rfl) ?_
       refine ZP [] XH2 (trivial) ?_
       refine Zd (Ze ?_)
       rw [hae]
       obtain ⟨hx2, b, hbe, hbu⟩ := tm_n (us.getD (k + 1) 0) hU1
       refine ZO [0, 1, 2, 3, 4, 5, 6, 7, 8, 9, 10, 11, 12, 13, 14] #[0, 0, 2, 7, 15, 0, 32, 127, 0, 256, 1023, 0, 2048, 8191, 16383] XH2 XH2 XH2 ?_
       refine Oo Zi .calm rfl (Zb (.inl rfl) rfl) ?_
       refine Oo Zi .calm rfl (Zb (.inl rfl) rfl) ?_
       refine Oo Zi .calm rfl (W14 rfl rfl rfl) ?_
       refine Oo Zi .calm rfl (W18 rfl rfl rfl rfl rfl rfl rfl) ?_
       refine Oo Zi .look rfl (W5i rfl rfl rfl rfl) ?_
       refine Oo Zi .calm rfl (rfl) ?_
       refine Oo Zi .look rfl (W2d rfl rfl rfl rfl) ?_
       refine Oo Zi .calm rfl (v_rem rfl rfl rfl XH3) ?_
       refine Oo Zi .calm rfl (rfl) ?_
       refine Oo Zi .look rfl (W2d rfl rfl rfl rfl) ?_
       refine Oo Zi .calm rfl (W14 rfl rfl rfl) ?_
       refine Oo Zi .calm rfl (rfl) ?_
       refine Oo Zi .look rfl (W2d rfl rfl rfl rfl) ?_
       refine Oo Zi .calm rfl (v_rem rfl rfl rfl XH3) ?_
       refine Oo Zi .calm rfl (Zb (.inr rfl) rfl) ?_
       refine ZP [] XH2 (trivial) ?_
       refine Zd ?_
       rw [hbe]
       refine ZO [0, 1, 2, 3, 4, 5, 6, 7, 8, 9, 10, 11, 12, 13, 14, 15] #[0, 0, 0, 0, 0, 0, 48, 112, 0, 0, 768, 1792, 4083, 8179, 16383, 32767] XH2 XH2 XH2 ?_
       refine Oo Zi .calm rfl (Zb (.inl rfl) rfl) ?_
       refine Oo Zi .calm rfl (Zb (.inl rfl) rfl) ?_
       refine Oo Zi .calm rfl (Zb (.inl rfl) rfl) ?_
       refine Oo Zi .calm rfl (Zb (.inl rfl) rfl) ?_
       refine Oo Zi .calm rfl (Zb (.inl rfl) rfl) ?_
       refine Oo Zi .calm rfl (Zb (.inl rfl) rfl) ?_
       refine Oo Zi .calm rfl (W18 rfl rfl rfl rfl rfl rfl rfl) ?_
       refine Oo Zi .look rfl (W5j rfl rfl rfl rfl) ?_
       refine Oo Zi .calm rfl (Zb (.inl rfl) rfl) ?_
       refine Oo Zi .calm rfl (Zb (.inl rfl) rfl) ?_
       refine Oo Zi .calm rfl (W18 rfl rfl rfl rfl rfl rfl rfl) ?_
       refine Oo Zi .look rfl (W5j rfl rfl rfl rfl) ?_
       refine Oo Zi .calm rfl (W18 rfl rfl rfl rfl rfl rfl rfl) ?_
       refine Oo Zi .turn rfl (W5k rfl rfl rfl rfl rfl rfl rfl) ?_
       refine Oo Zi .calm rfl (W18 rfl rfl rfl rfl rfl rfl rfl) ?_
       refine Oo Zi .turn rfl (W5l rfl rfl rfl rfl rfl rfl rfl) ?_
       refine ZP [] XH2 (trivial) ?_
       refine ZA (Zd (Za ?_))
       refine Lo Zi (Zb (.inl rfl) rfl) ?_
       refine Lo Zi (W14 rfl rfl rfl) ?_
       refine Lo Zi (Zb (.inr rfl) rfl) ?_
       refine Zf ?_
       refine Zw (mk 167 187072209578355573530071658587684226515959365500189) (env' := Zi) rfl ⟨⟨k + 2, (t.set a (t.getD b 0)).set b (t.getD a 0)⟩, ?_, rfl, ?_⟩
       ·first | omega | (simp only []; omega)
       ·exact ⟨⟨by omega, hP.swap (a := a) (b := b) (by omega) (by omega), by rw [List.length_set, List.length_set]; exact hl⟩, rfl⟩
      ·try simp only [qB, qN] at hc5
       refine ZL (ZJ (Zx (ZK ?_)))
       refine Zw (mk 167 187072209578355573530071658587684226515959365500703) (env' := Zi) rfl ⟨t, rfl, ?_⟩
       exact ⟨⟨hP, hl⟩, rfl⟩
     ·try simp only [qB, qN] at hg4
      refine Lf Zi ?_
      refine Lf Zi ?_
      refine Lo Zi (Zz (VVal.bool false) rfl rfl rfl) ?_
      refine Zf (Zd ?_)
      refine Z7 rfl rfl ?_
      refine ZL (ZJ (Zx (ZK ?_)))
      refine Zw (mk 167 187072209578355573530071658587684226515959365500703) (env' := Zi) rfl ⟨t, rfl, ?_⟩
      exact ⟨⟨hP, hl⟩, rfl⟩
    ·rintro t _ ⟨⟨hP, hl⟩, rfl⟩
     refine ZW (env' := Zi) rfl ?_
     refine Ze ?_
     refine Yy (Gh.freezeL (l := t.map iI) 7 3 rfl rfl (YL (by rw [List.length_map]; exact hl.symm)) (Nat.le_refl _) rfl) ?_
     refine Za ?_
     refine Lo Zi (W2b rfl rfl rfl rfl rfl) ?_
     refine ZC rfl rfl rfl (by exact Cut_Lf _ p 9 hnw hnf) ?_
     rintro v G ⟨Y, j, k9, rfl, rfl, hj, hk, hne⟩
     refine Le Zi ?_
     refine Lo Zi (ZF rfl rfl) ?_
     refine Lo Zi (W13 rfl rfl rfl rfl rfl rfl rfl) ?_
     refine Zf (Zd (Ze (Ze ?_)))
     obtain ⟨m9, hm9⟩ : ∃ m, m = Y.length := ⟨_, rfl⟩
     rw [← hm9]
     have hjl := ZD hj
     have hkl := ZD hk
     refine Za ?_
     refine Lo Zi (Zg (VVal.int .i64 0) (.inr rfl) rfl) ?_
     refine Zf (Zd (Zm ?_))
     refine ZE (mk 167 187072209578355573530071658587684226515959365488415) (env' := Zi) rfl ?_
     refine ZN (fun (i : Nat) => (ZU p 9).who.length - i) (fun (i : Nat) => [(13, iI (i : Nat))]) (fun (i : Nat) G => (i ≤ (ZU p 9).who.length) ∧ ∃ X, G = (H ++ [VBlk.dead, VBlk.dead, gaB 0, VBlk.dead]) ++ X ∧ X[j]? = some (.cells (((mixL (fun w => nmW t w t.length) (ZU p 9).who i)).map iW) true) ∧ X[k9]? = some (.cells (((mixL (nmF t) (ZU p 9).fixed i)).map iI) true) ∧ X[m9]? = some (VBlk.cells [iI (ZU p 9).users, .slice (some ((H ++ [VBlk.dead, VBlk.dead, gaB 0, VBlk.dead]).length + j, 0)) (ZU p 9).who.length (ZU p 9).who.length false 1, .slice (some ((H ++ [VBlk.dead, VBlk.dead, gaB 0, VBlk.dead]).length + k9, 0)) (ZU p 9).fixed.length (ZU p 9).fixed.length false 1, fzR (ZU p 9).rules] true)) 0 rfl ?_ ?_
     ·refine ⟨?_, ⟨_, rfl, Zp hj, Zp hk, by rw [hm9]; exact get_end⟩⟩
      exact Nat.zero_le _
     rintro i _ ⟨hi, ⟨X, rfl, hj, hk, hm⟩⟩
     refine ZW (env' := Zi) rfl ?_
     refine Ze (Ze (Za ?_))
     refine Lo Zi (Zb (.inl rfl) rfl) ?_
     refine Lo Zi (rfl) ?_
     refine Lo Zi (W2d rfl rfl rfl rfl) ?_
     refine Lo Zi (rfl) ?_
     refine Lo Zi (rfl) ?_
     refine Zf (Zd ?_)
     refine Zo _ rfl (fun hc6 => ?_) (fun hc6 => ?_)
     ·try simp only [qB, qN] at hc6
      refine Zn (Zd (Ze (Zm (Ze ?_))))
      have hi9 : i < (ZU p 9).who.length := by omega
      have hi8 : i < (ZU p 9).fixed.length := by omega
      refine Za ?_
      refine Lo Zi (rfl) ?_
      refine Lo Zi (W5m rfl rfl rfl rfl) ?_
      refine Lo Zi (Zb (.inl rfl) rfl) ?_
      refine Lo Zi (W18 rfl rfl rfl rfl rfl rfl rfl) ?_
      refine Lo Zi (Ym (VVal.int .u64 0) rfl rfl rfl rfl rfl rfl rfl (by exact getBX hj) (by show 0 + ((i : Nat) : Int).toNat * 1 + 1 ≤ _; rw [List.length_map, mixL_len]; omega) (by exact setBX.trans (congrArg (fun c => (H ++ [VBlk.dead, VBlk.dead, gaB 0, VBlk.dead]) ++ X.set j (VBlk.cells c true)) (show Zs ((mixL (fun w => nmW t w t.length) (ZU p 9).who i).map iW) (0 + i * 1) [iW 0#64] = _ from spl_W (by rw [mixL_len]; omega))))) ?_
      refine Zf (Zd (Ze (Ze (Za ?_))))
      refine Lo Zi (Zg (VVal.int .i64 0) (.inr rfl) rfl) ?_
      refine Zf (Zd (Zm ?_))
      refine ZE (mk 167 187072209578355573530071658587684226515959365472031) (env' := Zi) rfl ?_
      refine ZN (fun (u : Nat) => (ZU p 9).users.toNat - u) (fun (u : Nat) => [(14, iI (u : Nat))]) (fun (u : Nat) G => (u ≤ (ZU p 9).users.toNat) ∧ ∃ X, G = (H ++ [VBlk.dead, VBlk.dead, gaB 0, VBlk.dead]) ++ X ∧ X[j]? = some (.cells (((mixL (fun w => nmW t w t.length) (ZU p 9).who i).set i (nmW t ((ZU p 9).who.getD i 0) u)).map iW) true) ∧ X[k9]? = some (.cells (((mixL (nmF t) (ZU p 9).fixed i)).map iI) true) ∧ X[m9]? = some (VBlk.cells [iI (ZU p 9).users, .slice (some ((H ++ [VBlk.dead, VBlk.dead, gaB 0, VBlk.dead]).length + j, 0)) (ZU p 9).who.length (ZU p 9).who.length false 1, .slice (some ((H ++ [VBlk.dead, VBlk.dead, gaB 0, VBlk.dead]).length + k9, 0)) (ZU p 9).fixed.length (ZU p 9).fixed.length false 1, fzR (ZU p 9).rules] true)) 0 rfl ?_ ?_
      ·refine ⟨?_, ⟨_, rfl, set_get hj, Yr hk hne, Yr hm (by omega)⟩⟩
       exact Nat.zero_le _
      rintro u _ ⟨hu9, ⟨X, rfl, hj, hk, hm⟩⟩
      refine ZW (env' := Zi) rfl ?_
      refine Ze (Ze (Za ?_))
      refine Lo Zi (Zb (.inl rfl) rfl) ?_
      refine Lo Zi (rfl) ?_
      refine Lo Zi (W2d rfl rfl rfl rfl) ?_
      refine Lo Zi (rfl) ?_
      refine Zf (Zd ?_)
      refine Zo _ rfl (fun hc7 => ?_) (fun hc7 => ?_)
      ·try simp only [qB, qN] at hc7
       refine Zn (Zd (Ze (Zm (Ze (Za ?_)))))
       refine Lo Zi (rfl) ?_
       refine Lo Zi (W2d rfl rfl rfl rfl) ?_
       refine Lo Zi (Zb (.inl rfl) rfl) ?_
       refine Lo Zi (W18 rfl rfl rfl rfl rfl rfl rfl) ?_
       refine Lo Zi (W2d rfl rfl rfl rfl) ?_
       refine Lo Zi (Zb (.inl rfl) rfl) ?_
       refine Lo Zi (v_shrW rfl rfl rfl XH3) ?_
       refine Lo Zi (v_andW (b := 1#64) rfl rfl rfl) ?_
       refine Lo Zi (v_val rfl (congrArg VVal.bool whoBit)) ?_
       refine Zf (Zd ?_)
       refine Zo _ rfl (fun hc8 => ?_) (fun hc8 => ?_)
       ·try simp only [qB, qN] at hc8
        have hul : u < t.length := by omega
        have hru := hP.rg u hul
        refine ZO [0, 1, 2, 3, 4, 5, 6, 7, 8, 9, 10, 11, 12, 13, 14, 15] #[0, 1, 0, 0, 8, 0, 56, 120, 0, 0, 768, 1792, 3840, 8184, 16383, 32767] XH2 XH2 XH2 ?_
        refine Oo Zi .calm rfl (rfl) ?_
        refine Oo Zi .look rfl (W5m rfl rfl rfl rfl) ?_
        refine Oo Zi .calm rfl (Zb (.inl rfl) rfl) ?_
        refine Oo Zi .calm rfl (rfl) ?_
        refine Oo Zi .look rfl (W5m rfl rfl rfl rfl) ?_
        refine Oo Zi .calm rfl (Zb (.inl rfl) rfl) ?_
        refine Oo Zi .calm rfl (W18 rfl rfl rfl rfl rfl rfl rfl) ?_
        refine Oo Zi .look rfl (W5n rfl rfl rfl rfl) ?_
        refine Oo Zi .calm rfl (Zb (.inl rfl) rfl) ?_
        refine Oo Zi .calm rfl (Zb (.inl rfl) rfl) ?_
        refine Oo Zi .calm rfl (W18 rfl rfl rfl rfl rfl rfl rfl) ?_
        refine Oo Zi .look rfl (W1f rfl rfl rfl rfl) ?_
        refine Oo Zi .calm rfl (v_shl1 rfl rfl rfl XH3) ?_
        refine Oo Zi .calm rfl (v_orW rfl rfl rfl) ?_
        refine Oo Zi .calm rfl (W18 rfl rfl rfl rfl rfl rfl rfl) ?_
        refine Oo Zi .turn rfl (W5o rfl rfl rfl rfl rfl rfl rfl) ?_
        refine ZP [] XH2 (trivial) ?_
        refine ZA (Zd (Za ?_))
        refine Lo Zi (Zb (.inl rfl) rfl) ?_
        refine Lo Zi (W14 rfl rfl rfl) ?_
        refine Lo Zi (Zb (.inr rfl) rfl) ?_
        refine Zf ?_
        refine Zw (mk 167 187072209578355573530071658587684226515959365472031) (env' := Zi) rfl ⟨u + 1, ?_, rfl, ?_⟩
        ·first | omega | (simp only []; omega)
        ·first | exact ⟨by omega, _, rfl, by rw [nmW_yes (by assumption)]; exact set_get hj, Yr hk hne, Yr hm (by omega)⟩ | exact ⟨by omega, _, rfl, by rw [nmW_no (by assumption)]; exact hj, hk, hm⟩
       ·try simp only [qB, qN] at hc8
        refine Zn (ZA (Zd (Za ?_)))
        refine Lo Zi (Zb (.inl rfl) rfl) ?_
        refine Lo Zi (W14 rfl rfl rfl) ?_
        refine Lo Zi (Zb (.inr rfl) rfl) ?_
        refine Zf ?_
        refine Zw (mk 167 187072209578355573530071658587684226515959365472031) (env' := Zi) rfl ⟨u + 1, ?_, rfl, ?_⟩
        ·first | omega | (simp only []; omega)
        ·first | exact ⟨by omega, _, rfl, by rw [nmW_yes (by assumption)]; exact set_get hj, Yr hk hne, Yr hm (by omega)⟩ | exact ⟨by omega, _, rfl, by rw [nmW_no (by assumption)]; exact hj, hk, hm⟩
      ·try simp only [qB, qN] at hc7
       refine ZL (ZJ (Zx (ZK (Zd (Ze ?_)))))
       obtain rfl : u = (ZU p 9).users.toNat := by omega
       rw [← hl, mixL_set (f := fun w => nmW t w t.length) hi9] at hj
       refine Za ?_
       refine Lo Zi (rfl) ?_
       refine Lo Zi (W2d rfl rfl rfl rfl) ?_
       refine Lo Zi (Zb (.inl rfl) rfl) ?_
       refine Lo Zi (W18 rfl rfl rfl rfl rfl rfl rfl) ?_
       refine Lo Zi (W2d rfl rfl rfl rfl) ?_
       refine Lo Zi (rfl) ?_
       refine Zf (Zd ?_)
       refine Zo _ rfl (fun hc9 => ?_) (fun hc9 => ?_)
       ·try simp only [qB, qN] at hc9
        obtain ⟨f, hf⟩ : ∃ f : Nat, (ZU p 9).fixed.getD i 0 = (f : Int) := ⟨_, (Int.toNat_of_nonneg (by omega)).symm⟩
        have hok9 := (okW_in g hi9).1
        have hfl : f < t.length := by omega
        have hFe : nmF t ((ZU p 9).fixed.getD i 0) = t.getD f 0 := by unfold nmF; rw [if_pos (by omega), hf, Int.toNat_natCast]
        refine ZO [0, 1, 2, 3, 4, 5, 6, 7, 8, 9, 10, 11, 12] #[0, 1, 0, 0, 0, 16, 0, 112, 240, 504, 1016, 2047, 4095] XH2 XH2 XH2 ?_
        refine Oo Zi .calm rfl (rfl) ?_
        refine Oo Zi .look rfl (W5m rfl rfl rfl rfl) ?_
        refine Oo Zi .calm rfl (Zb (.inl rfl) rfl) ?_
        refine Oo Zi .calm rfl (Zb (.inl rfl) rfl) ?_
        refine Oo Zi .calm rfl (rfl) ?_
        refine Oo Zi .look rfl (W2d rfl rfl rfl rfl) ?_
        refine Oo Zi .calm rfl (Zb (.inl rfl) rfl) ?_
        refine Oo Zi .calm rfl (W18 rfl rfl rfl rfl rfl rfl rfl) ?_
        refine Oo Zi .look rfl (W5p rfl rfl rfl rfl) ?_
        refine Oo Zi .calm rfl (W18 rfl rfl rfl rfl rfl rfl rfl) ?_
        refine Oo Zi .look rfl (W1f rfl rfl rfl rfl) ?_
        refine Oo Zi .calm rfl (W18 rfl rfl rfl rfl rfl rfl rfl) ?_
        refine Oo Zi .turn rfl (W5q rfl rfl rfl rfl rfl rfl rfl) ?_
        refine ZP [] XH2 (trivial) ?_
        refine ZA (Zd (Za ?_))
        refine Lo Zi (Zb (.inl rfl) rfl) ?_
        refine Lo Zi (W14 rfl rfl rfl) ?_
        refine Lo Zi (Zb (.inr rfl) rfl) ?_
        refine Zf ?_
        refine Zw (mk 167 187072209578355573530071658587684226515959365488415) (env' := Zi) rfl ⟨i + 1, ?_, rfl, ?_⟩
        ·first | omega | (simp only []; omega)
        ·first | exact ⟨by omega, _, rfl, Yr hj (fun e => hne e.symm), set_get hk, Yr hm (by omega)⟩ | exact ⟨by omega, _, rfl, hj, by rw [← mixL_id hi8 (show nmF t ((ZU p 9).fixed.getD i 0) = (ZU p 9).fixed.getD i 0 from if_neg (by omega))]; exact hk, hm⟩
       ·try simp only [qB, qN] at hc9
        refine Zn (ZA (Zd (Za ?_)))
        refine Lo Zi (Zb (.inl rfl) rfl) ?_
        refine Lo Zi (W14 rfl rfl rfl) ?_
        refine Lo Zi (Zb (.inr rfl) rfl) ?_
        refine Zf ?_
        refine Zw (mk 167 187072209578355573530071658587684226515959365488415) (env' := Zi) rfl ⟨i + 1, ?_, rfl, ?_⟩
        ·first | omega | (simp only []; omega)
        ·first | exact ⟨by omega, _, rfl, Yr hj (fun e => hne e.symm), set_get hk, Yr hm (by omega)⟩ | exact ⟨by omega, _, rfl, hj, by rw [← mixL_id hi8 (show nmF t ((ZU p 9).fixed.getD i 0) = (ZU p 9).fixed.getD i 0 from if_neg (by omega))]; exact hk, hm⟩
     ·try simp only [qB, qN] at hc6
      refine ZL (ZJ (Zx (ZK (Zd (Ze ?_)))))
      obtain rfl : i = (ZU p 9).who.length := by omega
      rw [mixL_end] at hj
      rw [← g5, mixL_end] at hk
      obtain ⟨X3, hg3, hm3⟩ := nm_gh (S := psys x) hj hk hm (by rw [List.length_map]) (by rw [List.length_map]) hne (by omega) (by omega)
      refine Yy (hg3 _ _) ?_
      refine ZO [0, 1, 3, 4, 2, 5, 6, 7, 8] #[0, 0, 3, 0, 0, 23, 63, 127, 255] XH2 XH2 XH2 ?_
      refine Oo Zi .calm rfl (Zb (.inl rfl) rfl) ?_
      refine Oo Zi .look rfl (W5r rfl rfl rfl rfl rfl) ?_
      refine Oo Zi .calm rfl (Zb (.inl rfl) rfl) ?_
      refine Yg (env' := Zi) (x := .look _ _) rfl rfl rfl (W2b rfl rfl rfl rfl rfl) rfl rfl rfl ?_
      refine ZZ (env' := Zi) rfl rfl rfl rfl rfl (by exact Can_b 0 (nmQ t (ZU p 9)) (nm_L hL)) XH6 rfl rfl ?_
      refine ZZ (env' := Zi) rfl rfl rfl rfl rfl (by exact Cut_few _ p 9) XH6 rfl rfl ?_
      refine ZZ (env' := Zi) rfl rfl rfl rfl rfl (by exact Can_b _ (ZU p 9) hL) XH6 rfl rfl ?_
      refine Oo Zi .calm rfl (v_is true rfl (by rw [nm_some g hP hl]; simp)) ?_
      refine Oo Zi .calm rfl (Zb (.inr rfl) rfl) ?_
      refine O_nilP [(3, 4)] XH2 (And.intro ⟨_, _, _, _, ⟨(gA (gA (gA (gA (gA (gL XH2)))))), (gA (gA (gA (gA (gL XH2))))), And.intro (W2b rfl rfl rfl rfl rfl) (W2b rfl rfl rfl rfl rfl)⟩⟩ (trivial)) ?_
      refine Zd ?_
      try refine YB (List.append_assoc _ _ _) ?_
      refine Zl ?_
      refine W10 (.inr rfl) (Zh rfl rfl) ?_
      exact ⟨rfl, rfl⟩
theorem SolveNames_walk0 {x : SW} (H : Zc) (p : Pb) (us : List Int) (hu : -9223372036854775808 ≤ p.users ∧ p.users < 9223372036854775808) (hnw : (ZU p 9).who = []) : F (psys x) 4 [.agg (pbB p), fzI us] H fun v G => v = .bool true ∧ G = H := by
 have hL := fewP_L (m := 9) hu
 refine Zu Tryd.func4 rfl Zi rfl ?_
 refine Ze (Za ?_)
 refine Lo Zi (Zy rfl rfl rfl) ?_
 refine Lo Zi (Zg (VVal.bool false) (.inr rfl) rfl) ?_
 refine Zf (Zd (Ze ?_))
 refine Yy (Gh.freezePtrL (cs := pbB p) 2 0 rfl rfl rfl) ?_
 refine Za ?_
 refine Lo Zi (W2b rfl rfl rfl rfl rfl) ?_
 refine ZC rfl rfl rfl (by exact Few_spec _ p 9 hu) ?_
 rintro _ _ ⟨rfl, rfl⟩
 refine Le Zi ?_
 refine Lo Zi (ZF rfl rfl) ?_
 refine Lo Zi (W13 rfl rfl rfl rfl rfl rfl rfl) ?_
 refine Zf (Zd (Ze ?_))
 refine Yy (Gh.freezePtrL (cs := pbB (ZU p 9)) 5 1 rfl rfl rfl) ?_
 refine Za ?_
 refine ZC rfl rfl rfl (by exact sNew_spec _) ?_
 rintro _ _ ⟨rfl, rfl⟩; rw [List.append_assoc, List.length_append]
 refine Le Zi ?_
 refine Lo Zi (Zb (.inr rfl) rfl) ?_
 refine Zf (Zd (Ze (Ze (Za ?_))))
 refine Lo Zi (Zb (.inl rfl) rfl) ?_
 refine Lo Zi (v_is false rfl rfl) ?_
 refine Lo Zi (Zb (.inl rfl) rfl) ?_
 refine ZC rfl rfl rfl (by exact wakes_spec _) ?_
 rintro _ _ ⟨rfl, rfl⟩
 refine Le Zi ?_
 refine Lo Zi (rfl) ?_
 refine Lo Zi (Yk rfl rfl rfl) ?_
 refine Zf (Zd ?_)
 refine Z7 rfl rfl ?_
 refine Zn (Zd (Ze (Ze (Za ?_))))
 refine Lo Zi (W2b rfl rfl rfl rfl rfl) ?_
 refine ZC rfl rfl rfl (by exact Cut_few _ p 9) ?_
 rintro _ _ ⟨rfl, rfl⟩
 refine Le Zi ?_
 refine ZC rfl rfl rfl (by exact Yz _ (ZU p 9) hL) ?_
 rintro _ _ ⟨rfl, rfl⟩
 refine Le Zi ?_
 refine Lo Zi (rfl) ?_
 refine Lo Zi (Zb (.inl rfl) rfl) ?_
 refine ZM 28 (env1 := Zi) (env2 := Zi) rfl rfl rfl (fun hg1 => ?_) (fun hg1 => ?_)
 ·try simp only [qB, qN] at hg1
  refine Lf Zi ?_
  refine Lf Zi ?_
  refine Lf Zi ?_
  refine Lo Zi (Yl (VVal.bool true) rfl rfl rfl) ?_
  refine Zf (Zd ?_)
  refine Z0 rfl rfl ?_
  refine Ze (Za ?_)
  refine Lo Zi (Zg (VVal.bool true) (.inr rfl) rfl) ?_
  refine Zf (Zd ?_)
  try refine YB (List.append_assoc _ _ _) ?_
  refine Zl (Zr ?_)
  refine W10 (.inr rfl) (Zh rfl rfl) ?_
  exact ⟨rfl, rfl⟩
 ·try simp only [qB, qN] at hg1
  refine Lo Zi (rfl) ?_
  refine Lo Zi (W2d rfl rfl rfl rfl) ?_
  refine Lo Zi (rfl) ?_
  refine Lo Zi (Yk rfl rfl rfl) ?_
  refine Zf (Zd ?_)
  refine Zo _ rfl (fun hc2 => ?_) (fun hc2 => ?_)
  ·try simp only [qB, qN] at hc2
   refine Ze (Za ?_)
   refine Lo Zi (Zg (VVal.bool true) (.inr rfl) rfl) ?_
   refine Zf (Zd ?_)
   try refine YB (List.append_assoc _ _ _) ?_
   refine Zl (Zr ?_)
   refine W10 (.inr rfl) (Zh rfl rfl) ?_
   exact ⟨rfl, rfl⟩
  ·try simp only [qB, qN] at hc2
   refine Zn (Zd (Ze ?_))
   have h0 : pck (ZU p 9) = 0 := by first | assumption | simp_all
   have g := pck_good.1 h0
   have g2 := g.u64; have g4 := g.u0; have g5 := g.fx
   have hU1 : 1 ≤ (ZU p 9).users := by omega
   have gn12 := g.n12
   have hz : (ZU p 9).who.length = 0 := by rw [hnw]; rfl
   refine Za ?_
   refine Lo Zi (rfl) ?_
   refine Lo Zi (W2d rfl rfl rfl rfl) ?_
   refine Lo Zi (v_makeSlice rfl rfl rfl rfl rfl (by decide) ⟨by omega, Int.le_refl _, by show (ZU p 9).users * (8 : Nat) ≤ _; omega, by omega⟩) ?_
   refine Lo Zi (Zb (.inr rfl) rfl) ?_
   refine Zf (Zd (Ze (Ze (Za ?_))))
   refine Lo Zi (Zg (VVal.int .i64 0) (.inr rfl) rfl) ?_
   refine Zf (Zd (Zm ?_))
   refine ZE (mk 167 187072209578355573530071658587684226515959365500445) (env' := Zi) rfl ?_
   refine ZN (fun (i : Nat) => (ZU p 9).users.toNat - i) (fun (i : Nat) => [(8, iI (i : Nat))]) (fun (i : Nat) G => (i ≤ (ZU p 9).users.toNat) ∧ G = (H ++ [VBlk.dead, VBlk.dead, gaB 0, VBlk.cells ((idT (ZU p 9).users.toNat i).map iI) true])) 0 rfl ?_ ?_
   ·refine ⟨?_, (by show _ ++ [VBlk.dead, VBlk.dead, gaB 0, VBlk.cells (Zv [VVal.int .i64 0] _) true] = _; rw [idT_0])⟩
    exact Nat.zero_le _
   rintro i _ ⟨hi, rfl⟩
   refine ZW (env' := Zi) rfl ?_
   refine Ze (Ze (Za ?_))
   refine Lo Zi (Zb (.inl rfl) rfl) ?_
   refine Lo Zi (rfl) ?_
   refine Lo Zi (W2d rfl rfl rfl rfl) ?_
   refine Lo Zi (rfl) ?_
   refine Zf (Zd ?_)
   refine Zo _ rfl (fun hc3 => ?_) (fun hc3 => ?_)
   ·try simp only [qB, qN] at hc3
    refine Zn (Zd (Ze (Zm (Za ?_))))
    refine Lo Zi (Zb (.inl rfl) rfl) ?_
    refine Lo Zi (Zb (.inl rfl) rfl) ?_
    refine Lo Zi (Zb (.inl rfl) rfl) ?_
    refine Lo Zi (W18 rfl rfl rfl rfl rfl rfl rfl) ?_
    refine Lo Zi (W5f rfl rfl rfl rfl rfl rfl rfl) ?_
    refine Zf (ZA (Zd (Za ?_)))
    refine Lo Zi (Zb (.inl rfl) rfl) ?_
    refine Lo Zi (W14 rfl rfl rfl) ?_
    refine Lo Zi (Zb (.inr rfl) rfl) ?_
    refine Zf ?_
    refine Zw (mk 167 187072209578355573530071658587684226515959365500445) (env' := Zi) rfl ⟨i + 1, ?_, rfl, ?_⟩
    ·first | omega | (simp only []; omega)
    ·exact ⟨by omega, rfl⟩
   ·try simp only [qB, qN] at hc3
    refine ZL (ZJ (Zx (ZK (Zd ?_))))
    refine B_seqJ (mk 167 187072209578355573530071658587684226515959365500703) (fun (t : List Int) => []) (fun (t : List Int) G => (Pm t ∧ t.length = (ZU p 9).users.toNat) ∧ G = (H ++ [VBlk.dead, VBlk.dead, gaB 0, VBlk.cells ((t).map iI) true])) ?_ ?_
    ·skip
     refine Ze (Za ?_)
     refine Lo Zi (Zg (VVal.int .i64 0) (.inr rfl) rfl) ?_
     refine Zf (Zd (Zm ?_))
     refine ZE (mk 167 187072209578355573530071658587684226515959365500189) (env' := Zi) rfl ?_
     refine ZN (fun (⟨k, t⟩ : Nat × List Int) => 202 - k) (fun (⟨k, t⟩ : Nat × List Int) => [(9, iI (k : Nat))]) (fun (⟨k, t⟩ : Nat × List Int) G => (k ≤ 201 ∧ Pm t ∧ t.length = (ZU p 9).users.toNat) ∧ G = (H ++ [VBlk.dead, VBlk.dead, gaB 0, VBlk.cells ((t).map iI) true])) ⟨0, idT (ZU p 9).users.toNat (ZU p 9).users.toNat⟩ rfl ?_ ?_
     ·refine ⟨?_, (by rw [show i = (ZU p 9).users.toNat by omega])⟩
      exact ⟨Nat.zero_le _, idT_Pm, YK⟩
     rintro ⟨k, t⟩ _ ⟨⟨hk1, hP, hl⟩, rfl⟩
     refine ZW (env' := Zi) rfl ?_
     refine Ze (Ze (Za ?_))
     refine Lo Zi (Zb (.inl rfl) rfl) ?_
     refine Lo Zi (W14 rfl rfl rfl) ?_
     refine Lo Zi (Zb (.inl rfl) rfl) ?_
     refine Lo Zi (rfl) ?_
     refine Lo Zi (rfl) ?_
     refine Lo Zi (Zb (.inl rfl) rfl) ?_
     refine ZM 51 (env1 := Zi) (env2 := Zi) rfl rfl rfl (fun hg4 => ?_) (fun hg4 => ?_)
     ·try simp only [qB, qN] at hg4
      refine Lo Zi (Zb (.inl rfl) rfl) ?_
      refine Lo Zi (rfl) ?_
      refine Lo Zi (ZI rfl rfl rfl) ?_
      refine Zf (Zd ?_)
      refine Zo _ rfl (fun hc5 => ?_) (fun hc5 => ?_)
      ·try simp only [qB, qN] at hc5
       refine Zn (Zd (Ze (Zm (Ze ?_))))
       obtain ⟨hx1, a, hae, hau⟩ := tm_n (us.getD k 0) hU1
       refine ZO [0, 1, 2, 3, 4, 5, 6, 7, 8, 9, 10, 11, 12, 13] #[0, 0, 3, 7, 0, 16, 63, 0, 128, 511, 0, 1024, 4095, 8191] XH2 XH2 XH2 ?_
       refine Oo Zi .calm rfl (Zb (.inl rfl) rfl) ?_
       refine Oo Zi .calm rfl (Zb (.inl rfl) rfl) ?_
       refine Oo Zi .calm rfl (W18 rfl rfl rfl rfl rfl rfl rfl) ?_
       refine Oo Zi .look rfl (W1f rfl rfl rfl rfl) ?_
       refine Oo Zi .calm rfl (rfl) ?_
       refine Oo Zi .look rfl (W2d rfl rfl rfl rfl) ?_
       refine Oo Zi .calm rfl (v_rem rfl rfl rfl XH3) ?_
       refine Oo Zi .calm rfl (rfl) ?_
       refine Oo Zi .look rfl (W2d rfl rfl rfl rfl) ?_
       refine Oo Zi .calm rfl (W14 rfl rfl rfl) ?_
       refine Oo Zi .calm rfl (rfl) ?_
       refine Oo Zi .look rfl (W2d rfl rfl rfl rfl) ?_
       refine Oo Zi .calm rfl (v_rem rfl rfl rfl XH3) ?_
       refine Oo Zi .calm rfl (Zb (.inr rfl) rfl) ?_
       refine ZP [] XH2 (trivial) ?_
       refine Zd (Ze ?_)
       rw [hae]
       obtain ⟨hx2, b, hbe, hbu⟩ := tm_n (us.getD (k + 1) 0) hU1
       refine ZO [0, 1, 2, 3, 4, 5, 6, 7, 8, 9, 10, 11, 12, 13, 14] #[0, 0, 2, 7, 15, 0, 32, 127, 0, 256, 1023, 0, 2048, 8191, 16383] XH2 XH2 XH2 ?_
       refine Oo Zi .calm rfl (Zb (.inl rfl) rfl) ?_
       refine Oo Zi .calm rfl (Zb (.inl rfl) rfl) ?_
       refine Oo Zi .calm rfl (W14 rfl rfl rfl) ?_
       refine Oo Zi .calm rfl (W18 rfl rfl rfl rfl rfl rfl rfl) ?_
       refine Oo Zi .look rfl (W5i rfl rfl rfl rfl) ?_
       refine Oo Zi .calm rfl (rfl) ?_
       refine Oo Zi .look rfl (W2d rfl rfl rfl rfl) ?_
       refine Oo Zi .calm rfl (v_rem rfl rfl rfl XH3) ?_
       refine Oo Zi .calm rfl (rfl) ?_
       refine Oo Zi .look rfl (W2d rfl rfl rfl rfl) ?_
       refine Oo Zi .calm rfl (W14 rfl rfl rfl) ?_
       refine Oo Zi .calm rfl (rfl) ?_
       refine Oo Zi .look rfl (W2d rfl rfl rfl rfl) ?_
       refine Oo Zi .calm rfl (v_rem rfl rfl rfl XH3) ?_
       refine Oo Zi .calm rfl (Zb (.inr rfl) rfl) ?_
       refine ZP [] XH2 (trivial) ?_
       refine Zd ?_
       rw [hbe]
       refine ZO [0, 1, 2, 3, 4, 5, 6, 7, 8, 9, 10, 11, 12, 13, 14, 15] #[0, 0, 0, 0, 0, 0, 48, 112, 0, 0, 768, 1792, 4083, 8179, 16383, 32767] XH2 XH2 XH2 ?_
       refine Oo Zi .calm rfl (Zb (.inl rfl) rfl) ?_
       refine Oo Zi .calm rfl (Zb (.inl rfl) rfl) ?_
       refine Oo Zi .calm rfl (Zb (.inl rfl) rfl) ?_
       refine Oo Zi .calm rfl (Zb (.inl rfl) rfl) ?_
       refine Oo Zi .calm rfl (Zb (.inl rfl) rfl) ?_
       refine Oo Zi .calm rfl (Zb (.inl rfl) rfl) ?_
       refine Oo Zi .calm rfl (W18 rfl rfl rfl rfl rfl rfl rfl) ?_
       refine Oo Zi .look rfl (W5j rfl rfl rfl rfl) ?_
       refine Oo Zi .calm rfl (Zb (.inl rfl) rfl) ?_
       refine Oo Zi .calm rfl (Zb (.inl rfl) rfl) ?_
       refine Oo Zi .calm rfl (W18 rfl rfl rfl rfl rfl rfl rfl) ?_
       refine Oo Zi .look rfl (W5j rfl rfl rfl rfl) ?_
       refine Oo Zi .calm rfl (W18 rfl rfl rfl rfl rfl rfl rfl) ?_
       refine Oo Zi .turn rfl (W5k rfl rfl rfl rfl rfl rfl rfl) ?_
       refine Oo Zi .calm rfl (W18 rfl rfl rfl rfl rfl rfl rfl) ?_
       refine Oo Zi .turn rfl (W5l rfl rfl rfl rfl rfl rfl rfl) ?_
       refine ZP [] XH2 (trivial) ?_
       refine ZA (Zd (Za ?_))
       refine Lo Zi (Zb (.inl rfl) rfl) ?_
       refine Lo Zi (W14 rfl rfl rfl) ?_
       refine Lo Zi (Zb (.inr rfl) rfl) ?_
       refine Zf ?_
       refine Zw (mk 167 187072209578355573530071658587684226515959365500189) (env' := Zi) rfl ⟨⟨k + 2, (t.set a (t.getD b 0)).set b (t.getD a 0)⟩, ?_, rfl, ?_⟩
       ·first | omega | (simp only []; omega)
       ·exact ⟨⟨by omega, hP.swap (a := a) (b := b) (by omega) (by omega), by rw [List.length_set, List.length_set]; exact hl⟩, rfl⟩
      ·try simp only [qB, qN] at hc5
       refine ZL (ZJ (Zx (ZK ?_)))
       refine Zw (mk 167 187072209578355573530071658587684226515959365500703) (env' := Zi) rfl ⟨t, rfl, ?_⟩
       exact ⟨⟨hP, hl⟩, rfl⟩
     ·try simp only [qB, qN] at hg4
      refine Lf Zi ?_
      refine Lf Zi ?_
      refine Lo Zi (Zz (VVal.bool false) rfl rfl rfl) ?_
      refine Zf (Zd ?_)
      refine Z7 rfl rfl ?_
      refine ZL (ZJ (Zx (ZK ?_)))
      refine Zw (mk 167 187072209578355573530071658587684226515959365500703) (env' := Zi) rfl ⟨t, rfl, ?_⟩
      exact ⟨⟨hP, hl⟩, rfl⟩
    ·rintro t _ ⟨⟨hP, hl⟩, rfl⟩
     refine ZW (env' := Zi) rfl ?_
     refine Ze ?_
     refine Yy (Gh.freezeL (l := t.map iI) 7 3 rfl rfl (YL (by rw [List.length_map]; exact hl.symm)) (Nat.le_refl _) rfl) ?_
     refine Za ?_
     refine Lo Zi (W2b rfl rfl rfl rfl rfl) ?_
     refine ZC rfl rfl rfl (by exact Cut_few _ p 9) ?_
     rintro _ _ ⟨rfl, rfl⟩
     refine Le Zi ?_
     refine Lo Zi (ZF rfl rfl) ?_
     refine Lo Zi (W13 rfl rfl rfl rfl rfl rfl rfl) ?_
     refine Zf (Zd (Ze (Ze ?_)))
     refine Yy (Gh.freezePtrL (cs := pbB (ZU p 9)) 12 4 rfl rfl rfl) ?_
     refine Za ?_
     refine Lo Zi (Zg (VVal.int .i64 0) (.inr rfl) rfl) ?_
     refine Zf (Zd (Zm ?_))
     refine ZE (mk 167 187072209578355573530071658587684226515959365488415) (env' := Zi) rfl ?_
     refine ZN (fun (i : Nat) => 0 - i) (fun (i : Nat) => [(13, iI (i : Nat))]) (fun (i : Nat) G => (i ≤ 0) ∧ G = H ++ [VBlk.dead, VBlk.dead, gaB 0, VBlk.dead, VBlk.dead]) 0 rfl ?_ ?_
     ·refine ⟨?_, rfl⟩
      exact Nat.zero_le _
     rintro i _ ⟨hi, rfl⟩
     refine ZW (env' := Zi) rfl ?_
     refine Ze (Ze (Za ?_))
     refine Lo Zi (Zb (.inl rfl) rfl) ?_
     refine Lo Zi (rfl) ?_
     refine Lo Zi (W2d rfl rfl rfl rfl) ?_
     refine Lo Zi (rfl) ?_
     refine Lo Zi (rfl) ?_
     refine Zf (Zd ?_)
     refine Zo _ rfl (fun hc6 => ?_) (fun hc6 => ?_)
     ·try simp only [qB, qN] at hc6
      exact absurd hc6 (by rw [hz]; omega)
     ·try simp only [qB, qN] at hc6
      refine ZL (ZJ (Zx (ZK (Zd (Ze ?_)))))
      refine YB (H' := (H ++ [VBlk.dead, VBlk.dead, gaB 0, VBlk.dead]) ++ [VBlk.dead]) (by simp) ?_
      refine ZO [0, 1, 3, 4, 2, 5, 6, 7, 8] #[0, 0, 3, 0, 0, 23, 63, 127, 255] XH2 XH2 XH2 ?_
      refine Oo Zi .calm rfl (Zb (.inl rfl) rfl) ?_
      refine Oo Zi .look rfl (W2b rfl rfl rfl rfl rfl) ?_
      refine Oo Zi .calm rfl (Zb (.inl rfl) rfl) ?_
      refine Yg (env' := Zi) (x := .look _ _) rfl rfl rfl (W2b rfl rfl rfl rfl rfl) rfl rfl rfl ?_
      refine ZZ (env' := Zi) rfl rfl rfl rfl rfl (by exact Can_b 0 (ZU p 9) hL) XH6 rfl rfl ?_
      refine ZZ (env' := Zi) rfl rfl rfl rfl rfl (by exact Cut_few _ p 9) XH6 rfl rfl ?_
      refine ZZ (env' := Zi) rfl rfl rfl rfl rfl (by exact Can_b _ (ZU p 9) hL) XH6 rfl rfl ?_
      refine Oo Zi .calm rfl (v_is true rfl (by simp)) ?_
      refine Oo Zi .calm rfl (Zb (.inr rfl) rfl) ?_
      refine O_nilP [(3, 4)] XH2 (And.intro ⟨_, _, _, _, ⟨(gA (gA (gA (gA (gA (gL XH2)))))), (gA (gA (gA (gA (gL XH2))))), And.intro (W2b rfl rfl rfl rfl rfl) (W2b rfl rfl rfl rfl rfl)⟩⟩ (trivial)) ?_
      refine Zd ?_
      try refine YB (List.append_assoc _ _ _) ?_
      refine Zl ?_
      refine W10 (.inr rfl) (Zh rfl rfl) ?_
      exact ⟨rfl, rfl⟩
end Go.Proofs.YtenkjadobkjaeaaDoor.VT
