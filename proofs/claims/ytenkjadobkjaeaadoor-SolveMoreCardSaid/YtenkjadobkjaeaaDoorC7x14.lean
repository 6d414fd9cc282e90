/- Proved: Rows.SolveMoreCardSaid, the statement SolveMore with its card, of the given program at the commit; no conditions beyond those in the statement. -/
import Derived.Test.YtenkjadobkjaeaaDoorC7x13
set_option autoImplicit false
set_option linter.unusedVariables false
set_option linter.unusedSimpArgs false
set_option maxHeartbeats 4000000
set_option maxRecDepth 100000
namespace Go.Proofs.YtenkjadobkjaeaaDoor.VT
open Go Go.V Go.RowKit
abbrev u26 {a0 a1 a2 a3 a4 a5 a6 a7 a8 a9 a10 a11 a12 a13 a14 a15 a16 a17 a18 a19 a20 a21 a22 a23 a24 a25 : VVal} : VEnv := a0 :: a1 :: a2 :: a3 :: a4 :: a5 :: a6 :: a7 :: a8 :: a9 :: a10 :: a11 :: a12 :: a13 :: a14 :: a15 :: a16 :: a17 :: a18 :: a19 :: a20 :: a21 :: a22 :: a23 :: a24 :: a25 :: []
abbrev u41 {a0 a1 a2 a3 a4 a5 a6 a7 a8 a9 a10 a11 a12 a13 a14 a15 a16 a17 a18 a19 a20 a21 a22 a23 a24 a25 a26 a27 a28 a29 a30 a31 a32 a33 a34 a35 a36 a37 a38 a39 a40 : VVal} : VEnv := a0 :: a1 :: a2 :: a3 :: a4 :: a5 :: a6 :: a7 :: a8 :: a9 :: a10 :: a11 :: a12 :: a13 :: a14 :: a15 :: a16 :: a17 :: a18 :: a19 :: a20 :: a21 :: a22 :: a23 :: a24 :: a25 :: a26 :: a27 :: a28 :: a29 :: a30 :: a31 :: a32 :: a33 :: a34 :: a35 :: a36 :: a37 :: a38 :: a39 :: a40 :: []
theorem W51 {T : TypeId → Option VTy} {H : Ze} {op : Op} {ρ : Operand → VVal} {t : TypeId} {a : Operand} {y : VTy} {p v : VVal} (ho : op = .load t a) (ha : ρ a = p) (hy : T t = some y) (hd : Zm y.desc = false) (h : LdOk H p v := by first | exact .inl ⟨_, _, rfl, by first | rfl | exact fgetN (α := Int) 0 (by omega)⟩ | exact .inr ⟨_, _, _, _, rfl, XH35, by first | rfl | exact fgetN (α := Int) 0 (by omega)⟩) : vop T ρ H op = some (v, H) := v_ld ho ha hy hd h
theorem kInts_spec {x : SW} (H : Ze) (l r : List (Int)) (h1 : l.length ≤ 1000000) : F (psys x) 23 [fzI l, fzI r] H fun v G => v = .bool (decide (l = r)) ∧ G = H := by
 refine Zy Tryd.func23 rfl u26 rfl ?_
 refine Zd (Za ?_)
 refine Lo u26 (Zj (VVal.bool false) (.inr rfl) rfl) ?_
 refine Zf (Zc (Zd (Zd (Za ?_))))
 refine Lo u26 (Zb (.inl rfl) rfl) ?_
 refine Lo u26 (rfl) ?_
 refine Lo u26 (Zb (.inl rfl) rfl) ?_
 refine Lo u26 (rfl) ?_
 refine Lo u26 (rfl) ?_
 refine Zf (Zc ?_)
 refine Zo _ rfl (fun hc1 => ?_) (fun hc1 => ?_)
 ·try simp only [qB, qN] at hc1
  refine Zd (Za ?_)
  refine Lo u26 (Zj (VVal.bool false) (.inr rfl) rfl) ?_
  refine Zf (Zc (Zn (Zu ?_)))
  refine W10 (.inr rfl) (Zi rfl rfl) ?_
  exact ⟨by rw [decide_eq_false (fun e => by rw [e] at hc1; omega)], rfl⟩
 ·try simp only [qB, qN] at hc1
  refine Zl (Zc (Zd (Zd (Za ?_))))
  refine Lo u26 (Zj (VVal.int .i64 0) (.inr rfl) rfl) ?_
  refine Zf (Zc (Zp ?_))
  refine ZI (mk 26 67108828) (env' := u26) rfl ?_
  refine ZP (fun (k : Nat) => l.length - k) (fun (k : Nat) => [(5, iI (k : Nat))]) (fun (k : Nat) G => (k ≤ l.length ∧ ∀ j, j < k → l.getD j 0 = r.getD j 0) ∧ G = H ++ []) 0 rfl ?_ ?_
  ·refine ⟨?_, rfl⟩
   exact ⟨Nat.zero_le _, fun j h => by omega⟩
  rintro k _ ⟨⟨hk, hall⟩, rfl⟩
  refine ZZ (env' := u26) rfl ?_
  refine Zd (Zd (Za ?_))
  refine Lo u26 (Zb (.inl rfl) rfl) ?_
  refine Lo u26 (Zb (.inl rfl) rfl) ?_
  refine Lo u26 (rfl) ?_
  refine Lo u26 (rfl) ?_
  refine Zf (Zc ?_)
  refine Zo _ rfl (fun hc2 => ?_) (fun hc2 => ?_)
  ·try simp only [qB, qN] at hc2
   refine Zl (Zc (Zd (Zp (Zd ?_))))
   refine ZS [0, 1, 2, 3, 4, 5, 6, 7, 8] #[0, 0, 3, 7, 0, 0, 48, 112, 255] XH2 XH2 XH2 ?_
   refine Oo u26 .calm rfl (Zb (.inl rfl) rfl) ?_
   refine Oo u26 .calm rfl (Zb (.inl rfl) rfl) ?_
   refine Oo u26 .calm rfl (W18 rfl rfl rfl rfl rfl rfl rfl) ?_
   refine Oo u26 .look rfl (W51 rfl rfl rfl rfl) ?_
   refine Oo u26 .calm rfl (Zb (.inl rfl) rfl) ?_
   refine Oo u26 .calm rfl (Zb (.inl rfl) rfl) ?_
   refine Oo u26 .calm rfl (W18 rfl rfl rfl rfl rfl rfl rfl) ?_
   refine Oo u26 .look rfl (W51 rfl rfl rfl rfl) ?_
   refine Oo u26 .calm rfl (rfl) ?_
   refine ZR [] XH2 (trivial) ?_
   refine Zc ?_
   refine Zo _ rfl (fun hc3 => ?_) (fun hc3 => ?_)
   ·try simp only [qB, qN] at hc3
    refine Zd (Za ?_)
    refine Lo u26 (Zj (VVal.bool false) (.inr rfl) rfl) ?_
    refine Zf (Zc (Zn (ZU (Zu (YH (ZU (Zu ?_)))))))
    refine W10 (.inr rfl) (Zi rfl rfl) ?_
    exact ⟨by rw [decide_eq_false (fun e => by subst e; exact hc3 rfl)], rfl⟩
   ·try simp only [qB, qN] at hc3
    refine Zl (ZG (Zc (Za ?_)))
    refine Lo u26 (Zb (.inl rfl) rfl) ?_
    refine Lo u26 (W14 rfl rfl rfl) ?_
    refine Lo u26 (Zb (.inr rfl) rfl) ?_
    refine Zf ?_
    refine Zz (mk 26 67108828) (env' := u26) rfl ⟨k + 1, ?_, rfl, ?_⟩
    ·first | omega | (simp only []; omega)
    ·exact ⟨⟨by omega, fun j hj => by by_cases e : j = k; (subst e; assumption); exact hall j (by omega)⟩, rfl⟩
  ·try simp only [qB, qN] at hc2
   refine ZL (ZJ (ZB (ZK (Zc (Zd (Za ?_))))))
   refine Lo u26 (Zj (VVal.bool true) (.inr rfl) rfl) ?_
   refine Zf (Zc (Zn ?_))
   refine W10 (.inr rfl) (Zi rfl rfl) ?_
   have e := eq_getD (d := 0) (by omega) (fun j hj => hall j (by omega))
   exact ⟨by rw [decide_eq_true e], rfl⟩
def pw : Pb := (3, [3#64, 3#64, 4#64], [-1, -1, -1], [(1, 0, [0, 1], ())], ())
theorem wk_le : leA pw = some [0, 1, 2] := by decide +kernel
theorem pw_L : PbL pw := ⟨by decide, by decide, by decide, by decide, fun r hr => by
  have hr : r ∈ [((1 : Int), (0 : Int), [(0 : Int), 1], ())] := hr
  rw [List.mem_singleton] at hr; subst hr; decide⟩
theorem wk_h : hds pw [0, 1, 2] = true := by decide +kernel
theorem wk_c : pck pw = 0 := by decide +kernel
theorem wk_t : leT (leA pw) = .tuple [fzI [0, 1, 2], .bool true] := by rw [wk_le]; rfl
theorem at_get {H L : Ze} {k : VBlk} : (H ++ k :: L)[H.length]? = some k := by rw [List.getElem?_append_right (Nat.le_refl _), Nat.sub_self]; rfl
theorem at_set {H L : Ze} {k k' : VBlk} : (H ++ k :: L).set H.length k' = H ++ k' :: L := by rw [List.set_append_right _ _ (Nat.le_refl _), Nat.sub_self]; rfl
theorem sLeast_at {x : SW} (H L : Ze) (g : Gz) (p : Pb) (hp : PbL p) : F (psys x) 21 [.ptr (some (H.length, 0)), .agg (pbB p)] (H ++ gaB g :: L) fun v G => v = leT (leA p) ∧ G = H ++ gaB (g + leG p) :: L := by
  have := sLeast_spec (x := x) (H ++ gaB g :: L) H.length g at_get p hp
  rw [at_set] at this; exact this
theorem Can_at {x : SW} (H L : Ze) (g : Gz) (p : Pb) (hp : PbL p) : F (psys x) 20 [.ptr (some (H.length, 0)), .agg (pbB p)] (H ++ gaB g :: L) fun v G => v = .bool (leA p).isSome ∧ G = H ++ gaB (g + leG p) :: L := by
  have := Can_spec (x := x) (H ++ gaB g :: L) H.length g at_get p hp
  rw [at_set] at this; exact this
theorem wakes_spec {x : SW} (H : Ze) : F (psys x) 17 [] H fun v G => v = .bool true ∧ G = H := by
 refine Zy Tryd.func17 rfl u41 rfl ?_
 refine Zd (Za ?_)
 refine Lo u41 (Zj (VVal.bool false) (.inr rfl) rfl) ?_
 refine Zf (Zc (Zd (Za ?_)))
 refine Zk rfl rfl rfl (by exact sNew_spec _) ?_
 rintro _ _ ⟨rfl, rfl⟩; rw [List.append_nil]
 refine Le u41 ?_
 refine Lo u41 (Zb (.inr rfl) rfl) ?_
 refine Zf (Zc (Zd (Zd (Za ?_))))
 refine Lo u41 (Zb (.inl rfl) rfl) ?_
 refine Lo u41 (v_is false rfl rfl) ?_
 refine Zf (Zc ?_)
 refine ZA rfl rfl ?_
 refine Zl (Zc (Zd (Za ?_)))
 refine Lo u41 (Zs rfl rfl (by decide) rfl) ?_
 refine Lo u41 (Zs rfl rfl (by decide) rfl) ?_
 refine Lo u41 (Zs rfl rfl (by decide) rfl) ?_
 refine Lo u41 (rfl) ?_
 refine Lo u41 (Zs rfl rfl (by decide) rfl) ?_
 refine Lo u41 (rfl) ?_
 refine Lo u41 (Zw rfl rfl) ?_
 refine Lo u41 (W13 rfl rfl rfl rfl rfl rfl rfl) ?_
 refine Zf (Zc (Zd (Za ?_)))
 refine L_gh (Gh.cellL (l := [iI 0, iI 1]) 4 2 3 rfl rfl (by decide) rfl rfl (Nat.le_refl _)) ?_
 refine L_gh (Gh.cellL (l := [iW 3#64, iW 3#64, iW 4#64]) 5 1 1 rfl rfl (by decide) rfl rfl (Nat.le_refl _)) ?_
 refine L_gh (Gh.cellL (l := [iI (-1), iI (-1), iI (-1)]) 5 2 2 rfl rfl (by decide) rfl rfl (Nat.le_refl _)) ?_
 refine L_gh (Gh.cellL (l := rlB (1, 0, [0, 1], ())) 5 3 4 rfl rfl (by decide) rfl rfl (Nat.le_refl _)) ?_
 refine Lo u41 (Zb (.inl rfl) rfl) ?_
 refine Lo u41 (W11 rfl rfl rfl rfl rfl) ?_
 refine Zk rfl rfl rfl (by exact sLeast_at H _ 0 pw pw_L) ?_
 rintro v _ ⟨hv, rfl⟩; rw [wk_t] at hv; subst hv
 refine Le u41 ?_
 refine Lo u41 (Zb (.inl rfl) rfl) ?_
 refine Lo u41 (rfl) ?_
 refine Lo u41 (rfl) ?_
 refine Lo u41 (Zb (.inr rfl) rfl) ?_
 refine Lo u41 (Zb (.inr rfl) rfl) ?_
 refine Zf (Zc (Zd (Za ?_)))
 refine Lo u41 (Zb (.inl rfl) rfl) ?_
 refine Lo u41 (Zb (.inl rfl) rfl) ?_
 refine Lo u41 (Zb (.inl rfl) rfl) ?_
 refine Lo u41 (Zs rfl rfl (by decide) rfl) ?_
 refine L_gh (Gh.freezeL (l := [iI 0, iI 1, iI 2]) 23 6 rfl rfl rfl (Nat.le_refl _) rfl) ?_
 refine Zk rfl rfl rfl (by exact kInts_spec _ [0, 1, 2] [0, 1, 2] (by decide)) ?_
 rintro v _ ⟨hv, rfl⟩; obtain rfl : v = .bool true := hv.trans (congrArg VVal.bool (by decide))
 refine Le u41 ?_
 refine Lo u41 (Zx rfl rfl rfl) ?_
 refine Lo u41 (Zb (.inl rfl) rfl) ?_
 refine Lo u41 (Zb (.inl rfl) rfl) ?_
 refine Lo u41 (W11 rfl rfl rfl rfl rfl) ?_
 refine Zk rfl rfl rfl (by exact Can_at H _ (0 + leG pw) pw pw_L) ?_
 rintro v _ ⟨hv, rfl⟩; obtain rfl : v = .bool true := hv.trans (congrArg VVal.bool (by rw [wk_le]; rfl))
 refine Le u41 ?_
 refine Lo u41 (Zx rfl rfl rfl) ?_
 refine Lo u41 (Zb (.inl rfl) rfl) ?_
 refine Lo u41 (W11 rfl rfl rfl rfl rfl) ?_
 refine Lo u41 (Zb (.inl rfl) rfl) ?_
 refine Zk rfl rfl rfl (by exact Holds_spec _ pw [0, 1, 2] pw_L (by decide)) ?_
 rintro v _ ⟨hv, rfl⟩; obtain rfl : v = .bool true := hv.trans (congrArg VVal.bool wk_h)
 refine Le u41 ?_
 refine Lo u41 (Zx rfl rfl rfl) ?_
 refine Lo u41 (Zb (.inl rfl) rfl) ?_
 refine Lo u41 (W11 rfl rfl rfl rfl rfl) ?_
 refine Zk rfl rfl rfl (by exact Yo _ pw pw_L) ?_
 rintro v _ ⟨hv, rfl⟩; rw [wk_c] at hv; subst hv
 refine Le u41 ?_
 refine Lo u41 (rfl) ?_
 refine Lo u41 (Zx rfl rfl rfl) ?_
 refine Lo u41 (Zb (.inr rfl) rfl) ?_
 refine Zf (Zc (Zn ?_))
 refine W10 (.inr rfl) (Zi rfl rfl) ?_
 exact ⟨rfl, rfl⟩
theorem Cut_few {x : SW} (H : Ze) (p : Pb) (m : Nat) : F (psys x) 19 [.agg (pbB (Zr p m))] H fun v G => v = .agg (pbB (Zr p m)) ∧ G = H := by
  have := Cut_spec (x := x) H (Zr p m)
  rw [fewP_cut] at this; exact this
theorem row_N {x : SW} (H : Ze) (l : List Nat) (h : l.length ≤ 30) : F (psys x) 22 [fzN l] H fun v G => v = fzN l ∧ G = H := by
  have := row_spec (x := x) H (zI l)
  rw [List.take_of_length_le (by rw [zI_len]; exact h), ← fzN_is] at this; exact this
theorem hds_len' {p : Pb} {l : List Nat} (h : hds p (zI l) = true) : l.length = p.who.length ∧ l.length ≤ 12 := by
  obtain ⟨g, h1, _⟩ := hds_iff.1 h
  rw [zI_len] at h1
  exact ⟨h1, by rw [h1]; exact g.n12⟩
theorem kInts_N {x : SW} (H : Ze) (l : List Nat) (h : l.length ≤ 12) : F (psys x) 23 [fzN l, fzN l] H fun v G => v = .bool true ∧ G = H := by
  have := kInts_spec (x := x) H (zI l) (zI l) (by rw [zI_len]; omega)
  rw [← fzN_is, decide_eq_true rfl] at this; exact this
def CwR (H : Ze) (p : Pb) (v : VVal) (G : Ze) : Prop := ∃ Y j k, v = .agg [iI p.users, .slice (some (H.length + j, 0)) p.who.length p.who.length false 1, .slice (some (H.length + k, 0)) p.fixed.length p.fixed.length false 1, fzR p.rules] ∧ G = H ++ Y ∧ Y[j]? = some (.cells (p.who.map iW) true) ∧ Y[k]? = some (.cells (p.fixed.map iI) true) ∧ j ≠ k
theorem Cut_L {x : SW} (H : Ze) (p : Pb) (hnw : p.who ≠ []) (hnf : p.fixed ≠ []) : F (psys x) 19 [.agg (pbB p)] H (CwR H (cutP p)) := by
 have hw0 : 0 < (p.who.take 20).length := by have := List.length_pos_iff.2 hnw; rw [List.length_take]; omega
 have hf0 : 0 < (p.fixed.take 20).length := by have := List.length_pos_iff.2 hnf; rw [List.length_take]; omega
 refine Zy Tryd.func19 rfl Zh rfl ?_
 refine Zd (Za ?_)
 refine Lo Zh (ZE rfl rfl rfl) ?_
 refine Lo Zh (Zw rfl rfl) ?_
 refine Zf (Zc (Zd (Za ?_)))
 refine L_gh (Gh.freezePtrL (cs := pbB p) 1 0 rfl rfl rfl) ?_
 refine Lo Zh (rfl) ?_
 refine Lo Zh (W1t rfl rfl rfl rfl) ?_
 refine Lo Zh (rfl) ?_
 refine Lo Zh (Zw rfl rfl) ?_
 refine Lo Zh (W13 rfl rfl rfl rfl rfl rfl rfl) ?_
 refine Zf (Zc ?_)
 refine B_seqJ (mk 102 5070602400912917605986812821489) (fun (u0 : Unit) => []) (fun (u0 : Unit) G => (True) ∧ ∃ lv X, G = (H ++ [VBlk.dead, pqB 0 ZQ ZQ ZQ, pqB p.users lv ZQ ZQ]) ++ X ∧ LV (H.length + 3) 1 X lv ((p.who.take 20).map iW) (p.who.take 20).length) ?_ ?_
 ·skip
  refine Zd (Za ?_)
  refine Lo Zh (Zj (VVal.int .i64 0) (.inr rfl) rfl) ?_
  refine Zf (Zc (Zp ?_))
  refine ZI (mk 102 5070602400912917605986812821473) (env' := Zh) rfl ?_
  refine ZP (fun (k : Nat) => p.who.length - k) (fun (k : Nat) => [(4, iI (k : Nat))]) (fun (k : Nat) G => (k ≤ p.who.length ∧ k ≤ 20) ∧ ∃ lv X, G = (H ++ [VBlk.dead, pqB 0 ZQ ZQ ZQ, pqB p.users lv ZQ ZQ]) ++ X ∧ LV (H.length + 3) 1 X lv (((p.who).take k).map iW) ((p.who).take k).length) 0 rfl ?_ ?_
  ·refine ⟨?_, ⟨_, [], (List.append_nil _).symm, LV.nil _ _ _⟩⟩
   exact ⟨Nat.zero_le _, Nat.zero_le _⟩
  rintro k _ ⟨⟨hk1, hk2⟩, ⟨lv, X, rfl, hl⟩⟩
  refine ZZ (env' := Zh) rfl ?_
  refine Zd (Zd (Za ?_))
  refine Lo Zh (Zb (.inl rfl) rfl) ?_
  refine Lo Zh (rfl) ?_
  refine Lo Zh (W1t rfl rfl rfl rfl) ?_
  refine Lo Zh (rfl) ?_
  refine Lo Zh (rfl) ?_
  refine Lo Zh (Zb (.inl rfl) rfl) ?_
  refine ZF 18 (env1 := Zh) (env2 := Zh) rfl rfl rfl (fun hg1 => ?_) (fun hg1 => ?_)
  ·try simp only [qB, qN] at hg1
   refine Lo Zh (Zb (.inl rfl) rfl) ?_
   refine Lo Zh (rfl) ?_
   refine Lo Zh (Zx rfl rfl rfl) ?_
   refine Zf (Zc ?_)
   refine Zo _ rfl (fun hc2 => ?_) (fun hc2 => ?_)
   ·try simp only [qB, qN] at hc2
    refine Zl (Zc (Zd (Zp ?_)))
    refine ZS [0, 1, 2, 3, 4, 5, 6, 7, 8, 9, 10] #[0, 1, 0, 4, 0, 28, 60, 124, 255, 511, 1023] XH2 XH2 XH2 ?_
    refine Oo Zh .calm rfl (rfl) ?_
    refine Oo Zh .look rfl (W1t rfl rfl rfl rfl) ?_
    refine Oo Zh .calm rfl (rfl) ?_
    refine Oo Zh .look rfl (W1t rfl rfl rfl rfl) ?_
    refine Oo Zh .calm rfl (Zb (.inl rfl) rfl) ?_
    refine Oo Zh .calm rfl (W18 rfl rfl rfl rfl rfl rfl rfl) ?_
    refine Oo Zh .look rfl (W1t rfl rfl rfl rfl) ?_
    refine Oo Zh .grow rfl (Zs rfl rfl (by decide) rfl) ?_
    refine O_opX .turn rfl rfl rfl (Ym rfl rfl rfl rfl rfl rfl rfl (by simp) hl rfl rfl (by decide) XH11 (by decide)) rfl rfl ?_
    rintro _ _ ⟨Y1, rfl, rfl, hY1, hY2, hY3⟩
    refine O_env (env' := Zh) rfl ?_
    refine Oo Zh .calm rfl (rfl) ?_
    refine Oo Zh .turn rfl (W13 rfl rfl rfl rfl rfl rfl rfl) ?_
    refine ZR [] XH2 (trivial) ?_
    refine ZG (Zc (Za ?_))
    refine Lo Zh (Zb (.inl rfl) rfl) ?_
    refine Lo Zh (W14 rfl rfl rfl) ?_
    refine Lo Zh (Zb (.inr rfl) rfl) ?_
    refine Zf ?_
    refine Zz (mk 102 5070602400912917605986812821473) (env' := Zh) rfl ⟨k + 1, ?_, rfl, ?_⟩
    ·first | omega | (simp only []; omega)
    ·exact ⟨⟨by omega, by omega⟩, _, _, rfl, by rw [Yb (d := 0) (by omega)]; exact LV.pushW hY3⟩
   ·try simp only [qB, qN] at hc2
    refine ZL (ZJ (ZB (ZK ?_)))
    refine Zz (mk 102 5070602400912917605986812821489) (env' := Zh) rfl ⟨(), rfl, ?_⟩
    exact ⟨trivial, _, _, rfl, by rw [← Z3 (m := 20) hk2 (by omega)]; exact hl⟩
  ·try simp only [qB, qN] at hg1
   refine Lf Zh ?_
   refine Lf Zh ?_
   refine Lo Zh (Zv (VVal.bool false) rfl rfl rfl) ?_
   refine Zf (Zc ?_)
   refine ZA rfl rfl ?_
   refine ZL (ZJ (ZB (ZK ?_)))
   refine Zz (mk 102 5070602400912917605986812821489) (env' := Zh) rfl ⟨(), rfl, ?_⟩
   exact ⟨trivial, _, _, rfl, by rw [← Z3 (m := 20) hk2 (by omega)]; exact hl⟩
 ·rintro u0 _ ⟨_, ⟨wv, X0, rfl, hw⟩⟩
  refine ZZ (env' := Zh) rfl ?_
  refine B_seqJ (mk 102 5070602400912917605986812821489) (fun (u0 : Unit) => []) (fun (u0 : Unit) G => (True) ∧ ∃ lv X, G = (H ++ (VBlk.dead :: pqB 0 ZQ ZQ ZQ :: pqB p.users wv lv ZQ :: X0)) ++ X ∧ LV (H.length + (X0.length + 3)) 1 X lv ((p.fixed.take 20).map iI) (p.fixed.take 20).length) ?_ ?_
  ·skip
   refine Zd ?_
   refine ZW (H' := (H ++ (VBlk.dead :: pqB 0 ZQ ZQ ZQ :: pqB p.users wv ZQ ZQ :: X0)) ++ []) (by simp) ?_
   refine Za ?_
   refine Lo Zh (Zj (VVal.int .i64 0) (.inr rfl) rfl) ?_
   refine Zf (Zc (Zp ?_))
   refine ZI (mk 102 5070602400912917605986812821457) (env' := Zh) rfl ?_
   refine ZP (fun (j : Nat) => p.fixed.length - j) (fun (j : Nat) => [(5, iI (j : Nat))]) (fun (j : Nat) G => (j ≤ p.fixed.length ∧ j ≤ 20) ∧ ∃ lv X, G = (H ++ (VBlk.dead :: pqB 0 ZQ ZQ ZQ :: pqB p.users wv lv ZQ :: X0)) ++ X ∧ LV (H.length + (X0.length + 3)) 1 X lv (((p.fixed).take j).map iI) ((p.fixed).take j).length) 0 rfl ?_ ?_
   ·refine ⟨?_, ⟨_, [], rfl, LV.nil _ _ _⟩⟩
    exact ⟨Nat.zero_le _, Nat.zero_le _⟩
   rintro j _ ⟨⟨hj1, hj2⟩, ⟨lv, X, rfl, hl⟩⟩
   refine ZZ (env' := Zh) rfl ?_
   refine Zd (Zd (Za ?_))
   refine Lo Zh (Zb (.inl rfl) rfl) ?_
   refine Lo Zh (rfl) ?_
   refine Lo Zh (W1t rfl rfl rfl rfl) ?_
   refine Lo Zh (rfl) ?_
   refine Lo Zh (rfl) ?_
   refine Lo Zh (Zb (.inl rfl) rfl) ?_
   refine ZF 39 (env1 := Zh) (env2 := Zh) rfl rfl rfl (fun hg3 => ?_) (fun hg3 => ?_)
   ·try simp only [qB, qN] at hg3
    refine Lo Zh (Zb (.inl rfl) rfl) ?_
    refine Lo Zh (rfl) ?_
    refine Lo Zh (Zx rfl rfl rfl) ?_
    refine Zf (Zc ?_)
    refine Zo _ rfl (fun hc4 => ?_) (fun hc4 => ?_)
    ·try simp only [qB, qN] at hc4
     refine Zl (Zc (Zd (Zp ?_)))
     refine ZS [0, 1, 2, 3, 4, 5, 6, 7, 8, 9, 10] #[0, 1, 0, 4, 0, 28, 60, 124, 255, 511, 1023] XH2 XH2 XH2 ?_
     refine Oo Zh .calm rfl (rfl) ?_
     refine Oo Zh .look rfl (W1t rfl rfl rfl rfl) ?_
     refine Oo Zh .calm rfl (rfl) ?_
     refine Oo Zh .look rfl (W1t rfl rfl rfl rfl) ?_
     refine Oo Zh .calm rfl (Zb (.inl rfl) rfl) ?_
     refine Oo Zh .calm rfl (W18 rfl rfl rfl rfl rfl rfl rfl) ?_
     refine Oo Zh .look rfl (W1t rfl rfl rfl rfl) ?_
     refine Oo Zh .grow rfl (Zs rfl rfl (by decide) rfl) ?_
     refine O_opX .turn rfl rfl rfl (Ym rfl rfl rfl rfl rfl rfl rfl (by simp) hl rfl rfl (by decide) XH11 (by decide)) rfl rfl ?_
     rintro _ _ ⟨Y1, rfl, rfl, hY1, hY2, hY3⟩
     refine O_env (env' := Zh) rfl ?_
     refine Oo Zh .calm rfl (rfl) ?_
     refine Oo Zh .turn rfl (W13 rfl rfl rfl rfl rfl rfl rfl) ?_
     refine ZR [] XH2 (trivial) ?_
     refine ZG (Zc (Za ?_))
     refine Lo Zh (Zb (.inl rfl) rfl) ?_
     refine Lo Zh (W14 rfl rfl rfl) ?_
     refine Lo Zh (Zb (.inr rfl) rfl) ?_
     refine Zf ?_
     refine Zz (mk 102 5070602400912917605986812821457) (env' := Zh) rfl ⟨j + 1, ?_, rfl, ?_⟩
     ·first | omega | (simp only []; omega)
     ·exact ⟨⟨by omega, by omega⟩, _, _, rfl, by rw [Yb (d := 0) (by omega)]; exact LV.pushI hY3⟩
    ·try simp only [qB, qN] at hc4
     refine ZL (ZJ (ZB (ZK ?_)))
     refine Zz (mk 102 5070602400912917605986812821489) (env' := Zh) rfl ⟨(), rfl, ?_⟩
     exact ⟨trivial, _, _, rfl, by rw [← Z3 (m := 20) hj2 (by omega)]; exact hl⟩
   ·try simp only [qB, qN] at hg3
    refine Lf Zh ?_
    refine Lf Zh ?_
    refine Lo Zh (Zv (VVal.bool false) rfl rfl rfl) ?_
    refine Zf (Zc ?_)
    refine ZA rfl rfl ?_
    refine ZL (ZJ (ZB (ZK ?_)))
    refine Zz (mk 102 5070602400912917605986812821489) (env' := Zh) rfl ⟨(), rfl, ?_⟩
    exact ⟨trivial, _, _, rfl, by rw [← Z3 (m := 20) hj2 (by omega)]; exact hl⟩
  ·rintro u0 _ ⟨_, ⟨fv, X1, rfl, hf⟩⟩
   refine ZZ (env' := Zh) rfl ?_
   refine B_seqJ (mk 102 5070602400912917605986812821491) (fun (u0 : Unit) => []) (fun (u0 : Unit) G => (True) ∧ ∃ lv X, G = (H ++ (VBlk.dead :: pqB 0 ZQ ZQ ZQ :: pqB p.users wv fv lv :: (X0 ++ X1))) ++ X ∧ LV (H.length + ((X0 ++ X1).length + 3)) 3 X lv (((p.rules.take 40).map YJ).flatMap rlB) ((p.rules.take 40).map YJ).length) ?_ ?_
   ·skip
    refine Zd ?_
    refine ZW (H' := (H ++ (VBlk.dead :: pqB 0 ZQ ZQ ZQ :: pqB p.users wv fv ZQ :: (X0 ++ X1))) ++ []) (by simp) ?_
    refine Za ?_
    refine Lo Zh (Zj (VVal.int .i64 0) (.inr rfl) rfl) ?_
    refine Zf (Zc (Zp ?_))
    refine ZI (mk 102 5070602400912917605986812821425) (env' := Zh) rfl ?_
    refine ZP (fun (m : Nat) => p.rules.length - m) (fun (m : Nat) => [(6, iI (m : Nat))]) (fun (m : Nat) G => (m ≤ p.rules.length ∧ m ≤ 40) ∧ ∃ lv X, G = (H ++ (VBlk.dead :: pqB 0 ZQ ZQ ZQ :: pqB p.users wv fv lv :: (X0 ++ X1))) ++ X ∧ LV (H.length + ((X0 ++ X1).length + 3)) 3 X lv (((p.rules.take m).map YJ).flatMap rlB) ((p.rules.take m).map YJ).length) 0 rfl ?_ ?_
    ·refine ⟨?_, ⟨_, [], rfl, LV.nil _ _ _⟩⟩
     exact ⟨Nat.zero_le _, Nat.zero_le _⟩
    rintro m _ ⟨⟨hm1, hm2⟩, ⟨lv, X, rfl, hl⟩⟩
    refine ZZ (env' := Zh) rfl ?_
    refine Zd (Zd (Za ?_))
    refine Lo Zh (Zb (.inl rfl) rfl) ?_
    refine Lo Zh (rfl) ?_
    refine Lo Zh (W1t rfl rfl rfl rfl) ?_
    refine Lo Zh (rfl) ?_
    refine Lo Zh (rfl) ?_
    refine Lo Zh (Zb (.inl rfl) rfl) ?_
    refine ZF 60 (env1 := Zh) (env2 := Zh) rfl rfl rfl (fun hg5 => ?_) (fun hg5 => ?_)
    ·try simp only [qB, qN] at hg5
     refine Lo Zh (Zb (.inl rfl) rfl) ?_
     refine Lo Zh (rfl) ?_
     refine Lo Zh (Zx rfl rfl rfl) ?_
     refine Zf (Zc ?_)
     refine Zo _ rfl (fun hc6 => ?_) (fun hc6 => ?_)
     ·try simp only [qB, qN] at hc6
      refine Zl (Zc (Zd (Zp (Zd (Za ?_)))))
      refine Lo Zh (rfl) ?_
      refine Lo Zh (W1t rfl rfl rfl rfl) ?_
      refine Lo Zh (Zb (.inl rfl) rfl) ?_
      refine Lo Zh (W18 rfl rfl rfl rfl rfl rfl rfl) ?_
      refine Lo Zh (W1x rfl rfl rfl rfl rfl) ?_
      refine Lo Zh (Zw rfl rfl) ?_
      refine Lo Zh (W13 rfl rfl rfl rfl rfl rfl rfl) ?_
      refine Zf (Zc (Zd ?_))
      refine Yg (Gh.freezeEnd (cs := rlB (p.rules.getD m r0)) 7 rfl rfl) ?_
      refine Za ?_
      refine Lo Zh (Zj (VVal.slice none 0 0 true 0) (.inr rfl) rfl) ?_
      refine Zf (Zc (Zd (Zd (Za ?_))))
      refine Lo Zh (Zj (VVal.int .i64 0) (.inr rfl) rfl) ?_
      refine Zf (Zc (Zp ?_))
      refine ZI (mk 102 5070602400912917605986812820529) (env' := Zh) rfl ?_
      refine ZP (fun (⟨k, sv⟩ : Nat × VVal) => (p.rules.getD m r0).steps.length - k) (fun (⟨k, sv⟩ : Nat × VVal) => [(8, sv), (9, iI (k : Nat))]) (fun (⟨k, sv⟩ : Nat × VVal) G => (k ≤ (p.rules.getD m r0).steps.length ∧ k ≤ 20) ∧ ∃ X, G = (H ++ (VBlk.dead :: pqB 0 ZQ ZQ ZQ :: pqB p.users wv fv lv :: (X0 ++ X1))) ++ X ∧ LV (H.length + ((X0 ++ X1).length + 3)) 3 X lv (((p.rules.take m).map YJ).flatMap rlB) ((p.rules.take m).map YJ).length ∧ LV (H.length + ((X0 ++ X1).length + 3)) 1 X sv (((p.rules.getD m r0).steps.take k).map iI) ((p.rules.getD m r0).steps.take k).length ∧ ∀ n, Yt lv = some n → Yt sv ≠ some n) ⟨0, _⟩ rfl ?_ ?_
      ·refine ⟨?_, ⟨X ++ [.dead], rfl, LV.app hl _, LV.nil _ _ _, fun n _ e => by cases e⟩⟩
       exact ⟨Nat.zero_le _, Nat.zero_le _⟩
      rintro ⟨k, sv⟩ _ ⟨⟨hk1, hk2⟩, ⟨X3, rfl, hl3, hs, hd⟩⟩
      refine ZZ (env' := Zh) rfl ?_
      refine Zd (Zd (Za ?_))
      refine Lo Zh (Zb (.inl rfl) rfl) ?_
      refine Lo Zh (rfl) ?_
      refine Lo Zh (W1t rfl rfl rfl rfl) ?_
      refine Lo Zh (rfl) ?_
      refine Lo Zh (rfl) ?_
      refine Lo Zh (Zb (.inl rfl) rfl) ?_
      refine ZF 76 (env1 := Zh) (env2 := Zh) rfl rfl rfl (fun hg7 => ?_) (fun hg7 => ?_)
      ·try simp only [qB, qN] at hg7
       refine Lo Zh (Zb (.inl rfl) rfl) ?_
       refine Lo Zh (rfl) ?_
       refine Lo Zh (Zx rfl rfl rfl) ?_
       refine Zf (Zc ?_)
       refine Zo _ rfl (fun hc8 => ?_) (fun hc8 => ?_)
       ·try simp only [qB, qN] at hc8
        refine Zl (Zc (Zd (Zp (Za ?_))))
        refine Lo Zh (Zb (.inl rfl) rfl) ?_
        refine Lo Zh (rfl) ?_
        refine Lo Zh (W1t rfl rfl rfl rfl) ?_
        refine Lo Zh (Zb (.inl rfl) rfl) ?_
        refine Lo Zh (W18 rfl rfl rfl rfl rfl rfl rfl) ?_
        refine Lo Zh (W1t rfl rfl rfl rfl) ?_
        refine Lo Zh (Zs rfl rfl (by decide) rfl) ?_
        refine L_opX rfl rfl (Ym rfl rfl rfl rfl rfl rfl rfl (by simp) hs rfl rfl (by decide) XH11 (by decide)) ?_
        rintro _ _ ⟨Y1, rfl, rfl, hY1, hY2, hY3⟩
        refine Le Zh ?_
        refine Lo Zh (Zb (.inr rfl) rfl) ?_
        refine Zf (ZG (Zc (Za ?_)))
        refine Lo Zh (Zb (.inl rfl) rfl) ?_
        refine Lo Zh (W14 rfl rfl rfl) ?_
        refine Lo Zh (Zb (.inr rfl) rfl) ?_
        refine Zf ?_
        refine Zz (mk 102 5070602400912917605986812820529) (env' := Zh) rfl ⟨⟨k + 1, _⟩, ?_, rfl, ?_⟩
        ·first | omega | (simp only []; omega)
        ·exact ⟨⟨by omega, by omega⟩, _, rfl, LV.app (LV.keep hl3 hd hY2) _, by rw [Yb (d := 0) (by omega)]; exact LV.pushI hY3, LV.far hl3 (Nat.le_succ _)⟩
       ·try simp only [qB, qN] at hc8
        refine ZL (ZJ (ZB (ZK (Zc ?_))))
        rw [Z3 (m := 20) hk2 (by omega)] at hs
        refine B_ghLVh (env' := Zh) 8 hs (by simp) rfl rfl fun X4 hX4 hF4 => ?_
        have hl4 := LV.keep hl3 hd hF4
        refine Za ?_
        refine Lo Zh (rfl) ?_
        refine Lo Zh (W1t rfl rfl rfl rfl) ?_
        refine Lo Zh (rfl) ?_
        refine Lo Zh (W1t rfl rfl rfl rfl) ?_
        refine Lo Zh (rfl) ?_
        refine Lo Zh (W1t rfl rfl rfl rfl) ?_
        refine Lo Zh (Zb (.inl rfl) rfl) ?_
        refine Lo Zh (rfl) ?_
        refine Lo Zh (Zs rfl rfl (by decide) rfl) ?_
        refine L_opX rfl rfl (Ym rfl rfl rfl rfl rfl rfl rfl (by simp) hl4 rfl rfl (by decide) XH12 (by decide)) ?_
        rintro _ _ ⟨Y1, rfl, rfl, hY1, hY2, hY3⟩
        refine Le Zh ?_
        refine Lo Zh (rfl) ?_
        refine Lo Zh (W13 rfl rfl rfl rfl rfl rfl rfl) ?_
        refine Zf (ZG (Zc (Za ?_)))
        refine Lo Zh (Zb (.inl rfl) rfl) ?_
        refine Lo Zh (W14 rfl rfl rfl) ?_
        refine Lo Zh (Zb (.inr rfl) rfl) ?_
        refine Zf ?_
        refine Zz (mk 102 5070602400912917605986812821425) (env' := Zh) rfl ⟨m + 1, ?_, rfl, ?_⟩
        ·first | omega | (simp only []; omega)
        ·exact ⟨⟨by omega, by omega⟩, _, _, rfl, by rw [cutR_step (by omega)]; exact LV.pushF hY3⟩
      ·try simp only [qB, qN] at hg7
       refine Lf Zh ?_
       refine Lf Zh ?_
       refine Lo Zh (Zv (VVal.bool false) rfl rfl rfl) ?_
       refine Zf (Zc ?_)
       refine ZA rfl rfl ?_
       refine ZL (ZJ (ZB (ZK (Zc ?_))))
       rw [Z3 (m := 20) hk2 (by omega)] at hs
       refine B_ghLVh (env' := Zh) 8 hs (by simp) rfl rfl fun X4 hX4 hF4 => ?_
       have hl4 := LV.keep hl3 hd hF4
       refine Za ?_
       refine Lo Zh (rfl) ?_
       refine Lo Zh (W1t rfl rfl rfl rfl) ?_
       refine Lo Zh (rfl) ?_
       refine Lo Zh (W1t rfl rfl rfl rfl) ?_
       refine Lo Zh (rfl) ?_
       refine Lo Zh (W1t rfl rfl rfl rfl) ?_
       refine Lo Zh (Zb (.inl rfl) rfl) ?_
       refine Lo Zh (rfl) ?_
       refine Lo Zh (Zs rfl rfl (by decide) rfl) ?_
       refine L_opX rfl rfl (Ym rfl rfl rfl rfl rfl rfl rfl (by simp) hl4 rfl rfl (by decide) XH12 (by decide)) ?_
       rintro _ _ ⟨Y1, rfl, rfl, hY1, hY2, hY3⟩
       refine Le Zh ?_
       refine Lo Zh (rfl) ?_
       refine Lo Zh (W13 rfl rfl rfl rfl rfl rfl rfl) ?_
       refine Zf (ZG (Zc (Za ?_)))
       refine Lo Zh (Zb (.inl rfl) rfl) ?_
       refine Lo Zh (W14 rfl rfl rfl) ?_
       refine Lo Zh (Zb (.inr rfl) rfl) ?_
       refine Zf ?_
       refine Zz (mk 102 5070602400912917605986812821425) (env' := Zh) rfl ⟨m + 1, ?_, rfl, ?_⟩
       ·first | omega | (simp only []; omega)
       ·exact ⟨⟨by omega, by omega⟩, _, _, rfl, by rw [cutR_step (by omega)]; exact LV.pushF hY3⟩
     ·try simp only [qB, qN] at hc6
      refine ZL (ZJ (ZB (ZK ?_)))
      refine Zz (mk 102 5070602400912917605986812821491) (env' := Zh) rfl ⟨(), rfl, ?_⟩
      exact ⟨trivial, _, _, rfl, by rw [← Z3 (m := 40) hm2 (by omega)]; exact hl⟩
    ·try simp only [qB, qN] at hg5
     refine Lf Zh ?_
     refine Lf Zh ?_
     refine Lo Zh (Zv (VVal.bool false) rfl rfl rfl) ?_
     refine Zf (Zc ?_)
     refine ZA rfl rfl ?_
     refine ZL (ZJ (ZB (ZK ?_)))
     refine Zz (mk 102 5070602400912917605986812821491) (env' := Zh) rfl ⟨(), rfl, ?_⟩
     exact ⟨trivial, _, _, rfl, by rw [← Z3 (m := 40) hm2 (by omega)]; exact hl⟩
   ·rintro u0 _ ⟨_, ⟨lv, X, rfl, hl⟩⟩
    refine ZZ (env' := Zh) rfl ?_
    refine Zd ?_
    obtain ⟨b, hb1, hb2⟩ := hw.pos hw0
    obtain ⟨c, hc1, hc2⟩ := hf.pos hf0
    subst hb1 hc1
    refine B_ghCell 2 3 hl rfl rfl (by simp) fun X5 _ _ => ?_
    refine ZW (List.append_assoc _ _ _) ?_
    refine Za ?_
    refine Lo Zh (W1x rfl rfl rfl rfl rfl) ?_
    refine Lo Zh (W13 rfl rfl rfl rfl rfl rfl rfl) ?_
    refine Zf (Zc (Zn ?_))
    refine E_keep (.inr rfl) (YC rfl rfl rfl rfl XH0 XH18) ?_
    have hb3 := ZD hb2
    have hc3 := ZD hc2
    refine ⟨_, 3 + b, 3 + (X0.length + c), ?_, rfl, ?_, ?_, by omega⟩
    ·show VVal.agg [_, .slice (some (H.length + 3 + b, 0)) _ _ false 1, .slice (some (H.length + (X0.length + 3) + c, 0)) _ _ false 1, _] = _; rw [show H.length + 3 + b = H.length + (3 + b) by omega, show H.length + (X0.length + 3) + c = H.length + (3 + (X0.length + c)) by omega]; rfl
    ·rw [show 3 + b = b + 3 by omega]; exact Zq (Zq hb2)
    ·rw [show 3 + (X0.length + c) = (X0.length + c) + 3 by omega]; exact Zq (show (X0 ++ X1)[X0.length + c]? = _ by rw [List.getElem?_append_right (by omega), Nat.add_sub_cancel_left]; exact hc2)
theorem myB_inN {p : Pb} {i n : Nat} (g : Go.V.Good p) (hi : i < p.who.length) (h : (wrd p i).getLsbD n = true) : n < p.users.toNat := by
  have g4 := g.u0; have g2 := g.u64
  have hm : myB p i (n : Nat) = true := myB_nat.2 h
  by_cases hf : 0 ≤ p.fixed.getD i 0
  · rw [myB_f g hi hf, decide_eq_true_eq] at hm
    have := (okW_in g hi).1
    omega
  · rw [myB_w g hi (by omega), Bool.and_eq_true, decide_eq_true_eq] at hm
    omega
structure Pm (t : List Int) : Prop where
  rg : ∀ i, i < t.length → 0 ≤ t.getD i 0 ∧ t.getD i 0 < t.length
  ij : ∀ i j, i < t.length → j < t.length → t.getD i 0 = t.getD j 0 → i = j
section
variable {t : List Int} {q : Pb}
end
def Wd (q : Pb) (W : List (BitVec 64)) : Prop := W.length = q.who.length ∧ ∀ j, j < q.who.length → ∃ m : BitVec 64, W.getD j 0 = q.who.getD j 0 ||| m ∧ m >>> q.users.toNat = 0#64
def wdP (q : Pb) (W : List (BitVec 64)) : Pb := (q.users, W, q.fixed, q.rules, ())
def lsP (q : Pb) (rs : List Rul) : Pb := (q.users, q.who, q.fixed, rs, ())
def fdP (q : Pb) (l : List Nat) : Pb := (q.users, q.who, zI l, q.rules, ())
theorem Wd_0 {q : Pb} : Wd q q.who := ⟨rfl, fun j _ => ⟨0#64, by simp, by simp⟩⟩
theorem Wd_set {q : Pb} {W : List (BitVec 64)} {i : Nat} {w : BitVec 64} (h : Wd q W) (hi : i < q.who.length) (hw : w >>> q.users.toNat = 0#64) : Wd q (W.set i (W.getD i 0 ||| w)) := by
  refine ⟨by rw [List.length_set]; exact h.1, fun j hj => ?_⟩
  rw [getD_setL]
  obtain ⟨m, h1, h2⟩ := h.2 j hj
  by_cases e : j = i
  · subst e
    rw [if_pos ⟨rfl, by rw [h.1]; exact hi⟩]
    exact ⟨m ||| w, by rw [h1, BitVec.or_assoc], by rw [BitVec.ushiftRight_or_distrib, h2, hw]; rfl⟩
  · rw [if_neg (fun k => e k.1)]; exact ⟨m, h1, h2⟩
theorem wd_some {q : Pb} {W : List (BitVec 64)} (hW : Wd q W) (h : true = (leA q).isSome) : (leA (wdP q W)).isSome = true := by
  obtain ⟨l, hl⟩ := Option.isSome_iff_exists.1 h.symm
  obtain ⟨g, h1, h2, h3⟩ := hds_iff.1 (YK hl)
  have g5 := g.fx
  have gw : Go.V.Good (wdP q W) := by
    refine ⟨by show W.length ≤ _; rw [hW.1]; exact g.n12, g.u64, g.r32, g.u0, by show q.fixed.length = W.length; rw [hW.1]; exact g5, fun i hi => ?_, fun r hr => by show rck W.length r = true; rw [hW.1]; exact g.ru r hr⟩
    have hi : i < W.length := hi
    rw [hW.1] at hi
    have ok := okW_in g hi
    obtain ⟨m, e1, e2⟩ := hW.2 i hi
    show okW q.users (q.fixed.getD i 0) (W.getD i 0) = true
    unfold okW
    rw [Bool.and_eq_true, decide_eq_true_eq, decide_eq_true_eq, e1, BitVec.ushiftRight_or_distrib, e2, ok.2]
    exact ⟨ok.1, rfl⟩
  refine leA_can (us := zI l) (hds_iff.2 ⟨gw, by show _ = W.length; rw [hW.1]; exact h1, fun i hi => ?_, fun r hr => by show erl r W.length _ = true; rw [hW.1]; exact h3 r hr⟩)
  have hi : i < W.length := hi
  rw [hW.1] at hi
  have h5 := h2 i hi
  obtain ⟨m, e1, e2⟩ := hW.2 i hi
  unfold myB at h5 ⊢
  rw [Bool.and_eq_true] at h5 ⊢
  refine ⟨h5.1, ?_⟩
  have h6 := h5.2
  unfold wrd at h6 ⊢
  show (if 0 ≤ q.fixed.getD i 0 then 1#64 <<< (q.fixed.getD i 0).toNat else W.getD i 0).getLsbD _ = true
  by_cases e : 0 ≤ q.fixed.getD i 0
  · rw [if_pos e] at h6 ⊢; exact h6
  · rw [if_neg e] at h6 ⊢; rw [e1, BitVec.getLsbD_or, h6]; rfl
theorem ls_some {q : Pb} {rs : List Rul} (hl : rs.length ≤ q.rules.length) (hm : ∀ r, r ∈ rs → r ∈ q.rules) (h : true = (leA q).isSome) : (leA (lsP q rs)).isSome = true := by
  obtain ⟨l, hl2⟩ := Option.isSome_iff_exists.1 h.symm
  obtain ⟨g, h1, h2, h3⟩ := hds_iff.1 (YK hl2)
  exact leA_can (us := zI l) (hds_iff.2 ⟨⟨g.n12, g.u64, Nat.le_trans hl g.r32, g.u0, g.fx, g.ok, fun r hr => g.ru r (hm r hr)⟩, h1, h2, fun r hr => h3 r (hm r hr)⟩)
theorem fd_is {q : Pb} {l : List Nat} (h : leA q = some l) : leA (fdP q l) = some l := by
  obtain ⟨g, h1, h2, h3⟩ := hds_iff.1 (YK h)
  have g5 := g.fx; have g2 := g.u64
  rw [zI_len] at h1
  have hin : ∀ i, i < q.who.length → l.getD i 0 < q.users.toNat ∧ myB q i (l.getD i 0 : Nat) = true := fun i hi => by
    have := h2 i hi
    rw [zI_get (by omega)] at this
    exact ⟨myB_inN g hi (myB_nat.1 this), this⟩
  have gf : Go.V.Good (fdP q l) := by
    refine ⟨g.n12, g.u64, g.r32, g.u0, by show (zI l).length = _; rw [zI_len]; exact h1, fun i hi => ?_, g.ru⟩
    have hi : i < q.who.length := hi
    have ok := okW_in g hi
    have := hin i hi
    show okW q.users ((zI l).getD i 0) (q.who.getD i 0) = true
    unfold okW
    rw [Bool.and_eq_true, decide_eq_true_eq, decide_eq_true_eq, zI_get (by omega)]
    exact ⟨by omega, ok.2⟩
  have hfix : ∀ i u, i < q.who.length → myB (fdP q l) i u = decide (u = (l.getD i 0 : Nat)) := fun i u hi => by
    have e : (fdP q l).fixed.getD i 0 = (l.getD i 0 : Nat) := zI_get (by omega)
    rw [myB_f gf hi (by rw [e]; omega), e]
  have hd : hds (fdP q l) (zI l) = true := hds_iff.2 ⟨gf, by show (zI l).length = q.who.length; rw [zI_len]; exact h1, fun i hi => by
    have hi : i < q.who.length := hi
    rw [zI_get (by omega), hfix i _ hi, decide_eq_true rfl], h3⟩
  obtain ⟨m, hm⟩ := Option.isSome_iff_exists.1 (leA_can hd)
  rw [hm]
  obtain ⟨_, k1, k2, _⟩ := hds_iff.1 (YK hm)
  rw [zI_len] at k1
  have k1 : m.length = q.who.length := k1
  congr 1
  apply List.ext_getElem (by omega)
  intro i a1 a2
  have := k2 i (by show i < q.who.length; omega)
  rw [zI_get a1, hfix i _ (by omega), decide_eq_true_eq] at this
  rw [List.getD_eq_getElem?_getD, List.getElem?_eq_getElem a1, List.getD_eq_getElem?_getD, List.getElem?_eq_getElem a2] at this
  simp only [Option.getD_some] at this; omega
theorem mask_hi {w : BitVec 64} {u : Nat} (h : u < 64) : (w &&& (1#64 <<< u - 1#64)) >>> u = 0#64 := by
  apply BitVec.eq_of_toNat_eq
  have hp : 2 ^ u < 2 ^ 64 := Nat.pow_lt_pow_right (by decide) h
  have hp0 : 0 < 2 ^ u := Nat.pow_pos (by decide)
  have e : (1#64 <<< u - 1#64).toNat = 2 ^ u - 1 := by
    rw [BitVec.toNat_sub, BitVec.toNat_shiftLeft]
    show (2 ^ 64 - 1 + (1 <<< u) % 2 ^ 64) % 2 ^ 64 = _
    rw [Nat.one_shiftLeft, Nat.mod_eq_of_lt hp]; omega
  rw [BitVec.toNat_ushiftRight, BitVec.toNat_and, e, Nat.shiftRight_eq_div_pow]
  show _ = 0
  have := @Nat.and_le_right w.toNat (2 ^ u - 1)
  exact Nat.div_eq_of_lt (by omega)
theorem hi_64 {w : BitVec 64} {u : Nat} (h : 64 ≤ u) : w >>> u = 0#64 := by
  apply BitVec.eq_of_getLsbD_eq
  intro i hi
  rw [BitVec.getLsbD_ushiftRight, BitVec.getLsbD_zero]
  exact BitVec.getLsbD_of_ge _ _ (by omega)
theorem wdP_L {q : Pb} {W : List (BitVec 64)} (h : PbL q) (hW : Wd q W) : PbL (wdP q W) := ⟨h.u, by show W.length ≤ _; rw [hW.1]; exact h.w, h.f, h.r, h.s⟩
theorem lsP_L {q : Pb} {rs : List Rul} (h : PbL q) (hl : rs.length ≤ q.rules.length) (hm : ∀ r, r ∈ rs → r ∈ q.rules) : PbL (lsP q rs) := ⟨h.u, h.w, h.f, Nat.le_trans hl h.r, fun r hr => h.s r (hm r hr)⟩
theorem fdP_L {q : Pb} {l : List Nat} (h : PbL q) (hl : l.length ≤ 12) : PbL (fdP q l) := ⟨h.u, h.w, by show (zI l).length ≤ _; rw [zI_len]; omega, h.r, h.s⟩
def cutO (rs : List Rul) (a : Nat) : List Rul := rs.take a ++ rs.drop (a + 1)
theorem cutO_len {rs : List Rul} {a : Nat} (h : a < rs.length) : (cutO rs a).length = rs.length - 1 := by unfold cutO; rw [List.length_append, List.length_take, List.length_drop]; omega
theorem cutO_mem {rs : List Rul} {a : Nat} : ∀ r, r ∈ cutO rs a → r ∈ rs := fun r hr => by
  unfold cutO at hr
  rcases List.mem_append.1 hr with h | h
  · exact List.mem_of_mem_take h
  · exact List.mem_of_mem_drop h
theorem Cut_Lf {x : SW} (H : Ze) (p : Pb) (m : Nat) (hnw : (Zr p m).who ≠ []) (hnf : (Zr p m).fixed ≠ []) : F (psys x) 19 [.agg (pbB (Zr p m))] H (CwR H (Zr p m)) := by
  have := Cut_L (x := x) H (Zr p m) hnw hnf
  rw [fewP_cut] at this; exact this
theorem getBX {B X : Ze} {j : Nat} {c : VBlk} (h : X[j]? = some c) : (B ++ X)[B.length + j]? = some c := ZN rfl h
theorem setBX {B X : Ze} {j : Nat} {c : VBlk} : (B ++ X).set (B.length + j) c = B ++ X.set j c := Z4 rfl
theorem Yj {X : Ze} {j : Nat} {a b : VBlk} (h : X[j]? = some a) : (X.set j b)[j]? = some b := List.getElem?_set_self (ZD h)
theorem Z0 {X : Ze} {j k : Nat} {a b : VBlk} (h : X[k]? = some a) (d : j ≠ k) : (X.set j b)[k]? = some a := by rw [List.getElem?_set_ne d]; exact h
theorem tm_n (x : Int) {u : Int} (h : 1 ≤ u) : (-u < x.tmod u ∧ x.tmod u < u) ∧ ∃ a : Nat, (x.tmod u + u).tmod u = (a : Int) ∧ (a : Int) < u := by
  have h1 : -u < x.tmod u ∧ x.tmod u < u := by
    have hb : (u.natAbs : Int) = u := by omega
    have h3 := Int.tmod_lt_of_pos x (b := u) (by omega)
    have h4 := Int.tmod_lt_of_pos (-x) (b := u) (by omega)
    rw [Int.neg_tmod] at h4
    omega
  refine ⟨h1, ((x.tmod u + u).tmod u).toNat, ?_, ?_⟩
  · have := Int.tmod_nonneg (a := x.tmod u + u) u (by omega); omega
  · have := Int.tmod_nonneg (a := x.tmod u + u) u (by omega)
    have := Int.tmod_lt_of_pos (x.tmod u + u) (b := u) (by omega); omega
theorem fget0N {l : List Int} {k : Nat} (h : k < l.length) : (l.map iI)[0 + ((k : Nat) : Int).toNat * 1]? = some (iI (l.getD k 0)) := by rw [Nat.zero_add]; exact fgetN (0 : Int) h
theorem nm_gh {S : Go.V.Sys} {B X : Ze} {u r : VVal} {n n2 j k m : Nat} {w : List (BitVec 64)} {f : List Int} (hj : X[j]? = some (.cells (w.map iW) true)) (hk : X[k]? = some (.cells (f.map iI) true)) (hm : X[m]? = some (.cells [u, .slice (some (B.length + j, 0)) n n false 1, .slice (some (B.length + k, 0)) n2 n2 false 1, r] true))
    (hw : w.length = n) (hf : f.length = n2) (d1 : j ≠ k) (d2 : j ≠ m) (d3 : k ≠ m) : ∃ X3, (∀ (H0 : Ze) (vs : List VVal), Gh S H0 vs (B ++ X) vs (B ++ X3)) ∧ X3[m]? = some (.cells [u, fzW w, fzI f, r] true) := by
  subst hw hf
  have g1 := fun (H0 : Ze) (vs : List VVal) => Gh.cellL (S := S) (H := B) (H0 := H0) (vs := vs) m 1 j hm rfl (fun e => d2 e.symm) hj map_all (Nat.le_refl _)
  have h1 : ((X.set j .dead).set m (.cells ([u, .slice (some (B.length + j, 0)) w.length w.length false 1, .slice (some (B.length + k, 0)) f.length f.length false 1, r].set 1 (.fsl (w.map iW) w.length 1 false)) true))[m]? = some (.cells [u, fzW w, .slice (some (B.length + k, 0)) f.length f.length false 1, r] true) := Yj (Z0 hm d2)
  have h2 : ((X.set j .dead).set m (.cells ([u, .slice (some (B.length + j, 0)) w.length w.length false 1, .slice (some (B.length + k, 0)) f.length f.length false 1, r].set 1 (.fsl (w.map iW) w.length 1 false)) true))[k]? = some (.cells (f.map iI) true) := Z0 (Z0 hk d1) (fun e => d3 e.symm)
  have g2 := fun (H0 : Ze) (vs : List VVal) => Gh.cellL (S := S) (H := B) (H0 := H0) (vs := vs) m 2 k h1 rfl (fun e => d3 e.symm) h2 map_all (Nat.le_refl _)
  exact ⟨_, fun H0 vs => (g1 H0 vs).trans (g2 H0 vs), Yj (Z0 h1 d3)⟩
def CrR (H : Ze) (p : Pb) (v : VVal) (G : Ze) : Prop := ∃ Y j, v = .agg [iI p.users, fzW p.who, fzI p.fixed, .slice (some (H.length + j, 0)) p.rules.length p.rules.length false 3] ∧ G = H ++ Y ∧ Y[j]? = some (.cells (p.rules.flatMap rlB) true)
theorem Can_m {x : SW} {H X : Ze} {a b : VBlk} (g : Gz) (q : Pb) (hq : PbL q) : F (psys x) 20 [.ptr (some (H.length + 2, 0)), .agg (pbB q)] ((H ++ [a, b, gaB g]) ++ X) fun v G => v = .bool (leA q).isSome ∧ G = (H ++ [a, b, gaB (g + leG q)]) ++ X := by
  have := Can_spec (x := x) ((H ++ [a, b, gaB g]) ++ X) (H.length + 2) g (getB rfl rfl) q hq
  rw [setB rfl (show 2 < 3 by decide)] at this; exact this
theorem Least_m {x : SW} {H X : Ze} {a b : VBlk} (g : Gz) (q : Pb) (hq : PbL q) : F (psys x) 21 [.ptr (some (H.length + 2, 0)), .agg (pbB q)] ((H ++ [a, b, gaB g]) ++ X) fun v G => v = leT (leA q) ∧ G = (H ++ [a, b, gaB (g + leG q)]) ++ X := by
  have := sLeast_spec (x := x) ((H ++ [a, b, gaB g]) ++ X) (H.length + 2) g (getB rfl rfl) q hq
  rw [setB rfl (show 2 < 3 by decide)] at this; exact this
theorem fl3 {rs : List Rul} : (rs.flatMap rlB).length = rs.length * 3 := fm_len (f := rlB) (m := 3) (fun _ => rfl) rs
theorem fl_drop {rs : List Rul} : ∀ {k : Nat}, (rs.flatMap rlB).drop (k * 3) = (rs.drop k).flatMap rlB := by
  induction rs with
  | nil => intro k; simp
  | cons r rs ih =>
    intro k
    cases k with
    | zero => simp
    | succ k =>
      rw [List.flatMap_cons, List.drop_succ_cons, ← ih, show (k + 1) * 3 = (rlB r).length + k * 3 by show _ = 3 + k * 3; omega, ← List.drop_drop, List.drop_left]
theorem fl_take {rs : List Rul} : ∀ {k : Nat}, (rs.flatMap rlB).take (k * 3) = (rs.take k).flatMap rlB := by
  induction rs with
  | nil => intro k; simp
  | cons r rs ih =>
    intro k
    cases k with
    | zero => simp
    | succ k =>
      rw [List.flatMap_cons, List.take_succ_cons, List.flatMap_cons, ← ih, show (k + 1) * 3 = (rlB r).length + k * 3 by show _ = 3 + k * 3; omega, List.take_length_add_append]
theorem fl_one {rs : List Rul} : (rs.flatMap rlB).all VVal.one = true := by
  rw [List.all_eq_true]
  intro v hv
  obtain ⟨r, _, h⟩ := List.mem_flatMap.1 hv
  have h : v ∈ [iI r.kind, iI r.k, fzI r.steps] := h
  simp only [List.mem_cons, List.not_mem_nil, or_false] at h
  rcases h with rfl | rfl | rfl <;> rfl
theorem cut_cells {rs : List Rul} {a : Nat} (h : a < rs.length) : Zt (ZC (rs.flatMap rlB) (a * 3) ((rs.flatMap rlB).drop ((a + 1) * 3))) 0 ((a + (rs.length - (a + 1))) * 3) = some ((cutO rs a).flatMap rlB) := by
  have hd : ((rs.flatMap rlB).drop ((a + 1) * 3)).length = (rs.length - (a + 1)) * 3 := by rw [fl_drop, fl3, List.length_drop]
  have ht : ((rs.flatMap rlB).take (a * 3)).length = a * 3 := by rw [fl_take, fl3, List.length_take, Nat.min_eq_left (by omega)]
  have e : (rs.flatMap rlB).take (a * 3) ++ (rs.flatMap rlB).drop ((a + 1) * 3) = (cutO rs a).flatMap rlB := by
    rw [fl_take, fl_drop]; unfold cutO; rw [List.flatMap_append]
  unfold ZC Zt
  rw [e]
  have hl : ((cutO rs a).flatMap rlB).length = (a + (rs.length - (a + 1))) * 3 := by rw [fl3, cutO_len h]; congr 1; omega
  rw [if_pos (by rw [List.length_append, hl]; omega), List.drop_zero, ← hl, List.take_left']
  rfl
theorem ls_gh {S : Go.V.Sys} {B Z : Ze} {u w f : VVal} {b m n len : Nat} {cs : List VVal} {rs : List Rul} (hb : Z[b]? = some (.cells cs true)) (hm : Z[m]? = some (.cells [u, w, f, .slice (some (B.length + b, 0)) len n false 3] true)) (hl : Zt cs 0 (len * 3) = some (rs.flatMap rlB)) (he : rs.length = len) (hn : len ≤ n) (d : b ≠ m) :
    ∃ Z2, (∀ (H0 : Ze) (vs : List VVal), Gh S H0 vs (B ++ Z) vs (B ++ Z2)) ∧ Z2[m]? = some (.cells [u, w, f, fzR rs] true) := by
  subst he
  exact ⟨_, fun H0 vs => Gh.cellL (S := S) (H := B) (H0 := H0) (vs := vs) m 3 b hm rfl (fun e => d e.symm) hb hl hn, Yj (Z0 hm d)⟩
theorem at_neg {x : Int} {n : Nat} (hn : 0 < n) (h : x.tmod (n : Nat) < 0) : ∃ a : Nat, x.tmod (n : Nat) + (n : Nat) = (a : Int) ∧ a < n := by
  have := (tm_n x (u := (n : Int)) (by omega)).1
  exact ⟨(x.tmod (n : Nat) + (n : Nat)).toNat, by omega, by omega⟩
theorem at_pos {x : Int} {n : Nat} (hn : 0 < n) (h : 0 ≤ x.tmod (n : Nat)) : ∃ a : Nat, x.tmod (n : Nat) = (a : Int) ∧ a < n := by
  have := (tm_n x (u := (n : Int)) (by omega)).1
  exact ⟨(x.tmod (n : Nat)).toNat, by omega, by omega⟩
theorem fget0W {l : List (BitVec 64)} {k : Nat} (h : k < l.length) : (l.map iW)[0 + ((k : Nat) : Int).toNat * 1]? = some (iW (l.getD k 0)) := by rw [Nat.zero_add]; exact fgetN (0 : BitVec 64) h
theorem spl_Wt {l : List (BitVec 64)} {k : Nat} {w : BitVec 64} (h : k < l.length) : ZC (l.map iW) (0 + ((k : Nat) : Int).toNat * 1) [iW w] = (l.set k w).map iW := by rw [Int.toNat_natCast]; exact spl_W h
theorem Cut_R {x : SW} (H : Ze) (p : Pb) (hnr : p.rules ≠ []) : F (psys x) 19 [.agg (pbB p)] H (CrR H (cutP p)) := by
 have hr0 : 0 < ((p.rules.take 40).map YJ).length := by have := List.length_pos_iff.2 hnr; rw [List.length_map, List.length_take]; omega
 refine Zy Tryd.func19 rfl Zh rfl ?_
 refine Zd (Za ?_)
 refine Lo Zh (ZE rfl rfl rfl) ?_
 refine Lo Zh (Zw rfl rfl) ?_
 refine Zf (Zc (Zd (Za ?_)))
 refine L_gh (Gh.freezePtrL (cs := pbB p) 1 0 rfl rfl rfl) ?_
 refine Lo Zh (rfl) ?_
 refine Lo Zh (W1t rfl rfl rfl rfl) ?_
 refine Lo Zh (rfl) ?_
 refine Lo Zh (Zw rfl rfl) ?_
 refine Lo Zh (W13 rfl rfl rfl rfl rfl rfl rfl) ?_
 refine Zf (Zc ?_)
 refine B_seqJ (mk 102 5070602400912917605986812821489) (fun (u0 : Unit) => []) (fun (u0 : Unit) G => (True) ∧ ∃ lv X, G = (H ++ [VBlk.dead, pqB 0 ZQ ZQ ZQ, pqB p.users lv ZQ ZQ]) ++ X ∧ LV (H.length + 3) 1 X lv ((p.who.take 20).map iW) (p.who.take 20).length) ?_ ?_
 ·skip
  refine Zd (Za ?_)
  refine Lo Zh (Zj (VVal.int .i64 0) (.inr rfl) rfl) ?_
  refine Zf (Zc (Zp ?_))
  refine ZI (mk 102 5070602400912917605986812821473) (env' := Zh) rfl ?_
  refine ZP (fun (k : Nat) => p.who.length - k) (fun (k : Nat) => [(4, iI (k : Nat))]) (fun (k : Nat) G => (k ≤ p.who.length ∧ k ≤ 20) ∧ ∃ lv X, G = (H ++ [VBlk.dead, pqB 0 ZQ ZQ ZQ, pqB p.users lv ZQ ZQ]) ++ X ∧ LV (H.length + 3) 1 X lv (((p.who).take k).map iW) ((p.who).take k).length) 0 rfl ?_ ?_
  ·refine ⟨?_, ⟨_, [], (List.append_nil _).symm, LV.nil _ _ _⟩⟩
   exact ⟨Nat.zero_le _, Nat.zero_le _⟩
  rintro k _ ⟨⟨hk1, hk2⟩, ⟨lv, X, rfl, hl⟩⟩
  refine ZZ (env' := Zh) rfl ?_
  refine Zd (Zd (Za ?_))
  refine Lo Zh (Zb (.inl rfl) rfl) ?_
  refine Lo Zh (rfl) ?_
  refine Lo Zh (W1t rfl rfl rfl rfl) ?_
  refine Lo Zh (rfl) ?_
  refine Lo Zh (rfl) ?_
  refine Lo Zh (Zb (.inl rfl) rfl) ?_
  refine ZF 18 (env1 := Zh) (env2 := Zh) rfl rfl rfl (fun hg1 => ?_) (fun hg1 => ?_)
  ·try simp only [qB, qN] at hg1
   refine Lo Zh (Zb (.inl rfl) rfl) ?_
   refine Lo Zh (rfl) ?_
   refine Lo Zh (Zx rfl rfl rfl) ?_
   refine Zf (Zc ?_)
   refine Zo _ rfl (fun hc2 => ?_) (fun hc2 => ?_)
   ·try simp only [qB, qN] at hc2
    refine Zl (Zc (Zd (Zp ?_)))
    refine ZS [0, 1, 2, 3, 4, 5, 6, 7, 8, 9, 10] #[0, 1, 0, 4, 0, 28, 60, 124, 255, 511, 1023] XH2 XH2 XH2 ?_
    refine Oo Zh .calm rfl (rfl) ?_
    refine Oo Zh .look rfl (W1t rfl rfl rfl rfl) ?_
    refine Oo Zh .calm rfl (rfl) ?_
    refine Oo Zh .look rfl (W1t rfl rfl rfl rfl) ?_
    refine Oo Zh .calm rfl (Zb (.inl rfl) rfl) ?_
    refine Oo Zh .calm rfl (W18 rfl rfl rfl rfl rfl rfl rfl) ?_
    refine Oo Zh .look rfl (W1t rfl rfl rfl rfl) ?_
    refine Oo Zh .grow rfl (Zs rfl rfl (by decide) rfl) ?_
    refine O_opX .turn rfl rfl rfl (Ym rfl rfl rfl rfl rfl rfl rfl (by simp) hl rfl rfl (by decide) XH11 (by decide)) rfl rfl ?_
    rintro _ _ ⟨Y1, rfl, rfl, hY1, hY2, hY3⟩
    refine O_env (env' := Zh) rfl ?_
    refine Oo Zh .calm rfl (rfl) ?_
    refine Oo Zh .turn rfl (W13 rfl rfl rfl rfl rfl rfl rfl) ?_
    refine ZR [] XH2 (trivial) ?_
    refine ZG (Zc (Za ?_))
    refine Lo Zh (Zb (.inl rfl) rfl) ?_
    refine Lo Zh (W14 rfl rfl rfl) ?_
    refine Lo Zh (Zb (.inr rfl) rfl) ?_
    refine Zf ?_
    refine Zz (mk 102 5070602400912917605986812821473) (env' := Zh) rfl ⟨k + 1, ?_, rfl, ?_⟩
    ·first | omega | (simp only []; omega)
    ·exact ⟨⟨by omega, by omega⟩, _, _, rfl, by rw [Yb (d := 0) (by omega)]; exact LV.pushW hY3⟩
   ·try simp only [qB, qN] at hc2
    refine ZL (ZJ (ZB (ZK ?_)))
    refine Zz (mk 102 5070602400912917605986812821489) (env' := Zh) rfl ⟨(), rfl, ?_⟩
    exact ⟨trivial, _, _, rfl, by rw [← Z3 (m := 20) hk2 (by omega)]; exact hl⟩
  ·try simp only [qB, qN] at hg1
   refine Lf Zh ?_
   refine Lf Zh ?_
   refine Lo Zh (Zv (VVal.bool false) rfl rfl rfl) ?_
   refine Zf (Zc ?_)
   refine ZA rfl rfl ?_
   refine ZL (ZJ (ZB (ZK ?_)))
   refine Zz (mk 102 5070602400912917605986812821489) (env' := Zh) rfl ⟨(), rfl, ?_⟩
   exact ⟨trivial, _, _, rfl, by rw [← Z3 (m := 20) hk2 (by omega)]; exact hl⟩
 ·rintro u0 _ ⟨_, ⟨lv, X, rfl, hl⟩⟩
  refine ZZ (env' := Zh) rfl ?_
  refine B_seqJ (mk 102 5070602400912917605986812821489) (fun (u0 : Unit) => []) (fun (u0 : Unit) G => (True) ∧ ∃ lv X, G = (H ++ [VBlk.dead, pqB 0 ZQ ZQ ZQ, pqB p.users (fzW (p.who.take 20)) lv ZQ]) ++ X ∧ LV (H.length + 3) 1 X lv ((p.fixed.take 20).map iI) (p.fixed.take 20).length) ?_ ?_
  ·skip
   refine Zd ?_
   refine B_ghCell 2 1 hl rfl rfl (by simp) fun X1 _ _ => ?_
   refine Za ?_
   refine Lo Zh (Zj (VVal.int .i64 0) (.inr rfl) rfl) ?_
   refine Zf (Zc (Zp ?_))
   refine ZI (mk 102 5070602400912917605986812821457) (env' := Zh) rfl ?_
   refine ZP (fun (j : Nat) => p.fixed.length - j) (fun (j : Nat) => [(5, iI (j : Nat))]) (fun (j : Nat) G => (j ≤ p.fixed.length ∧ j ≤ 20) ∧ ∃ lv X, G = (H ++ [VBlk.dead, pqB 0 ZQ ZQ ZQ, pqB p.users (fzW (p.who.take 20)) lv ZQ]) ++ X ∧ LV (H.length + 3) 1 X lv (((p.fixed).take j).map iI) ((p.fixed).take j).length) 0 rfl ?_ ?_
   ·refine ⟨?_, ⟨_, X1, rfl, LV.nil _ _ _⟩⟩
    exact ⟨Nat.zero_le _, Nat.zero_le _⟩
   rintro j _ ⟨⟨hj1, hj2⟩, ⟨lv, X, rfl, hl⟩⟩
   refine ZZ (env' := Zh) rfl ?_
   refine Zd (Zd (Za ?_))
   refine Lo Zh (Zb (.inl rfl) rfl) ?_
   refine Lo Zh (rfl) ?_
   refine Lo Zh (W1t rfl rfl rfl rfl) ?_
   refine Lo Zh (rfl) ?_
   refine Lo Zh (rfl) ?_
   refine Lo Zh (Zb (.inl rfl) rfl) ?_
   refine ZF 39 (env1 := Zh) (env2 := Zh) rfl rfl rfl (fun hg3 => ?_) (fun hg3 => ?_)
   ·try simp only [qB, qN] at hg3
    refine Lo Zh (Zb (.inl rfl) rfl) ?_
    refine Lo Zh (rfl) ?_
    refine Lo Zh (Zx rfl rfl rfl) ?_
    refine Zf (Zc ?_)
    refine Zo _ rfl (fun hc4 => ?_) (fun hc4 => ?_)
    ·try simp only [qB, qN] at hc4
     refine Zl (Zc (Zd (Zp ?_)))
     refine ZS [0, 1, 2, 3, 4, 5, 6, 7, 8, 9, 10] #[0, 1, 0, 4, 0, 28, 60, 124, 255, 511, 1023] XH2 XH2 XH2 ?_
     refine Oo Zh .calm rfl (rfl) ?_
     refine Oo Zh .look rfl (W1t rfl rfl rfl rfl) ?_
     refine Oo Zh .calm rfl (rfl) ?_
     refine Oo Zh .look rfl (W1t rfl rfl rfl rfl) ?_
     refine Oo Zh .calm rfl (Zb (.inl rfl) rfl) ?_
     refine Oo Zh .calm rfl (W18 rfl rfl rfl rfl rfl rfl rfl) ?_
     refine Oo Zh .look rfl (W1t rfl rfl rfl rfl) ?_
     refine Oo Zh .grow rfl (Zs rfl rfl (by decide) rfl) ?_
     refine O_opX .turn rfl rfl rfl (Ym rfl rfl rfl rfl rfl rfl rfl (by simp) hl rfl rfl (by decide) XH11 (by decide)) rfl rfl ?_
     rintro _ _ ⟨Y1, rfl, rfl, hY1, hY2, hY3⟩
     refine O_env (env' := Zh) rfl ?_
     refine Oo Zh .calm rfl (rfl) ?_
     refine Oo Zh .turn rfl (W13 rfl rfl rfl rfl rfl rfl rfl) ?_
     refine ZR [] XH2 (trivial) ?_
     refine ZG (Zc (Za ?_))
     refine Lo Zh (Zb (.inl rfl) rfl) ?_
     refine Lo Zh (W14 rfl rfl rfl) ?_
     refine Lo Zh (Zb (.inr rfl) rfl) ?_
     refine Zf ?_
     refine Zz (mk 102 5070602400912917605986812821457) (env' := Zh) rfl ⟨j + 1, ?_, rfl, ?_⟩
     ·first | omega | (simp only []; omega)
     ·exact ⟨⟨by omega, by omega⟩, _, _, rfl, by rw [Yb (d := 0) (by omega)]; exact LV.pushI hY3⟩
    ·try simp only [qB, qN] at hc4
     refine ZL (ZJ (ZB (ZK ?_)))
     refine Zz (mk 102 5070602400912917605986812821489) (env' := Zh) rfl ⟨(), rfl, ?_⟩
     exact ⟨trivial, _, _, rfl, by rw [← Z3 (m := 20) hj2 (by omega)]; exact hl⟩
   ·try simp only [qB, qN] at hg3
    refine Lf Zh ?_
    refine Lf Zh ?_
    refine Lo Zh (Zv (VVal.bool false) rfl rfl rfl) ?_
    refine Zf (Zc ?_)
    refine ZA rfl rfl ?_
    refine ZL (ZJ (ZB (ZK ?_)))
    refine Zz (mk 102 5070602400912917605986812821489) (env' := Zh) rfl ⟨(), rfl, ?_⟩
    exact ⟨trivial, _, _, rfl, by rw [← Z3 (m := 20) hj2 (by omega)]; exact hl⟩
  ·rintro u0 _ ⟨_, ⟨lv, X, rfl, hl⟩⟩
   refine ZZ (env' := Zh) rfl ?_
   refine B_seqJ (mk 102 5070602400912917605986812821491) (fun (u0 : Unit) => []) (fun (u0 : Unit) G => (True) ∧ ∃ lv X, G = (H ++ [VBlk.dead, pqB 0 ZQ ZQ ZQ, pqB p.users (fzW (p.who.take 20)) (fzI (p.fixed.take 20)) lv]) ++ X ∧ LV (H.length + 3) 3 X lv (((p.rules.take 40).map YJ).flatMap rlB) ((p.rules.take 40).map YJ).length) ?_ ?_
   ·skip
    refine Zd ?_
    refine B_ghCell 2 2 hl rfl rfl (by simp) fun X2 _ _ => ?_
    refine Za ?_
    refine Lo Zh (Zj (VVal.int .i64 0) (.inr rfl) rfl) ?_
    refine Zf (Zc (Zp ?_))
    refine ZI (mk 102 5070602400912917605986812821425) (env' := Zh) rfl ?_
    refine ZP (fun (m : Nat) => p.rules.length - m) (fun (m : Nat) => [(6, iI (m : Nat))]) (fun (m : Nat) G => (m ≤ p.rules.length ∧ m ≤ 40) ∧ ∃ lv X, G = (H ++ [VBlk.dead, pqB 0 ZQ ZQ ZQ, pqB p.users (fzW (p.who.take 20)) (fzI (p.fixed.take 20)) lv]) ++ X ∧ LV (H.length + 3) 3 X lv (((p.rules.take m).map YJ).flatMap rlB) ((p.rules.take m).map YJ).length) 0 rfl ?_ ?_
    ·refine ⟨?_, ⟨_, X2, rfl, LV.nil _ _ _⟩⟩
     exact ⟨Nat.zero_le _, Nat.zero_le _⟩
    rintro m _ ⟨⟨hm1, hm2⟩, ⟨lv, X, rfl, hl⟩⟩
    refine ZZ (env' := Zh) rfl ?_
    refine Zd (Zd (Za ?_))
    refine Lo Zh (Zb (.inl rfl) rfl) ?_
    refine Lo Zh (rfl) ?_
    refine Lo Zh (W1t rfl rfl rfl rfl) ?_
    refine Lo Zh (rfl) ?_
    refine Lo Zh (rfl) ?_
    refine Lo Zh (Zb (.inl rfl) rfl) ?_
    refine ZF 60 (env1 := Zh) (env2 := Zh) rfl rfl rfl (fun hg5 => ?_) (fun hg5 => ?_)
    ·try simp only [qB, qN] at hg5
     refine Lo Zh (Zb (.inl rfl) rfl) ?_
     refine Lo Zh (rfl) ?_
     refine Lo Zh (Zx rfl rfl rfl) ?_
     refine Zf (Zc ?_)
     refine Zo _ rfl (fun hc6 => ?_) (fun hc6 => ?_)
     ·try simp only [qB, qN] at hc6
      refine Zl (Zc (Zd (Zp (Zd (Za ?_)))))
      refine Lo Zh (rfl) ?_
      refine Lo Zh (W1t rfl rfl rfl rfl) ?_
      refine Lo Zh (Zb (.inl rfl) rfl) ?_
      refine Lo Zh (W18 rfl rfl rfl rfl rfl rfl rfl) ?_
      refine Lo Zh (W1x rfl rfl rfl rfl rfl) ?_
      refine Lo Zh (Zw rfl rfl) ?_
      refine Lo Zh (W13 rfl rfl rfl rfl rfl rfl rfl) ?_
      refine Zf (Zc (Zd ?_))
      refine Yg (Gh.freezeEnd (cs := rlB (p.rules.getD m r0)) 7 rfl rfl) ?_
      refine Za ?_
      refine Lo Zh (Zj (VVal.slice none 0 0 true 0) (.inr rfl) rfl) ?_
      refine Zf (Zc (Zd (Zd (Za ?_))))
      refine Lo Zh (Zj (VVal.int .i64 0) (.inr rfl) rfl) ?_
      refine Zf (Zc (Zp ?_))
      refine ZI (mk 102 5070602400912917605986812820529) (env' := Zh) rfl ?_
      refine ZP (fun (⟨k, sv⟩ : Nat × VVal) => (p.rules.getD m r0).steps.length - k) (fun (⟨k, sv⟩ : Nat × VVal) => [(8, sv), (9, iI (k : Nat))]) (fun (⟨k, sv⟩ : Nat × VVal) G => (k ≤ (p.rules.getD m r0).steps.length ∧ k ≤ 20) ∧ ∃ X, G = (H ++ [VBlk.dead, pqB 0 ZQ ZQ ZQ, pqB p.users (fzW (p.who.take 20)) (fzI (p.fixed.take 20)) lv]) ++ X ∧ LV (H.length + 3) 3 X lv (((p.rules.take m).map YJ).flatMap rlB) ((p.rules.take m).map YJ).length ∧ LV (H.length + 3) 1 X sv (((p.rules.getD m r0).steps.take k).map iI) ((p.rules.getD m r0).steps.take k).length ∧ ∀ n, Yt lv = some n → Yt sv ≠ some n) ⟨0, _⟩ rfl ?_ ?_
      ·refine ⟨?_, ⟨X ++ [.dead], rfl, LV.app hl _, LV.nil _ _ _, fun n _ e => by cases e⟩⟩
       exact ⟨Nat.zero_le _, Nat.zero_le _⟩
      rintro ⟨k, sv⟩ _ ⟨⟨hk1, hk2⟩, ⟨X3, rfl, hl3, hs, hd⟩⟩
      refine ZZ (env' := Zh) rfl ?_
      refine Zd (Zd (Za ?_))
      refine Lo Zh (Zb (.inl rfl) rfl) ?_
      refine Lo Zh (rfl) ?_
      refine Lo Zh (W1t rfl rfl rfl rfl) ?_
      refine Lo Zh (rfl) ?_
      refine Lo Zh (rfl) ?_
      refine Lo Zh (Zb (.inl rfl) rfl) ?_
      refine ZF 76 (env1 := Zh) (env2 := Zh) rfl rfl rfl (fun hg7 => ?_) (fun hg7 => ?_)
      ·try simp only [qB, qN] at hg7
       refine Lo Zh (Zb (.inl rfl) rfl) ?_
       refine Lo Zh (rfl) ?_
       refine Lo Zh (Zx rfl rfl rfl) ?_
       refine Zf (Zc ?_)
       refine Zo _ rfl (fun hc8 => ?_) (fun hc8 => ?_)
       ·try simp only [qB, qN] at hc8
        refine Zl (Zc (Zd (Zp (Za ?_))))
        refine Lo Zh (Zb (.inl rfl) rfl) ?_
        refine Lo Zh (rfl) ?_
        refine Lo Zh (W1t rfl rfl rfl rfl) ?_
        refine Lo Zh (Zb (.inl rfl) rfl) ?_
        refine Lo Zh (W18 rfl rfl rfl rfl rfl rfl rfl) ?_
        refine Lo Zh (W1t rfl rfl rfl rfl) ?_
        refine Lo Zh (Zs rfl rfl (by decide) rfl) ?_
        refine L_opX rfl rfl (Ym rfl rfl rfl rfl rfl rfl rfl (by simp) hs rfl rfl (by decide) XH11 (by decide)) ?_
        rintro _ _ ⟨Y1, rfl, rfl, hY1, hY2, hY3⟩
        refine Le Zh ?_
        refine Lo Zh (Zb (.inr rfl) rfl) ?_
        refine Zf (ZG (Zc (Za ?_)))
        refine Lo Zh (Zb (.inl rfl) rfl) ?_
        refine Lo Zh (W14 rfl rfl rfl) ?_
        refine Lo Zh (Zb (.inr rfl) rfl) ?_
        refine Zf ?_
        refine Zz (mk 102 5070602400912917605986812820529) (env' := Zh) rfl ⟨⟨k + 1, _⟩, ?_, rfl, ?_⟩
        ·first | omega | (simp only []; omega)
        ·exact ⟨⟨by omega, by omega⟩, _, rfl, LV.app (LV.keep hl3 hd hY2) _, by rw [Yb (d := 0) (by omega)]; exact LV.pushI hY3, LV.far hl3 (Nat.le_succ _)⟩
       ·try simp only [qB, qN] at hc8
        refine ZL (ZJ (ZB (ZK (Zc ?_))))
        rw [Z3 (m := 20) hk2 (by omega)] at hs
        refine B_ghLVh (env' := Zh) 8 hs (by simp) rfl rfl fun X4 hX4 hF4 => ?_
        have hl4 := LV.keep hl3 hd hF4
        refine Za ?_
        refine Lo Zh (rfl) ?_
        refine Lo Zh (W1t rfl rfl rfl rfl) ?_
        refine Lo Zh (rfl) ?_
        refine Lo Zh (W1t rfl rfl rfl rfl) ?_
        refine Lo Zh (rfl) ?_
        refine Lo Zh (W1t rfl rfl rfl rfl) ?_
        refine Lo Zh (Zb (.inl rfl) rfl) ?_
        refine Lo Zh (rfl) ?_
        refine Lo Zh (Zs rfl rfl (by decide) rfl) ?_
        refine L_opX rfl rfl (Ym rfl rfl rfl rfl rfl rfl rfl (by simp) hl4 rfl rfl (by decide) XH12 (by decide)) ?_
        rintro _ _ ⟨Y1, rfl, rfl, hY1, hY2, hY3⟩
        refine Le Zh ?_
        refine Lo Zh (rfl) ?_
        refine Lo Zh (W13 rfl rfl rfl rfl rfl rfl rfl) ?_
        refine Zf (ZG (Zc (Za ?_)))
        refine Lo Zh (Zb (.inl rfl) rfl) ?_
        refine Lo Zh (W14 rfl rfl rfl) ?_
        refine Lo Zh (Zb (.inr rfl) rfl) ?_
        refine Zf ?_
        refine Zz (mk 102 5070602400912917605986812821425) (env' := Zh) rfl ⟨m + 1, ?_, rfl, ?_⟩
        ·first | omega | (simp only []; omega)
        ·exact ⟨⟨by omega, by omega⟩, _, _, rfl, by rw [cutR_step (by omega)]; exact LV.pushF hY3⟩
      ·try simp only [qB, qN] at hg7
       refine Lf Zh ?_
       refine Lf Zh ?_
       refine Lo Zh (Zv (VVal.bool false) rfl rfl rfl) ?_
       refine Zf (Zc ?_)
       refine ZA rfl rfl ?_
       refine ZL (ZJ (ZB (ZK (Zc ?_))))
       rw [Z3 (m := 20) hk2 (by omega)] at hs
       refine B_ghLVh (env' := Zh) 8 hs (by simp) rfl rfl fun X4 hX4 hF4 => ?_
       have hl4 := LV.keep hl3 hd hF4
       refine Za ?_
       refine Lo Zh (rfl) ?_
       refine Lo Zh (W1t rfl rfl rfl rfl) ?_
       refine Lo Zh (rfl) ?_
       refine Lo Zh (W1t rfl rfl rfl rfl) ?_
       refine Lo Zh (rfl) ?_
       refine Lo Zh (W1t rfl rfl rfl rfl) ?_
       refine Lo Zh (Zb (.inl rfl) rfl) ?_
       refine Lo Zh (rfl) ?_
       refine Lo Zh (Zs rfl rfl (by decide) rfl) ?_
       refine L_opX rfl rfl (Ym rfl rfl rfl rfl rfl rfl rfl (by simp) hl4 rfl rfl (by decide) XH12 (by decide)) ?_
       rintro _ _ ⟨Y1, rfl, rfl, hY1, hY2, hY3⟩
       refine Le Zh ?_
       refine Lo Zh (rfl) ?_
       refine Lo Zh (W13 rfl rfl rfl rfl rfl rfl rfl) ?_
       refine Zf (ZG (Zc (Za ?_)))
       refine Lo Zh (Zb (.inl rfl) rfl) ?_
       refine Lo Zh (W14 rfl rfl rfl) ?_
       refine Lo Zh (Zb (.inr rfl) rfl) ?_
       refine Zf ?_
       refine Zz (mk 102 5070602400912917605986812821425) (env' := Zh) rfl ⟨m + 1, ?_, rfl, ?_⟩
       ·first | omega | (simp only []; omega)
       ·exact ⟨⟨by omega, by omega⟩, _, _, rfl, by rw [cutR_step (by omega)]; exact LV.pushF hY3⟩
     ·try simp only [qB, qN] at hc6
      refine ZL (ZJ (ZB (ZK ?_)))
      refine Zz (mk 102 5070602400912917605986812821491) (env' := Zh) rfl ⟨(), rfl, ?_⟩
      exact ⟨trivial, _, _, rfl, by rw [← Z3 (m := 40) hm2 (by omega)]; exact hl⟩
    ·try simp only [qB, qN] at hg5
     refine Lf Zh ?_
     refine Lf Zh ?_
     refine Lo Zh (Zv (VVal.bool false) rfl rfl rfl) ?_
     refine Zf (Zc ?_)
     refine ZA rfl rfl ?_
     refine ZL (ZJ (ZB (ZK ?_)))
     refine Zz (mk 102 5070602400912917605986812821491) (env' := Zh) rfl ⟨(), rfl, ?_⟩
     exact ⟨trivial, _, _, rfl, by rw [← Z3 (m := 40) hm2 (by omega)]; exact hl⟩
   ·rintro u0 _ ⟨_, ⟨lv, X, rfl, hl⟩⟩
    refine ZZ (env' := Zh) rfl ?_
    refine Zd ?_
    obtain ⟨b, hb1, hb2⟩ := hl.pos hr0
    subst hb1
    refine ZW (List.append_assoc _ _ _) ?_
    refine Za ?_
    refine Lo Zh (W1x rfl rfl rfl rfl rfl) ?_
    refine Lo Zh (W13 rfl rfl rfl rfl rfl rfl rfl) ?_
    refine Zf (Zc (Zn ?_))
    refine E_keep (.inr rfl) (YC rfl rfl rfl rfl XH0 XH18) ?_
    refine ⟨_, 3 + b, ?_, rfl, ?_⟩
    ·show VVal.agg [_, _, _, .slice (some (H.length + 3 + b, 0)) _ _ false 3] = _; rw [Nat.add_assoc]; rfl
    ·rw [show 3 + b = b + 3 by omega]; exact hb2
theorem Cut_Rf {x : SW} (H : Ze) (p : Pb) (m : Nat) (hnr : (Zr p m).rules ≠ []) : F (psys x) 19 [.agg (pbB (Zr p m))] H (CrR H (Zr p m)) := by
  have := Cut_R (x := x) H (Zr p m) hnr
  rw [fewP_cut] at this; exact this
abbrev Zg {a0 a1 a2 a3 a4 a5 a6 a7 a8 a9 a10 a11 a12 a13 a14 a15 a16 a17 a18 a19 a20 a21 a22 a23 a24 a25 a26 a27 a28 a29 a30 a31 a32 a33 a34 a35 a36 a37 a38 a39 a40 a41 a42 a43 a44 a45 a46 a47 a48 a49 a50 a51 a52 a53 a54 a55 a56 a57 a58 a59 a60 a61 a62 a63 a64 a65 a66 a67 a68 a69 a70 a71 a72 a73 a74 a75 a76 a77 a78 a79 a80 a81 a82 a83 a84 a85 a86 a87 a88 a89 a90 a91 a92 a93 a94 a95 a96 a97 a98 a99 a100 a101 a102 a103 a104 a105 a106 a107 a108 a109 a110 a111 a112 a113 a114 a115 a116 a117 a118 a119 a120 a121 a122 a123 a124 a125 a126 a127 a128 a129 a130 a131 a132 a133 a134 a135 a136 a137 a138 a139 a140 a141 a142 a143 a144 a145 a146 a147 a148 a149 a150 : VVal} : VEnv := a0 :: a1 :: a2 :: a3 :: a4 :: a5 :: a6 :: a7 :: a8 :: a9 :: a10 :: a11 :: a12 :: a13 :: a14 :: a15 :: a16 :: a17 :: a18 :: a19 :: a20 :: a21 :: a22 :: a23 :: a24 :: a25 :: a26 :: a27 :: a28 :: a29 :: a30 :: a31 :: a32 :: a33 :: a34 :: a35 :: a36 :: a37 :: a38 :: a39 :: a40 :: a41 :: a42 :: a43 :: a44 :: a45 :: a46 :: a47 :: a48 :: a49 :: a50 :: a51 :: a52 :: a53 :: a54 :: a55 :: a56 :: a57 :: a58 :: a59 :: a60 :: a61 :: a62 :: a63 :: a64 :: a65 :: a66 :: a67 :: a68 :: a69 :: a70 :: a71 :: a72 :: a73 :: a74 :: a75 :: a76 :: a77 :: a78 :: a79 :: a80 :: a81 :: a82 :: a83 :: a84 :: a85 :: a86 :: a87 :: a88 :: a89 :: a90 :: a91 :: a92 :: a93 :: a94 :: a95 :: a96 :: a97 :: a98 :: a99 :: a100 :: a101 :: a102 :: a103 :: a104 :: a105 :: a106 :: a107 :: a108 :: a109 :: a110 :: a111 :: a112 :: a113 :: a114 :: a115 :: a116 :: a117 :: a118 :: a119 :: a120 :: a121 :: a122 :: a123 :: a124 :: a125 :: a126 :: a127 :: a128 :: a129 :: a130 :: a131 :: a132 :: a133 :: a134 :: a135 :: a136 :: a137 :: a138 :: a139 :: a140 :: a141 :: a142 :: a143 :: a144 :: a145 :: a146 :: a147 :: a148 :: a149 :: a150 :: []
theorem W5i {T : TypeId → Option VTy} {H : Ze} {op : Op} {ρ : Operand → VVal} {t : TypeId} {a : Operand} {y : VTy} {p v : VVal} (ho : op = .load t a) (ha : ρ a = p) (hy : T t = some y) (hd : Zm y.desc = false) (h : LdOk H p v := by first | exact .inl ⟨_, _, rfl, XH37⟩ | exact .inr ⟨_, _, _, _, rfl, by exact getBX hm, XH37⟩) : vop T ρ H op = some (v, H) := v_ld ho ha hy hd h
theorem W5m {T : TypeId → Option VTy} {H : Ze} {op : Op} {ρ : Operand → VVal} {t : TypeId} {a : Operand} {y : VTy} {p v : VVal} (ho : op = .load t a) (ha : ρ a = p) (hy : T t = some y) (hd : Zm y.desc = false) (h : LdOk H p v := by first | exact .inl ⟨_, _, rfl, by exact fget0W (by omega)⟩ | exact .inr ⟨_, _, _, _, rfl, by exact getBX hj, by exact fget0W (by omega)⟩) : vop T ρ H op = some (v, H) := v_ld ho ha hy hd h
theorem W5n {T : TypeId → Option VTy} {H : Ze} {op : Op} {ρ : VEnv} {H' : Ze} {t : TypeId} {a : Operand} {i : Nat} {v : VVal} {y : VTy} {b off : Nat} {cs new : List VVal} (ho : op = .store t a (.tmp i)) (hv : ρ[i]? = some v) (ha : ρ.eval a = .ptr (some (b, off))) (hy : T t = some y) (hx : v.cells = some new) (hn : new.length = y.size) (h1 : new.all VVal.one = true) (hb : H[b]? = some (.cells cs true) := by exact getBX hj) (hl : off + new.length ≤ cs.length := by show 0 + ((i : Nat) : Int).toNat * 1 + 1 ≤ _; rw [List.length_map]; omega) (hH : H.set b (.cells (ZC cs off new) true) = H' := by exact setBX.trans (congrArg (fun c => (H ++ [VBlk.dead, VBlk.dead, gaB (0 + leG (Zr p 9))]) ++ X.set j (VBlk.cells c true)) (spl_Wt (by omega)))) : vop T ρ.eval H op = some (.skip, H') := Ya ho hv ha hy hx hn h1 hb hl hH
theorem W5p {T : TypeId → Option VTy} {H : Ze} {op : Op} {ρ : Operand → VVal} {t : TypeId} {a : Operand} {y : VTy} {p v : VVal} (ho : op = .load t a) (ha : ρ a = p) (hy : T t = some y) (hd : Zm y.desc = false) (h : LdOk H p v := by first | exact .inl ⟨_, _, rfl, XH37⟩ | exact .inr ⟨_, _, _, _, rfl, by exact getBX hzm, XH37⟩) : vop T ρ H op = some (v, H) := v_ld ho ha hy hd h
theorem W5q {T : TypeId → Option VTy} {H : Ze} {op : Op} {ρ : VEnv} {H' : Ze} {t : TypeId} {a : Operand} {i : Nat} {v : VVal} {y : VTy} {b off : Nat} {cs new : List VVal} (ho : op = .store t a (.tmp i)) (hv : ρ[i]? = some v) (ha : ρ.eval a = .ptr (some (b, off))) (hy : T t = some y) (hx : v.cells = some new) (hn : new.length = y.size) (h1 : new.all VVal.one = true) (hb : H[b]? = some (.cells cs true) := by exact getBX (Z0 hzm hbm)) (hl : off + new.length ≤ cs.length := by exact XH38) (hH : H.set b (.cells (ZC cs off new) true) = H' := by exact setBX) : vop T ρ.eval H op = some (.skip, H') := Ya ho hv ha hy hx hn h1 hb hl hH
section
variable {T : TypeId → Option VTy} {ρ : Operand → VVal} {B Z : Ze} {op : Op}
theorem cut_app {s x : Operand} {ats : Array TypeId} {t u e : TypeId} {z : VTy} {du : TypeDesc} {rs : List Rul} {b a : Nat}
    (ho : op = .call { callee := .builtin .append, args := #[s, x], argTypes := ats }) (hat : ats = #[t, u]) (hz : velem T t = some (e, z)) (hu : (T u).map (·.desc) = some du) (hdu : isSeq du = true) (hs1 : z.size = 3)
    (hs : ρ s = .slice (some (B.length + b, 0)) a rs.length false 3) (hb : Z[b]? = some (.cells (rs.flatMap rlB) true)) (hk : YI (ρ x) = some (rs.length - (a + 1))) (hsrc : ZT (B ++ Z) 3 (rs.length - (a + 1)) (ρ x) = some ((rs.flatMap rlB).drop ((a + 1) * 3))) (ha : a < rs.length) (hz4 : z.bytes = 40) (hn : rs.length ≤ 1000) :
    ∃ v G, vop T ρ (B ++ Z) op = some (v, G) ∧ v = .slice (some (B.length + b, 0)) (a + (rs.length - (a + 1))) rs.length false 3 ∧ G = B ++ Z.set b (.cells (ZC (rs.flatMap rlB) (a * 3) ((rs.flatMap rlB).drop ((a + 1) * 3))) true) := by
  have h1 : ((rs.flatMap rlB).drop ((a + 1) * 3)).all VVal.one = true := by
    rw [List.all_eq_true]; intro v hv
    exact List.all_eq_true.1 fl_one v (List.mem_of_mem_drop hv)
  have := v_appInE ho hat hz hu hdu hs1 hs (getBX hb) hk hsrc (by rw [fl_drop, fl3, List.length_drop]) h1 (by decide) (by rw [hz4]; omega) (by omega) (by rw [fl3]; omega)
  rw [setBX] at this
  exact ⟨_, _, this, rfl, rfl⟩
end
theorem SolveMore_walk11 {x : SW} (H : Ze) (p : Pb) (ms : List (BitVec 64)) (k : Int) (hu : -9223372036854775808 ≤ p.users ∧ p.users < 9223372036854775808) (hnw : (Zr p 9).who ≠ []) (hnr : (Zr p 9).rules ≠ []) : F (psys x) 3 [.agg (pbB p), fzW ms, iI k] H fun v G => v = .bool true ∧ G = H := by
 have hL := fewP_L (m := 9) hu
 refine Zy Tryd.func3 rfl Zg rfl ?_
 refine Zd (Za ?_)
 refine Lo Zg (ZE rfl rfl rfl) ?_
 refine Lo Zg (Zj (VVal.bool false) (.inr rfl) rfl) ?_
 refine Zf (Zc (Zd ?_))
 refine Yg (Gh.freezePtrL (cs := pbB p) 3 0 rfl rfl rfl) ?_
 refine Za ?_
 refine Lo Zg (W2b rfl rfl rfl rfl rfl) ?_
 refine Zk rfl rfl rfl (by exact Few_spec _ p 9 hu) ?_
 rintro _ _ ⟨rfl, rfl⟩
 refine Le Zg ?_
 refine Lo Zg (Zw rfl rfl) ?_
 refine Lo Zg (W13 rfl rfl rfl rfl rfl rfl rfl) ?_
 refine Zf (Zc (Zd ?_))
 refine Yg (Gh.freezePtrL (cs := pbB (Zr p 9)) 7 1 rfl rfl rfl) ?_
 refine Za ?_
 refine Zk rfl rfl rfl (by exact sNew_spec _) ?_
 rintro _ _ ⟨rfl, rfl⟩; rw [List.append_assoc, List.length_append]
 refine Le Zg ?_
 refine Lo Zg (Zb (.inr rfl) rfl) ?_
 refine Zf (Zc (Zd (Zd (Za ?_))))
 refine Lo Zg (Zb (.inl rfl) rfl) ?_
 refine Lo Zg (v_is false rfl rfl) ?_
 refine Lo Zg (Zb (.inl rfl) rfl) ?_
 refine Zk rfl rfl rfl (by exact wakes_spec _) ?_
 rintro _ _ ⟨rfl, rfl⟩
 refine Le Zg ?_
 refine Lo Zg (rfl) ?_
 refine Lo Zg (Yf rfl rfl rfl) ?_
 refine Zf (Zc ?_)
 refine ZA rfl rfl ?_
 refine Zl (Zc (Zd (Zd (Za ?_))))
 refine Lo Zg (W2b rfl rfl rfl rfl rfl) ?_
 refine Zk rfl rfl rfl XH10 ?_
 rintro _ _ ⟨rfl, rfl⟩
 refine Le Zg ?_
 refine Zk rfl rfl rfl (by exact Yo _ (Zr p 9) hL) ?_
 rintro _ _ ⟨rfl, rfl⟩
 refine Le Zg ?_
 refine Lo Zg (rfl) ?_
 refine Zf (Zc ?_)
 refine Zo _ rfl (fun hc1 => ?_) (fun hc1 => ?_)
 ·try simp only [qB, qN] at hc1
  refine Zd ?_
  refine ZW (H' := (H ++ [VBlk.dead, VBlk.dead, gaB 0]) ++ []) XH23 ?_
  refine Za ?_
  refine Lo Zg (Zb (.inl rfl) rfl) ?_
  refine Lo Zg (W2b rfl rfl rfl rfl rfl) ?_
  refine Zk rfl rfl rfl XH10 ?_
  rintro _ _ ⟨rfl, rfl⟩
  refine Le Zg ?_
  refine Zk rfl rfl rfl XH21 ?_
  rintro v _ ⟨hv, rfl⟩; obtain rfl : v = .bool false := hv.trans (congrArg VVal.bool XH32)
  refine Le Zg ?_
  refine Lo Zg (rfl) ?_
  refine Lo Zg (Zb (.inr rfl) rfl) ?_
  refine Zf (Zc ?_)
  try refine ZW (List.append_assoc _ _ _) ?_
  refine Zn (Zu ?_)
  refine W10 (.inr rfl) (Zi rfl rfl) ?_
  exact ⟨rfl, rfl⟩
 ·try simp only [qB, qN] at hc1
  refine Zl (Zc (Zd ?_))
  have h0 : pck (Zr p 9) = 0 := by first | assumption | simp_all
  have g := pck_good.1 h0
  have g2 := g.u64; have g4 := g.u0; have g5 := g.fx
  have gn12 := g.n12; have gr := g.r32
  refine ZW (H' := (H ++ [VBlk.dead, VBlk.dead, gaB 0]) ++ []) XH23 ?_
  have hnw1 := List.length_pos_iff.2 hnw
  have hnf : (Zr p 9).fixed ≠ [] := List.length_pos_iff.1 (by omega)
  have hnr1 := List.length_pos_iff.2 hnr
  refine Za ?_
  refine Lo Zg (Zb (.inl rfl) rfl) ?_
  refine Lo Zg (W2b rfl rfl rfl rfl rfl) ?_
  refine Zk rfl rfl rfl XH10 ?_
  rintro _ _ ⟨rfl, rfl⟩
  refine Le Zg ?_
  refine Zk rfl rfl rfl XH21 ?_
  rintro v _ ⟨hv, rfl⟩; obtain ⟨c, hcn⟩ : ∃ c, c = (leA (Zr p 9)).isSome := ⟨_, rfl⟩; rw [← hcn] at hv; subst hv
  refine Le Zg ?_
  refine Lo Zg (Zb (.inr rfl) rfl) ?_
  refine Zf (Zc (Zd (Za ?_)))
  refine Lo Zg (W2b rfl rfl rfl rfl rfl) ?_
  refine Zk rfl rfl rfl (by exact Cut_Lf _ p 9 hnw hnf) ?_
  rintro v G ⟨Y, j, k9, rfl, rfl, hj, hk, hne⟩; rw [List.append_nil]; have hjl := ZD hj; have hkl := ZD hk
  refine Le Zg ?_
  refine Lo Zg (Zw rfl rfl) ?_
  refine Lo Zg (W13 rfl rfl rfl rfl rfl rfl rfl) ?_
  refine Zf (Zc ?_)
  refine B_seqJ (mk 151 2854495385411919762116571938898990272765491323) (fun (u0 : Unit) => []) (fun (u0 : Unit) G => (True) ∧ ∃ W X, G = (H ++ [VBlk.dead, VBlk.dead, gaB (0 + leG (Zr p 9))]) ++ X ∧ Wd (Zr p 9) W ∧ X[j]? = some (.cells (W.map iW) true) ∧ X[k9]? = some (.cells ((Zr p 9).fixed.map iI) true) ∧ X[Y.length]? = some (VBlk.cells [iI (Zr p 9).users, .slice (some ((H ++ [VBlk.dead, VBlk.dead, gaB (0 + leG (Zr p 9))]).length + j, 0)) (Zr p 9).who.length (Zr p 9).who.length false 1, .slice (some ((H ++ [VBlk.dead, VBlk.dead, gaB (0 + leG (Zr p 9))]).length + k9, 0)) (Zr p 9).fixed.length (Zr p 9).fixed.length false 1, fzR (Zr p 9).rules] true)) ?_ ?_
  ·skip
   refine Zd (Za ?_)
   refine Lo Zg (Zj (VVal.int .i64 0) (.inr rfl) rfl) ?_
   refine Zf (Zc (Zp ?_))
   refine ZI (mk 151 2854495385411919762116571938898990272765489273) (env' := Zg) rfl ?_
   refine ZP (fun (i : Nat) => (Zr p 9).who.length - i) (fun (i : Nat) => [(11, iI (i : Nat))]) (fun (i : Nat) G => (i ≤ (Zr p 9).who.length) ∧ ∃ W X, G = (H ++ [VBlk.dead, VBlk.dead, gaB (0 + leG (Zr p 9))]) ++ X ∧ Wd (Zr p 9) W ∧ X[j]? = some (.cells (W.map iW) true) ∧ X[k9]? = some (.cells ((Zr p 9).fixed.map iI) true) ∧ X[Y.length]? = some (VBlk.cells [iI (Zr p 9).users, .slice (some ((H ++ [VBlk.dead, VBlk.dead, gaB (0 + leG (Zr p 9))]).length + j, 0)) (Zr p 9).who.length (Zr p 9).who.length false 1, .slice (some ((H ++ [VBlk.dead, VBlk.dead, gaB (0 + leG (Zr p 9))]).length + k9, 0)) (Zr p 9).fixed.length (Zr p 9).fixed.length false 1, fzR (Zr p 9).rules] true)) 0 rfl ?_ ?_
   ·refine ⟨?_, ⟨_, _, rfl, Wd_0, Zq hj, Zq hk, get_end⟩⟩
    exact Nat.zero_le _
   rintro i _ ⟨hi, ⟨W, X, rfl, hW, hj, hk, hm⟩⟩
   refine ZZ (env' := Zg) rfl ?_
   refine Zd (Zd (Za ?_))
   refine Lo Zg (Zb (.inl rfl) rfl) ?_
   refine Lo Zg (rfl) ?_
   refine Lo Zg (W5i rfl rfl rfl rfl) ?_
   refine Lo Zg (rfl) ?_
   refine Lo Zg (rfl) ?_
   refine Lo Zg (Zb (.inl rfl) rfl) ?_
   refine ZF 49 (env1 := Zg) (env2 := Zg) rfl rfl rfl (fun hg2 => ?_) (fun hg2 => ?_)
   ·try simp only [qB, qN] at hg2
    try subst hg2
    refine Lo Zg (Zb (.inl rfl) rfl) ?_
    refine Lo Zg (Zb (.inl rfl) rfl) ?_
    refine Lo Zg (rfl) ?_
    refine Lo Zg (rfl) ?_
    refine Lo Zg (Zx rfl rfl rfl) ?_
    refine Zf (Zc ?_)
    refine Zo _ rfl (fun hc3 => ?_) (fun hc3 => ?_)
    ·try simp only [qB, qN] at hc3
     refine Zl (Zc (Zd (Zp (Zd ?_))))
     have hi9 : i < (Zr p 9).who.length := by omega
     have hWl := hW.1
     refine Za ?_
     refine Lo Zg (Zb (.inl rfl) rfl) ?_
     refine Lo Zg (Zb (.inl rfl) rfl) ?_
     refine Lo Zg (W18 rfl rfl rfl rfl rfl rfl rfl) ?_
     refine Lo Zg (W4b rfl rfl rfl rfl) ?_
     refine Lo Zg (Zb (.inr rfl) rfl) ?_
     refine Zf (Zc (Zd (Zd (Za ?_))))
     refine Lo Zg (rfl) ?_
     refine Lo Zg (W2d rfl rfl rfl rfl) ?_
     refine Lo Zg (rfl) ?_
     refine Zf (Zc ?_)
     refine Zo _ rfl (fun hc4 => ?_) (fun hc4 => ?_)
     ·try simp only [qB, qN] at hc4
      refine Za ?_
      refine Lo Zg (Zb (.inl rfl) rfl) ?_
      refine Lo Zg (rfl) ?_
      refine Lo Zg (W2d rfl rfl rfl rfl) ?_
      refine Lo Zg (v_shl1 rfl rfl rfl XH3) ?_
      refine Lo Zg (v_subW (b := 1#64) rfl rfl rfl) ?_
      refine Lo Zg (v_andW rfl rfl rfl) ?_
      refine Lo Zg (Zb (.inr rfl) rfl) ?_
      refine Zf (Zc ?_)
      refine ZS [0, 1, 2, 3, 4, 5, 6, 7, 8, 9, 10, 11] #[0, 1, 0, 0, 8, 0, 56, 120, 0, 504, 1023, 2047] XH2 XH2 XH2 ?_
      refine Oo Zg .calm rfl (rfl) ?_
      refine Oo Zg .look rfl (W5i rfl rfl rfl rfl) ?_
      refine Oo Zg .calm rfl (Zb (.inl rfl) rfl) ?_
      refine Oo Zg .calm rfl (rfl) ?_
      refine Oo Zg .look rfl (W5i rfl rfl rfl rfl) ?_
      refine Oo Zg .calm rfl (Zb (.inl rfl) rfl) ?_
      refine Oo Zg .calm rfl (W18 rfl rfl rfl rfl rfl rfl rfl) ?_
      refine Oo Zg .look rfl (W5m rfl rfl rfl rfl) ?_
      refine Oo Zg .calm rfl (Zb (.inl rfl) rfl) ?_
      refine Oo Zg .calm rfl (v_orW rfl rfl rfl) ?_
      refine Oo Zg .calm rfl (W18 rfl rfl rfl rfl rfl rfl rfl) ?_
      refine Oo Zg .turn rfl (W5n rfl rfl rfl rfl rfl rfl rfl) ?_
      refine ZR [] XH2 (trivial) ?_
      refine ZG (Zc (Za ?_))
      refine Lo Zg (Zb (.inl rfl) rfl) ?_
      refine Lo Zg (W14 rfl rfl rfl) ?_
      refine Lo Zg (Zb (.inr rfl) rfl) ?_
      refine Zf ?_
      refine Zz (mk 151 2854495385411919762116571938898990272765489273) (env' := Zg) rfl ⟨i + 1, ?_, rfl, ?_⟩
      ·first | omega | (simp only []; omega)
      ·first | exact ⟨by omega, _, _, rfl, Wd_set hW hi9 (mask_hi (by omega)), Yj hj, Z0 hk hne, Z0 hm (by omega)⟩ | exact ⟨by omega, _, _, rfl, Wd_set hW hi9 (hi_64 (by omega)), Yj hj, Z0 hk hne, Z0 hm (by omega)⟩
     ·try simp only [qB, qN] at hc4
      refine Zl (Zc ?_)
      refine ZS [0, 1, 2, 3, 4, 5, 6, 7, 8, 9, 10, 11] #[0, 1, 0, 0, 8, 0, 56, 120, 0, 504, 1023, 2047] XH2 XH2 XH2 ?_
      refine Oo Zg .calm rfl (rfl) ?_
      refine Oo Zg .look rfl (W5i rfl rfl rfl rfl) ?_
      refine Oo Zg .calm rfl (Zb (.inl rfl) rfl) ?_
      refine Oo Zg .calm rfl (rfl) ?_
      refine Oo Zg .look rfl (W5i rfl rfl rfl rfl) ?_
      refine Oo Zg .calm rfl (Zb (.inl rfl) rfl) ?_
      refine Oo Zg .calm rfl (W18 rfl rfl rfl rfl rfl rfl rfl) ?_
      refine Oo Zg .look rfl (W5m rfl rfl rfl rfl) ?_
      refine Oo Zg .calm rfl (Zb (.inl rfl) rfl) ?_
      refine Oo Zg .calm rfl (v_orW rfl rfl rfl) ?_
      refine Oo Zg .calm rfl (W18 rfl rfl rfl rfl rfl rfl rfl) ?_
      refine Oo Zg .turn rfl (W5n rfl rfl rfl rfl rfl rfl rfl) ?_
      refine ZR [] XH2 (trivial) ?_
      refine ZG (Zc (Za ?_))
      refine Lo Zg (Zb (.inl rfl) rfl) ?_
      refine Lo Zg (W14 rfl rfl rfl) ?_
      refine Lo Zg (Zb (.inr rfl) rfl) ?_
      refine Zf ?_
      refine Zz (mk 151 2854495385411919762116571938898990272765489273) (env' := Zg) rfl ⟨i + 1, ?_, rfl, ?_⟩
      ·first | omega | (simp only []; omega)
      ·first | exact ⟨by omega, _, _, rfl, Wd_set hW hi9 (mask_hi (by omega)), Yj hj, Z0 hk hne, Z0 hm (by omega)⟩ | exact ⟨by omega, _, _, rfl, Wd_set hW hi9 (hi_64 (by omega)), Yj hj, Z0 hk hne, Z0 hm (by omega)⟩
    ·try simp only [qB, qN] at hc3
     refine ZL (ZJ (ZB (ZK ?_)))
     refine Zz (mk 151 2854495385411919762116571938898990272765491323) (env' := Zg) rfl ⟨(), rfl, ?_⟩
     exact ⟨trivial, _, _, rfl, hW, hj, hk, hm⟩
   ·try simp only [qB, qN] at hg2
    try subst hg2
    refine Lf Zg ?_
    refine Lf Zg ?_
    refine Lf Zg ?_
    refine Lf Zg ?_
    refine Lo Zg (Zv (VVal.bool false) rfl rfl rfl) ?_
    refine Zf (Zc ?_)
    refine ZA rfl rfl ?_
    refine ZL (ZJ (ZB (ZK ?_)))
    refine Zz (mk 151 2854495385411919762116571938898990272765491323) (env' := Zg) rfl ⟨(), rfl, ?_⟩
    exact ⟨trivial, _, _, rfl, hW, hj, hk, hm⟩
  ·rintro u0 _ ⟨_, ⟨W, X, rfl, hW, hj, hk, hm⟩⟩
   refine ZZ (env' := Zg) rfl ?_
   refine Zd ?_
   obtain ⟨X3, hg3, hm3⟩ := nm_gh (S := psys x) hj hk hm hW.1 rfl hne (by omega) (by omega)
   refine Yg (hg3 _ _) ?_
   refine Yg (Gh.freezePtrL (H := (H ++ [VBlk.dead, VBlk.dead, gaB (0 + leG (Zr p 9))])) (L := X3) (cs := pbB (wdP (Zr p 9) W)) 10 Y.length rfl hm3 rfl) ?_
   obtain ⟨X4, hX4⟩ : ∃ X4, X4 = X3.set Y.length .dead := ⟨_, rfl⟩
   rw [← hX4]
   refine Za ?_
   refine Lo Zg (W2b rfl rfl rfl rfl rfl) ?_
   refine Zk rfl rfl rfl (by exact Cut_Rf _ p 9 hnr) ?_
   rintro v G ⟨Y2, b, rfl, rfl, hb⟩
   refine Le Zg ?_
   refine Lo Zg (Zw rfl rfl) ?_
   refine Lo Zg (W13 rfl rfl rfl rfl rfl rfl rfl) ?_
   refine Zf (Zc (Zd (Zd ?_)))
   obtain ⟨m5, hm5⟩ : ∃ m, m = Y2.length := ⟨_, rfl⟩
   rw [← hm5]
   have hbl := ZD hb
   have hbm : b ≠ m5 := by omega
   obtain ⟨Z, hZ, hzb, hzm⟩ : ∃ Z, Y2 ++ [VBlk.cells [iI (Zr p 9).users, fzW (Zr p 9).who, fzI (Zr p 9).fixed, .slice (some (((H ++ [VBlk.dead, VBlk.dead, gaB (0 + leG (Zr p 9))]) ++ X4).length + b, 0)) (Zr p 9).rules.length (Zr p 9).rules.length false 3] true] = Z ∧ Z[b]? = some (.cells ((Zr p 9).rules.flatMap rlB) true) ∧ Z[m5]? = some (VBlk.cells [iI (Zr p 9).users, fzW (Zr p 9).who, fzI (Zr p 9).fixed, .slice (some (((H ++ [VBlk.dead, VBlk.dead, gaB (0 + leG (Zr p 9))]) ++ X4).length + b, 0)) (Zr p 9).rules.length (Zr p 9).rules.length false 3] true) := ⟨_, rfl, Zq hb, by rw [hm5]; exact get_end⟩
   refine ZW (H' := ((H ++ [VBlk.dead, VBlk.dead, gaB (0 + leG (Zr p 9))]) ++ X4) ++ Z) (congrArg (fun z => ((H ++ [VBlk.dead, VBlk.dead, gaB (0 + leG (Zr p 9))]) ++ X4) ++ z) hZ) ?_
   refine Za ?_
   refine Lo Zg (rfl) ?_
   refine Lo Zg (W5p rfl rfl rfl rfl) ?_
   refine Lo Zg (rfl) ?_
   refine Lo Zg (v_is true rfl (by simp; omega)) ?_
   refine Zf (Zc ?_)
   refine ZV rfl rfl ?_
   refine Zd (Za ?_)
   refine Lo Zg (Zb (.inl rfl) rfl) ?_
   refine Lo Zg (rfl) ?_
   refine Lo Zg (W5p rfl rfl rfl rfl) ?_
   refine Lo Zg (rfl) ?_
   refine Lo Zg (v_rem rfl rfl rfl XH3) ?_
   refine Lo Zg (Zb (.inr rfl) rfl) ?_
   refine Zf (Zc (Zd (Zd (Za ?_))))
   refine Lo Zg (Zb (.inl rfl) rfl) ?_
   refine Lo Zg (rfl) ?_
   refine Zf (Zc ?_)
   refine Zo _ rfl (fun hc5 => ?_) (fun hc5 => ?_)
   ·try simp only [qB, qN] at hc5
    have hng : k.tmod ((Zr p 9).rules.length : Nat) < 0 := by assumption
    have hb9 := (tm_n k (u := ((Zr p 9).rules.length : Int)) (by omega)).1
    refine Za ?_
    refine Lo Zg (Zb (.inl rfl) rfl) ?_
    refine Lo Zg (rfl) ?_
    refine Lo Zg (W5p rfl rfl rfl rfl) ?_
    refine Lo Zg (rfl) ?_
    refine Lo Zg (W14 rfl rfl rfl) ?_
    refine Lo Zg (Zb (.inr rfl) rfl) ?_
    refine Zf (Zc ?_)
    first | (obtain ⟨a, hae, hal⟩ := at_neg hnr1 (by assumption); rw [hae]) | (obtain ⟨a, hae, hal⟩ := at_pos hnr1 (by assumption); rw [hae])
    refine ZS [0, 1, 2, 3, 4, 5, 6, 7, 8, 9, 10, 11] #[0, 1, 0, 7, 0, 16, 0, 64, 240, 511, 1023, 2047] XH2 XH2 XH2 ?_
    refine Oo Zg .calm rfl (rfl) ?_
    refine Oo Zg .look rfl (W5p rfl rfl rfl rfl) ?_
    refine Oo Zg .calm rfl (Zb (.inl rfl) rfl) ?_
    refine Oo Zg .calm rfl (v_slHiE rfl rfl rfl rfl rfl rfl rfl (by omega) hnr1) ?_
    refine Oo Zg .calm rfl (rfl) ?_
    refine Oo Zg .look rfl (W5p rfl rfl rfl rfl) ?_
    refine Oo Zg .calm rfl (Zb (.inl rfl) rfl) ?_
    refine Oo Zg .calm rfl (W14 rfl rfl rfl) ?_
    refine O_opX .calm rfl rfl rfl (v_slTailE (l := a + 1) rfl rfl rfl rfl rfl rfl rfl (by omega) hnr1 (getBX hzb) fl3) rfl rfl ?_
    rintro v2 _ ⟨rfl, hv1, hv2⟩
    refine O_env (env' := Zg) rfl ?_
    refine O_opX .turn rfl rfl rfl (cut_app rfl rfl rfl rfl rfl rfl rfl hzb hv1 hv2 hal (by rfl) (by omega)) rfl rfl ?_
    rintro _ _ ⟨rfl, rfl⟩
    refine O_env (env' := Zg) rfl ?_
    refine Oo Zg .calm rfl (rfl) ?_
    refine Oo Zg .turn rfl (W5q rfl rfl rfl rfl rfl rfl rfl) ?_
    refine ZR [] XH2 (trivial) ?_
    refine Zc (Zd (Zd ?_))
    obtain ⟨Z2, hg4, hz2⟩ := ls_gh (S := psys x) (B := ((H ++ [VBlk.dead, VBlk.dead, gaB (0 + leG (Zr p 9))]) ++ X4)) (rs := (cutO (Zr p 9).rules a)) (len := a + ((Zr p 9).rules.length - (a + 1))) (n := (Zr p 9).rules.length) (Z0 (Yj hzb) hbm.symm) (Yj (Z0 hzm hbm)) (cut_cells hal) XH34 (by omega) hbm
    refine Yg (hg4 _ _) ?_
    refine Yg (Gh.freezePtrL (H := ((H ++ [VBlk.dead, VBlk.dead, gaB (0 + leG (Zr p 9))]) ++ X4)) (L := Z2) (cs := pbB (lsP (Zr p 9) (cutO (Zr p 9).rules a))) 13 m5 rfl hz2 rfl) ?_
    refine ZW (List.append_assoc _ _ _) ?_
    obtain ⟨X5, hX5⟩ : ∃ X5, X5 = X4 ++ Z2.set m5 .dead := ⟨_, rfl⟩
    rw [← hX5]
    refine Za ?_
    refine Lo Zg (Zb (.inl rfl) rfl) ?_
    refine Lo Zg (Zb (.inl rfl) rfl) ?_
    refine ZF 111 (env1 := Zg) (env2 := Zg) rfl rfl rfl (fun hg6 => ?_) (fun hg6 => ?_)
    ·try simp only [qB, qN] at hg6
     try subst hg6
     refine Lo Zg (Zb (.inl rfl) rfl) ?_
     refine Lo Zg (W2b rfl rfl rfl rfl rfl) ?_
     refine Zk rfl rfl rfl (by exact Can_m _ (wdP (Zr p 9) W) (wdP_L hL hW)) ?_
     rintro v _ ⟨hv, rfl⟩; obtain rfl : v = .bool true := hv.trans (congrArg VVal.bool (wd_some hW hcn))
     refine Le Zg ?_
     refine Lo Zg (rfl) ?_
     refine Lo Zg (Zb (.inl rfl) rfl) ?_
     refine Lo Zg (Zb (.inl rfl) rfl) ?_
     refine Lo Zg (W2b rfl rfl rfl rfl rfl) ?_
     refine Zk rfl rfl rfl XH14 ?_
     rintro v _ ⟨hv, rfl⟩; obtain rfl : v = .bool true := hv.trans (congrArg VVal.bool (ls_some XH34 cutO_mem hcn))
     refine Le Zg ?_
     refine Lo Zg (rfl) ?_
     refine Lo Zg (Yf rfl rfl rfl) ?_
     refine Lo Zg (Zx rfl rfl rfl) ?_
     refine Zf (Zc ?_)
     refine ZA rfl rfl ?_
     refine Zl (Zc (Zd (Za ?_)))
     refine Lo Zg (Zb (.inl rfl) rfl) ?_
     refine Lo Zg (W2b rfl rfl rfl rfl rfl) ?_
     refine Zk rfl rfl rfl XH10 ?_
     rintro _ _ ⟨rfl, rfl⟩
     refine Le Zg ?_
     refine Zk rfl rfl rfl XH13 ?_
     rintro v _ ⟨hv, rfl⟩; first | (obtain ⟨l0, hl0⟩ := Option.isSome_iff_exists.1 hcn.symm; rw [hl0] at hv; obtain rfl : v = .tuple [fzN l0, .bool true] := hv) | (rw [show leA (Zr p 9) = none from Option.not_isSome_iff_eq_none.1 XH22] at hv; obtain rfl : v = .tuple [fzN [], .bool false] := hv)
     refine Le Zg ?_
     refine Lo Zg (Zb (.inl rfl) rfl) ?_
     refine Lo Zg (rfl) ?_
     refine Lo Zg (rfl) ?_
     refine Lo Zg (Zb (.inr rfl) rfl) ?_
     refine Lo Zg (Zb (.inr rfl) rfl) ?_
     refine Zf (Zc (Zd (Zd (Za ?_))))
     refine Lo Zg (Zb (.inl rfl) rfl) ?_
     refine Zf (Zc ?_)
     refine ZV rfl rfl ?_
     refine Zd ?_
     have hld := YK hl0
     have hl12 := hds_len' hld
     have hln := hl12.2
     refine Za ?_
     refine Lo Zg (W2b rfl rfl rfl rfl rfl) ?_
     refine Zk rfl rfl rfl XH10 ?_
     rintro _ _ ⟨rfl, rfl⟩
     refine Le Zg ?_
     refine Lo Zg (Zw rfl rfl) ?_
     refine Lo Zg (W13 rfl rfl rfl rfl rfl rfl rfl) ?_
     refine Zf (Zc (Zd (Za ?_)))
     refine Lo Zg (Zb (.inl rfl) rfl) ?_
     refine Zk rfl rfl rfl XH31 ?_
     rintro v _ ⟨hv, rfl⟩; rw [fzN_is] at hv; subst hv
     refine Le Zg ?_
     refine Lo Zg (rfl) ?_
     refine Lo Zg (W13 rfl rfl rfl rfl rfl rfl rfl) ?_
     refine Zf (Zc (Zd (Za ?_)))
     refine Lo Zg (Zb (.inl rfl) rfl) ?_
     refine Lo Zg (W2b rfl rfl rfl rfl rfl) ?_
     refine Zk rfl rfl rfl XH19 ?_
     rintro v _ ⟨hv, rfl⟩; rw [fd_is hl0] at hv; obtain rfl : v = .tuple [fzN l0, .bool true] := hv
     refine Le Zg ?_
     refine Lo Zg (Zb (.inl rfl) rfl) ?_
     refine Lo Zg (rfl) ?_
     refine Lo Zg (rfl) ?_
     refine Lo Zg (Zb (.inr rfl) rfl) ?_
     refine Lo Zg (Zb (.inr rfl) rfl) ?_
     refine Zf (Zc (Zd (Za ?_)))
     refine Lo Zg (Zb (.inl rfl) rfl) ?_
     refine Lo Zg (Zb (.inl rfl) rfl) ?_
     refine Lo Zg (Zb (.inl rfl) rfl) ?_
     refine Lo Zg (Zb (.inl rfl) rfl) ?_
     refine Zk rfl rfl rfl XH27 ?_
     rintro _ _ ⟨rfl, rfl⟩
     refine Le Zg ?_
     refine Lo Zg (Zx rfl rfl rfl) ?_
     refine Lo Zg (Zb (.inr rfl) rfl) ?_
     refine Zf (Zc ?_)
     try refine ZW (List.append_assoc _ _ _) ?_
     refine Zn (Zu ?_)
     refine W10 (.inr rfl) (Zi rfl rfl) ?_
     exact ⟨rfl, rfl⟩
    ·try simp only [qB, qN] at hg6
     try subst hg6
     refine Lf Zg ?_
     refine Lf Zg ?_
     refine Lf Zg ?_
     refine Lf Zg ?_
     refine Lf Zg ?_
     refine Lf Zg ?_
     refine Lf Zg ?_
     refine Lf Zg ?_
     refine Lf Zg ?_
     refine Lf Zg ?_
     refine Lo Zg (Zv (VVal.bool false) rfl rfl rfl) ?_
     refine Zf (Zc ?_)
     refine ZA rfl rfl ?_
     refine Zl (Zc (Zd (Za ?_)))
     refine Lo Zg (Zb (.inl rfl) rfl) ?_
     refine Lo Zg (W2b rfl rfl rfl rfl rfl) ?_
     refine Zk rfl rfl rfl XH10 ?_
     rintro _ _ ⟨rfl, rfl⟩
     refine Le Zg ?_
     refine Zk rfl rfl rfl XH13 ?_
     rintro v _ ⟨hv, rfl⟩; first | (obtain ⟨l0, hl0⟩ := Option.isSome_iff_exists.1 hcn.symm; rw [hl0] at hv; obtain rfl : v = .tuple [fzN l0, .bool true] := hv) | (rw [show leA (Zr p 9) = none from Option.not_isSome_iff_eq_none.1 XH22] at hv; obtain rfl : v = .tuple [fzN [], .bool false] := hv)
     refine Le Zg ?_
     refine Lo Zg (Zb (.inl rfl) rfl) ?_
     refine Lo Zg (rfl) ?_
     refine Lo Zg (rfl) ?_
     refine Lo Zg (Zb (.inr rfl) rfl) ?_
     refine Lo Zg (Zb (.inr rfl) rfl) ?_
     refine Zf (Zc (Zd (Zd (Za ?_))))
     refine Lo Zg (Zb (.inl rfl) rfl) ?_
     refine Zf (Zc ?_)
     refine ZA rfl rfl ?_
     refine Zl (Zc (Zd (Za ?_)))
     refine Lo Zg (Zb (.inl rfl) rfl) ?_
     refine Lo Zg (rfl) ?_
     refine Lo Zg (v_is true rfl (by rfl)) ?_
     refine Lo Zg (Zb (.inr rfl) rfl) ?_
     refine Zf (Zc ?_)
     try refine ZW (List.append_assoc _ _ _) ?_
     refine Zn ?_
     refine W10 (.inr rfl) (Zi rfl rfl) ?_
     exact ⟨rfl, rfl⟩
   ·try simp only [qB, qN] at hc5
    refine Zl (Zc ?_)
    first | (obtain ⟨a, hae, hal⟩ := at_neg hnr1 (by assumption); rw [hae]) | (obtain ⟨a, hae, hal⟩ := at_pos hnr1 (by assumption); rw [hae])
    refine ZS [0, 1, 2, 3, 4, 5, 6, 7, 8, 9, 10, 11] #[0, 1, 0, 7, 0, 16, 0, 64, 240, 511, 1023, 2047] XH2 XH2 XH2 ?_
    refine Oo Zg .calm rfl (rfl) ?_
    refine Oo Zg .look rfl (W5p rfl rfl rfl rfl) ?_
    refine Oo Zg .calm rfl (Zb (.inl rfl) rfl) ?_
    refine Oo Zg .calm rfl (v_slHiE rfl rfl rfl rfl rfl rfl rfl (by omega) hnr1) ?_
    refine Oo Zg .calm rfl (rfl) ?_
    refine Oo Zg .look rfl (W5p rfl rfl rfl rfl) ?_
    refine Oo Zg .calm rfl (Zb (.inl rfl) rfl) ?_
    refine Oo Zg .calm rfl (W14 rfl rfl rfl) ?_
    refine O_opX .calm rfl rfl rfl (v_slTailE (l := a + 1) rfl rfl rfl rfl rfl rfl rfl (by omega) hnr1 (getBX hzb) fl3) rfl rfl ?_
    rintro v2 _ ⟨rfl, hv1, hv2⟩
    refine O_env (env' := Zg) rfl ?_
    refine O_opX .turn rfl rfl rfl (cut_app rfl rfl rfl rfl rfl rfl rfl hzb hv1 hv2 hal (by rfl) (by omega)) rfl rfl ?_
    rintro _ _ ⟨rfl, rfl⟩
    refine O_env (env' := Zg) rfl ?_
    refine Oo Zg .calm rfl (rfl) ?_
    refine Oo Zg .turn rfl (W5q rfl rfl rfl rfl rfl rfl rfl) ?_
    refine ZR [] XH2 (trivial) ?_
    refine Zc (Zd (Zd ?_))
    obtain ⟨Z2, hg4, hz2⟩ := ls_gh (S := psys x) (B := ((H ++ [VBlk.dead, VBlk.dead, gaB (0 + leG (Zr p 9))]) ++ X4)) (rs := (cutO (Zr p 9).rules a)) (len := a + ((Zr p 9).rules.length - (a + 1))) (n := (Zr p 9).rules.length) (Z0 (Yj hzb) hbm.symm) (Yj (Z0 hzm hbm)) (cut_cells hal) XH34 (by omega) hbm
    refine Yg (hg4 _ _) ?_
    refine Yg (Gh.freezePtrL (H := ((H ++ [VBlk.dead, VBlk.dead, gaB (0 + leG (Zr p 9))]) ++ X4)) (L := Z2) (cs := pbB (lsP (Zr p 9) (cutO (Zr p 9).rules a))) 13 m5 rfl hz2 rfl) ?_
    refine ZW (List.append_assoc _ _ _) ?_
    obtain ⟨X5, hX5⟩ : ∃ X5, X5 = X4 ++ Z2.set m5 .dead := ⟨_, rfl⟩
    rw [← hX5]
    refine Za ?_
    refine Lo Zg (Zb (.inl rfl) rfl) ?_
    refine Lo Zg (Zb (.inl rfl) rfl) ?_
    refine ZF 111 (env1 := Zg) (env2 := Zg) rfl rfl rfl (fun hg7 => ?_) (fun hg7 => ?_)
    ·try simp only [qB, qN] at hg7
     try subst hg7
     refine Lo Zg (Zb (.inl rfl) rfl) ?_
     refine Lo Zg (W2b rfl rfl rfl rfl rfl) ?_
     refine Zk rfl rfl rfl (by exact Can_m _ (wdP (Zr p 9) W) (wdP_L hL hW)) ?_
     rintro v _ ⟨hv, rfl⟩; obtain rfl : v = .bool true := hv.trans (congrArg VVal.bool (wd_some hW hcn))
     refine Le Zg ?_
     refine Lo Zg (rfl) ?_
     refine Lo Zg (Zb (.inl rfl) rfl) ?_
     refine Lo Zg (Zb (.inl rfl) rfl) ?_
     refine Lo Zg (W2b rfl rfl rfl rfl rfl) ?_
     refine Zk rfl rfl rfl XH14 ?_
     rintro v _ ⟨hv, rfl⟩; obtain rfl : v = .bool true := hv.trans (congrArg VVal.bool (ls_some XH34 cutO_mem hcn))
     refine Le Zg ?_
     refine Lo Zg (rfl) ?_
     refine Lo Zg (Yf rfl rfl rfl) ?_
     refine Lo Zg (Zx rfl rfl rfl) ?_
     refine Zf (Zc ?_)
     refine ZA rfl rfl ?_
     refine Zl (Zc (Zd (Za ?_)))
     refine Lo Zg (Zb (.inl rfl) rfl) ?_
     refine Lo Zg (W2b rfl rfl rfl rfl rfl) ?_
     refine Zk rfl rfl rfl XH10 ?_
     rintro _ _ ⟨rfl, rfl⟩
     refine Le Zg ?_
     refine Zk rfl rfl rfl XH13 ?_
     rintro v _ ⟨hv, rfl⟩; first | (obtain ⟨l0, hl0⟩ := Option.isSome_iff_exists.1 hcn.symm; rw [hl0] at hv; obtain rfl : v = .tuple [fzN l0, .bool true] := hv) | (rw [show leA (Zr p 9) = none from Option.not_isSome_iff_eq_none.1 XH22] at hv; obtain rfl : v = .tuple [fzN [], .bool false] := hv)
     refine Le Zg ?_
     refine Lo Zg (Zb (.inl rfl) rfl) ?_
     refine Lo Zg (rfl) ?_
     refine Lo Zg (rfl) ?_
     refine Lo Zg (Zb (.inr rfl) rfl) ?_
     refine Lo Zg (Zb (.inr rfl) rfl) ?_
     refine Zf (Zc (Zd (Zd (Za ?_))))
     refine Lo Zg (Zb (.inl rfl) rfl) ?_
     refine Zf (Zc ?_)
     refine ZV rfl rfl ?_
     refine Zd ?_
     have hld := YK hl0
     have hl12 := hds_len' hld
     have hln := hl12.2
     refine Za ?_
     refine Lo Zg (W2b rfl rfl rfl rfl rfl) ?_
     refine Zk rfl rfl rfl XH10 ?_
     rintro _ _ ⟨rfl, rfl⟩
     refine Le Zg ?_
     refine Lo Zg (Zw rfl rfl) ?_
     refine Lo Zg (W13 rfl rfl rfl rfl rfl rfl rfl) ?_
     refine Zf (Zc (Zd (Za ?_)))
     refine Lo Zg (Zb (.inl rfl) rfl) ?_
     refine Zk rfl rfl rfl XH31 ?_
     rintro v _ ⟨hv, rfl⟩; rw [fzN_is] at hv; subst hv
     refine Le Zg ?_
     refine Lo Zg (rfl) ?_
     refine Lo Zg (W13 rfl rfl rfl rfl rfl rfl rfl) ?_
     refine Zf (Zc (Zd (Za ?_)))
     refine Lo Zg (Zb (.inl rfl) rfl) ?_
     refine Lo Zg (W2b rfl rfl rfl rfl rfl) ?_
     refine Zk rfl rfl rfl XH19 ?_
     rintro v _ ⟨hv, rfl⟩; rw [fd_is hl0] at hv; obtain rfl : v = .tuple [fzN l0, .bool true] := hv
     refine Le Zg ?_
     refine Lo Zg (Zb (.inl rfl) rfl) ?_
     refine Lo Zg (rfl) ?_
     refine Lo Zg (rfl) ?_
     refine Lo Zg (Zb (.inr rfl) rfl) ?_
     refine Lo Zg (Zb (.inr rfl) rfl) ?_
     refine Zf (Zc (Zd (Za ?_)))
     refine Lo Zg (Zb (.inl rfl) rfl) ?_
     refine Lo Zg (Zb (.inl rfl) rfl) ?_
     refine Lo Zg (Zb (.inl rfl) rfl) ?_
     refine Lo Zg (Zb (.inl rfl) rfl) ?_
     refine Zk rfl rfl rfl XH27 ?_
     rintro _ _ ⟨rfl, rfl⟩
     refine Le Zg ?_
     refine Lo Zg (Zx rfl rfl rfl) ?_
     refine Lo Zg (Zb (.inr rfl) rfl) ?_
     refine Zf (Zc ?_)
     try refine ZW (List.append_assoc _ _ _) ?_
     refine Zn (Zu ?_)
     refine W10 (.inr rfl) (Zi rfl rfl) ?_
     exact ⟨rfl, rfl⟩
    ·try simp only [qB, qN] at hg7
     try subst hg7
     refine Lf Zg ?_
     refine Lf Zg ?_
     refine Lf Zg ?_
     refine Lf Zg ?_
     refine Lf Zg ?_
     refine Lf Zg ?_
     refine Lf Zg ?_
     refine Lf Zg ?_
     refine Lf Zg ?_
     refine Lf Zg ?_
     refine Lo Zg (Zv (VVal.bool false) rfl rfl rfl) ?_
     refine Zf (Zc ?_)
     refine ZA rfl rfl ?_
     refine Zl (Zc (Zd (Za ?_)))
     refine Lo Zg (Zb (.inl rfl) rfl) ?_
     refine Lo Zg (W2b rfl rfl rfl rfl rfl) ?_
     refine Zk rfl rfl rfl XH10 ?_
     rintro _ _ ⟨rfl, rfl⟩
     refine Le Zg ?_
     refine Zk rfl rfl rfl XH13 ?_
     rintro v _ ⟨hv, rfl⟩; first | (obtain ⟨l0, hl0⟩ := Option.isSome_iff_exists.1 hcn.symm; rw [hl0] at hv; obtain rfl : v = .tuple [fzN l0, .bool true] := hv) | (rw [show leA (Zr p 9) = none from Option.not_isSome_iff_eq_none.1 XH22] at hv; obtain rfl : v = .tuple [fzN [], .bool false] := hv)
     refine Le Zg ?_
     refine Lo Zg (Zb (.inl rfl) rfl) ?_
     refine Lo Zg (rfl) ?_
     refine Lo Zg (rfl) ?_
     refine Lo Zg (Zb (.inr rfl) rfl) ?_
     refine Lo Zg (Zb (.inr rfl) rfl) ?_
     refine Zf (Zc (Zd (Zd (Za ?_))))
     refine Lo Zg (Zb (.inl rfl) rfl) ?_
     refine Zf (Zc ?_)
     refine ZA rfl rfl ?_
     refine Zl (Zc (Zd (Za ?_)))
     refine Lo Zg (Zb (.inl rfl) rfl) ?_
     refine Lo Zg (rfl) ?_
     refine Lo Zg (v_is true rfl (by rfl)) ?_
     refine Lo Zg (Zb (.inr rfl) rfl) ?_
     refine Zf (Zc ?_)
     try refine ZW (List.append_assoc _ _ _) ?_
     refine Zn ?_
     refine W10 (.inr rfl) (Zi rfl rfl) ?_
     exact ⟨rfl, rfl⟩
theorem SolveMore_walk10 {x : SW} (H : Ze) (p : Pb) (ms : List (BitVec 64)) (k : Int) (hu : -9223372036854775808 ≤ p.users ∧ p.users < 9223372036854775808) (hnw : (Zr p 9).who ≠ []) (hnr : (Zr p 9).rules = []) : F (psys x) 3 [.agg (pbB p), fzW ms, iI k] H fun v G => v = .bool true ∧ G = H := by
 have hL := fewP_L (m := 9) hu
 refine Zy Tryd.func3 rfl Zg rfl ?_
 refine Zd (Za ?_)
 refine Lo Zg (ZE rfl rfl rfl) ?_
 refine Lo Zg (Zj (VVal.bool false) (.inr rfl) rfl) ?_
 refine Zf (Zc (Zd ?_))
 refine Yg (Gh.freezePtrL (cs := pbB p) 3 0 rfl rfl rfl) ?_
 refine Za ?_
 refine Lo Zg (W2b rfl rfl rfl rfl rfl) ?_
 refine Zk rfl rfl rfl (by exact Few_spec _ p 9 hu) ?_
 rintro _ _ ⟨rfl, rfl⟩
 refine Le Zg ?_
 refine Lo Zg (Zw rfl rfl) ?_
 refine Lo Zg (W13 rfl rfl rfl rfl rfl rfl rfl) ?_
 refine Zf (Zc (Zd ?_))
 refine Yg (Gh.freezePtrL (cs := pbB (Zr p 9)) 7 1 rfl rfl rfl) ?_
 refine Za ?_
 refine Zk rfl rfl rfl (by exact sNew_spec _) ?_
 rintro _ _ ⟨rfl, rfl⟩; rw [List.append_assoc, List.length_append]
 refine Le Zg ?_
 refine Lo Zg (Zb (.inr rfl) rfl) ?_
 refine Zf (Zc (Zd (Zd (Za ?_))))
 refine Lo Zg (Zb (.inl rfl) rfl) ?_
 refine Lo Zg (v_is false rfl rfl) ?_
 refine Lo Zg (Zb (.inl rfl) rfl) ?_
 refine Zk rfl rfl rfl (by exact wakes_spec _) ?_
 rintro _ _ ⟨rfl, rfl⟩
 refine Le Zg ?_
 refine Lo Zg (rfl) ?_
 refine Lo Zg (Yf rfl rfl rfl) ?_
 refine Zf (Zc ?_)
 refine ZA rfl rfl ?_
 refine Zl (Zc (Zd (Zd (Za ?_))))
 refine Lo Zg (W2b rfl rfl rfl rfl rfl) ?_
 refine Zk rfl rfl rfl XH10 ?_
 rintro _ _ ⟨rfl, rfl⟩
 refine Le Zg ?_
 refine Zk rfl rfl rfl (by exact Yo _ (Zr p 9) hL) ?_
 rintro _ _ ⟨rfl, rfl⟩
 refine Le Zg ?_
 refine Lo Zg (rfl) ?_
 refine Zf (Zc ?_)
 refine Zo _ rfl (fun hc1 => ?_) (fun hc1 => ?_)
 ·try simp only [qB, qN] at hc1
  refine Zd ?_
  refine ZW (H' := (H ++ [VBlk.dead, VBlk.dead, gaB 0]) ++ []) XH23 ?_
  refine Za ?_
  refine Lo Zg (Zb (.inl rfl) rfl) ?_
  refine Lo Zg (W2b rfl rfl rfl rfl rfl) ?_
  refine Zk rfl rfl rfl XH10 ?_
  rintro _ _ ⟨rfl, rfl⟩
  refine Le Zg ?_
  refine Zk rfl rfl rfl XH21 ?_
  rintro v _ ⟨hv, rfl⟩; obtain rfl : v = .bool false := hv.trans (congrArg VVal.bool XH32)
  refine Le Zg ?_
  refine Lo Zg (rfl) ?_
  refine Lo Zg (Zb (.inr rfl) rfl) ?_
  refine Zf (Zc ?_)
  try refine ZW (List.append_assoc _ _ _) ?_
  refine Zn (Zu ?_)
  refine W10 (.inr rfl) (Zi rfl rfl) ?_
  exact ⟨rfl, rfl⟩
 ·try simp only [qB, qN] at hc1
  refine Zl (Zc (Zd ?_))
  have h0 : pck (Zr p 9) = 0 := by first | assumption | simp_all
  have g := pck_good.1 h0
  have g2 := g.u64; have g4 := g.u0; have g5 := g.fx
  have gn12 := g.n12; have gr := g.r32
  refine ZW (H' := (H ++ [VBlk.dead, VBlk.dead, gaB 0]) ++ []) XH23 ?_
  have hnw1 := List.length_pos_iff.2 hnw
  have hnf : (Zr p 9).fixed ≠ [] := List.length_pos_iff.1 (by omega)
  refine Za ?_
  refine Lo Zg (Zb (.inl rfl) rfl) ?_
  refine Lo Zg (W2b rfl rfl rfl rfl rfl) ?_
  refine Zk rfl rfl rfl XH10 ?_
  rintro _ _ ⟨rfl, rfl⟩
  refine Le Zg ?_
  refine Zk rfl rfl rfl XH21 ?_
  rintro v _ ⟨hv, rfl⟩; obtain ⟨c, hcn⟩ : ∃ c, c = (leA (Zr p 9)).isSome := ⟨_, rfl⟩; rw [← hcn] at hv; subst hv
  refine Le Zg ?_
  refine Lo Zg (Zb (.inr rfl) rfl) ?_
  refine Zf (Zc (Zd (Za ?_)))
  refine Lo Zg (W2b rfl rfl rfl rfl rfl) ?_
  refine Zk rfl rfl rfl (by exact Cut_Lf _ p 9 hnw hnf) ?_
  rintro v G ⟨Y, j, k9, rfl, rfl, hj, hk, hne⟩; rw [List.append_nil]; have hjl := ZD hj; have hkl := ZD hk
  refine Le Zg ?_
  refine Lo Zg (Zw rfl rfl) ?_
  refine Lo Zg (W13 rfl rfl rfl rfl rfl rfl rfl) ?_
  refine Zf (Zc ?_)
  refine B_seqJ (mk 151 2854495385411919762116571938898990272765491323) (fun (u0 : Unit) => []) (fun (u0 : Unit) G => (True) ∧ ∃ W X, G = (H ++ [VBlk.dead, VBlk.dead, gaB (0 + leG (Zr p 9))]) ++ X ∧ Wd (Zr p 9) W ∧ X[j]? = some (.cells (W.map iW) true) ∧ X[k9]? = some (.cells ((Zr p 9).fixed.map iI) true) ∧ X[Y.length]? = some (VBlk.cells [iI (Zr p 9).users, .slice (some ((H ++ [VBlk.dead, VBlk.dead, gaB (0 + leG (Zr p 9))]).length + j, 0)) (Zr p 9).who.length (Zr p 9).who.length false 1, .slice (some ((H ++ [VBlk.dead, VBlk.dead, gaB (0 + leG (Zr p 9))]).length + k9, 0)) (Zr p 9).fixed.length (Zr p 9).fixed.length false 1, fzR (Zr p 9).rules] true)) ?_ ?_
  ·skip
   refine Zd (Za ?_)
   refine Lo Zg (Zj (VVal.int .i64 0) (.inr rfl) rfl) ?_
   refine Zf (Zc (Zp ?_))
   refine ZI (mk 151 2854495385411919762116571938898990272765489273) (env' := Zg) rfl ?_
   refine ZP (fun (i : Nat) => (Zr p 9).who.length - i) (fun (i : Nat) => [(11, iI (i : Nat))]) (fun (i : Nat) G => (i ≤ (Zr p 9).who.length) ∧ ∃ W X, G = (H ++ [VBlk.dead, VBlk.dead, gaB (0 + leG (Zr p 9))]) ++ X ∧ Wd (Zr p 9) W ∧ X[j]? = some (.cells (W.map iW) true) ∧ X[k9]? = some (.cells ((Zr p 9).fixed.map iI) true) ∧ X[Y.length]? = some (VBlk.cells [iI (Zr p 9).users, .slice (some ((H ++ [VBlk.dead, VBlk.dead, gaB (0 + leG (Zr p 9))]).length + j, 0)) (Zr p 9).who.length (Zr p 9).who.length false 1, .slice (some ((H ++ [VBlk.dead, VBlk.dead, gaB (0 + leG (Zr p 9))]).length + k9, 0)) (Zr p 9).fixed.length (Zr p 9).fixed.length false 1, fzR (Zr p 9).rules] true)) 0 rfl ?_ ?_
   ·refine ⟨?_, ⟨_, _, rfl, Wd_0, Zq hj, Zq hk, get_end⟩⟩
    exact Nat.zero_le _
   rintro i _ ⟨hi, ⟨W, X, rfl, hW, hj, hk, hm⟩⟩
   refine ZZ (env' := Zg) rfl ?_
   refine Zd (Zd (Za ?_))
   refine Lo Zg (Zb (.inl rfl) rfl) ?_
   refine Lo Zg (rfl) ?_
   refine Lo Zg (W5i rfl rfl rfl rfl) ?_
   refine Lo Zg (rfl) ?_
   refine Lo Zg (rfl) ?_
   refine Lo Zg (Zb (.inl rfl) rfl) ?_
   refine ZF 49 (env1 := Zg) (env2 := Zg) rfl rfl rfl (fun hg2 => ?_) (fun hg2 => ?_)
   ·try simp only [qB, qN] at hg2
    try subst hg2
    refine Lo Zg (Zb (.inl rfl) rfl) ?_
    refine Lo Zg (Zb (.inl rfl) rfl) ?_
    refine Lo Zg (rfl) ?_
    refine Lo Zg (rfl) ?_
    refine Lo Zg (Zx rfl rfl rfl) ?_
    refine Zf (Zc ?_)
    refine Zo _ rfl (fun hc3 => ?_) (fun hc3 => ?_)
    ·try simp only [qB, qN] at hc3
     refine Zl (Zc (Zd (Zp (Zd ?_))))
     have hi9 : i < (Zr p 9).who.length := by omega
     have hWl := hW.1
     refine Za ?_
     refine Lo Zg (Zb (.inl rfl) rfl) ?_
     refine Lo Zg (Zb (.inl rfl) rfl) ?_
     refine Lo Zg (W18 rfl rfl rfl rfl rfl rfl rfl) ?_
     refine Lo Zg (W4b rfl rfl rfl rfl) ?_
     refine Lo Zg (Zb (.inr rfl) rfl) ?_
     refine Zf (Zc (Zd (Zd (Za ?_))))
     refine Lo Zg (rfl) ?_
     refine Lo Zg (W2d rfl rfl rfl rfl) ?_
     refine Lo Zg (rfl) ?_
     refine Zf (Zc ?_)
     refine Zo _ rfl (fun hc4 => ?_) (fun hc4 => ?_)
     ·try simp only [qB, qN] at hc4
      refine Za ?_
      refine Lo Zg (Zb (.inl rfl) rfl) ?_
      refine Lo Zg (rfl) ?_
      refine Lo Zg (W2d rfl rfl rfl rfl) ?_
      refine Lo Zg (v_shl1 rfl rfl rfl XH3) ?_
      refine Lo Zg (v_subW (b := 1#64) rfl rfl rfl) ?_
      refine Lo Zg (v_andW rfl rfl rfl) ?_
      refine Lo Zg (Zb (.inr rfl) rfl) ?_
      refine Zf (Zc ?_)
      refine ZS [0, 1, 2, 3, 4, 5, 6, 7, 8, 9, 10, 11] #[0, 1, 0, 0, 8, 0, 56, 120, 0, 504, 1023, 2047] XH2 XH2 XH2 ?_
      refine Oo Zg .calm rfl (rfl) ?_
      refine Oo Zg .look rfl (W5i rfl rfl rfl rfl) ?_
      refine Oo Zg .calm rfl (Zb (.inl rfl) rfl) ?_
      refine Oo Zg .calm rfl (rfl) ?_
      refine Oo Zg .look rfl (W5i rfl rfl rfl rfl) ?_
      refine Oo Zg .calm rfl (Zb (.inl rfl) rfl) ?_
      refine Oo Zg .calm rfl (W18 rfl rfl rfl rfl rfl rfl rfl) ?_
      refine Oo Zg .look rfl (W5m rfl rfl rfl rfl) ?_
      refine Oo Zg .calm rfl (Zb (.inl rfl) rfl) ?_
      refine Oo Zg .calm rfl (v_orW rfl rfl rfl) ?_
      refine Oo Zg .calm rfl (W18 rfl rfl rfl rfl rfl rfl rfl) ?_
      refine Oo Zg .turn rfl (W5n rfl rfl rfl rfl rfl rfl rfl) ?_
      refine ZR [] XH2 (trivial) ?_
      refine ZG (Zc (Za ?_))
      refine Lo Zg (Zb (.inl rfl) rfl) ?_
      refine Lo Zg (W14 rfl rfl rfl) ?_
      refine Lo Zg (Zb (.inr rfl) rfl) ?_
      refine Zf ?_
      refine Zz (mk 151 2854495385411919762116571938898990272765489273) (env' := Zg) rfl ⟨i + 1, ?_, rfl, ?_⟩
      ·first | omega | (simp only []; omega)
      ·first | exact ⟨by omega, _, _, rfl, Wd_set hW hi9 (mask_hi (by omega)), Yj hj, Z0 hk hne, Z0 hm (by omega)⟩ | exact ⟨by omega, _, _, rfl, Wd_set hW hi9 (hi_64 (by omega)), Yj hj, Z0 hk hne, Z0 hm (by omega)⟩
     ·try simp only [qB, qN] at hc4
      refine Zl (Zc ?_)
      refine ZS [0, 1, 2, 3, 4, 5, 6, 7, 8, 9, 10, 11] #[0, 1, 0, 0, 8, 0, 56, 120, 0, 504, 1023, 2047] XH2 XH2 XH2 ?_
      refine Oo Zg .calm rfl (rfl) ?_
      refine Oo Zg .look rfl (W5i rfl rfl rfl rfl) ?_
      refine Oo Zg .calm rfl (Zb (.inl rfl) rfl) ?_
      refine Oo Zg .calm rfl (rfl) ?_
      refine Oo Zg .look rfl (W5i rfl rfl rfl rfl) ?_
      refine Oo Zg .calm rfl (Zb (.inl rfl) rfl) ?_
      refine Oo Zg .calm rfl (W18 rfl rfl rfl rfl rfl rfl rfl) ?_
      refine Oo Zg .look rfl (W5m rfl rfl rfl rfl) ?_
      refine Oo Zg .calm rfl (Zb (.inl rfl) rfl) ?_
      refine Oo Zg .calm rfl (v_orW rfl rfl rfl) ?_
      refine Oo Zg .calm rfl (W18 rfl rfl rfl rfl rfl rfl rfl) ?_
      refine Oo Zg .turn rfl (W5n rfl rfl rfl rfl rfl rfl rfl) ?_
      refine ZR [] XH2 (trivial) ?_
      refine ZG (Zc (Za ?_))
      refine Lo Zg (Zb (.inl rfl) rfl) ?_
      refine Lo Zg (W14 rfl rfl rfl) ?_
      refine Lo Zg (Zb (.inr rfl) rfl) ?_
      refine Zf ?_
      refine Zz (mk 151 2854495385411919762116571938898990272765489273) (env' := Zg) rfl ⟨i + 1, ?_, rfl, ?_⟩
      ·first | omega | (simp only []; omega)
      ·first | exact ⟨by omega, _, _, rfl, Wd_set hW hi9 (mask_hi (by omega)), Yj hj, Z0 hk hne, Z0 hm (by omega)⟩ | exact ⟨by omega, _, _, rfl, Wd_set hW hi9 (hi_64 (by omega)), Yj hj, Z0 hk hne, Z0 hm (by omega)⟩
    ·try simp only [qB, qN] at hc3
     refine ZL (ZJ (ZB (ZK ?_)))
     refine Zz (mk 151 2854495385411919762116571938898990272765491323) (env' := Zg) rfl ⟨(), rfl, ?_⟩
     exact ⟨trivial, _, _, rfl, hW, hj, hk, hm⟩
   ·try simp only [qB, qN] at hg2
    try subst hg2
    refine Lf Zg ?_
    refine Lf Zg ?_
    refine Lf Zg ?_
    refine Lf Zg ?_
    refine Lo Zg (Zv (VVal.bool false) rfl rfl rfl) ?_
    refine Zf (Zc ?_)
    refine ZA rfl rfl ?_
    refine ZL (ZJ (ZB (ZK ?_)))
    refine Zz (mk 151 2854495385411919762116571938898990272765491323) (env' := Zg) rfl ⟨(), rfl, ?_⟩
    exact ⟨trivial, _, _, rfl, hW, hj, hk, hm⟩
  ·rintro u0 _ ⟨_, ⟨W, X, rfl, hW, hj, hk, hm⟩⟩
   refine ZZ (env' := Zg) rfl ?_
   refine Zd ?_
   obtain ⟨X3, hg3, hm3⟩ := nm_gh (S := psys x) hj hk hm hW.1 rfl hne (by omega) (by omega)
   refine Yg (hg3 _ _) ?_
   refine Yg (Gh.freezePtrL (H := (H ++ [VBlk.dead, VBlk.dead, gaB (0 + leG (Zr p 9))])) (L := X3) (cs := pbB (wdP (Zr p 9) W)) 10 Y.length rfl hm3 rfl) ?_
   obtain ⟨X4, hX4⟩ : ∃ X4, X4 = X3.set Y.length .dead := ⟨_, rfl⟩
   rw [← hX4]
   refine Za ?_
   refine Lo Zg (W2b rfl rfl rfl rfl rfl) ?_
   refine Zk rfl rfl rfl XH10 ?_
   rintro _ _ ⟨rfl, rfl⟩
   refine Le Zg ?_
   refine Lo Zg (Zw rfl rfl) ?_
   refine Lo Zg (W13 rfl rfl rfl rfl rfl rfl rfl) ?_
   refine Zf (Zc (Zd (Zd ?_)))
   refine Yg (Gh.freezeEnd (B0 := (H ++ [VBlk.dead, VBlk.dead, gaB (0 + leG (Zr p 9))])) (X := X4) (cs := pbB (Zr p 9)) 13 rfl rfl) ?_
   refine Za ?_
   refine Lo Zg (rfl) ?_
   refine Lo Zg (W2d rfl rfl rfl rfl) ?_
   refine Lo Zg (rfl) ?_
   refine Lo Zg (v_is false rfl (by rw [hnr]; rfl)) ?_
   refine Zf (Zc ?_)
   refine ZA rfl rfl ?_
   refine Zl (Zc (Zd (Zd ?_)))
   obtain ⟨X5, hX5⟩ : ∃ X5, X5 = X4 ++ [VBlk.dead] := ⟨_, rfl⟩
   rw [← hX5]
   refine Za ?_
   refine Lo Zg (Zb (.inl rfl) rfl) ?_
   refine Lo Zg (Zb (.inl rfl) rfl) ?_
   refine ZF 111 (env1 := Zg) (env2 := Zg) rfl rfl rfl (fun hg5 => ?_) (fun hg5 => ?_)
   ·try simp only [qB, qN] at hg5
    try subst hg5
    refine Lo Zg (Zb (.inl rfl) rfl) ?_
    refine Lo Zg (W2b rfl rfl rfl rfl rfl) ?_
    refine Zk rfl rfl rfl (by exact Can_m _ (wdP (Zr p 9) W) (wdP_L hL hW)) ?_
    rintro v _ ⟨hv, rfl⟩; obtain rfl : v = .bool true := hv.trans (congrArg VVal.bool (wd_some hW hcn))
    refine Le Zg ?_
    refine Lo Zg (rfl) ?_
    refine Lo Zg (Zb (.inl rfl) rfl) ?_
    refine Lo Zg (Zb (.inl rfl) rfl) ?_
    refine Lo Zg (W2b rfl rfl rfl rfl rfl) ?_
    refine Zk rfl rfl rfl (by exact Can_m _ (lsP (Zr p 9) (Zr p 9).rules) (lsP_L hL (Nat.le_refl _) (fun r hr => hr))) ?_
    rintro v _ ⟨hv, rfl⟩; obtain rfl : v = .bool true := hv.trans (congrArg VVal.bool (ls_some (Nat.le_refl _) (fun r hr => hr) hcn))
    refine Le Zg ?_
    refine Lo Zg (rfl) ?_
    refine Lo Zg (Yf rfl rfl rfl) ?_
    refine Lo Zg (Zx rfl rfl rfl) ?_
    refine Zf (Zc ?_)
    refine ZA rfl rfl ?_
    refine Zl (Zc (Zd (Za ?_)))
    refine Lo Zg (Zb (.inl rfl) rfl) ?_
    refine Lo Zg (W2b rfl rfl rfl rfl rfl) ?_
    refine Zk rfl rfl rfl XH10 ?_
    rintro _ _ ⟨rfl, rfl⟩
    refine Le Zg ?_
    refine Zk rfl rfl rfl XH13 ?_
    rintro v _ ⟨hv, rfl⟩; first | (obtain ⟨l0, hl0⟩ := Option.isSome_iff_exists.1 hcn.symm; rw [hl0] at hv; obtain rfl : v = .tuple [fzN l0, .bool true] := hv) | (rw [show leA (Zr p 9) = none from Option.not_isSome_iff_eq_none.1 XH22] at hv; obtain rfl : v = .tuple [fzN [], .bool false] := hv)
    refine Le Zg ?_
    refine Lo Zg (Zb (.inl rfl) rfl) ?_
    refine Lo Zg (rfl) ?_
    refine Lo Zg (rfl) ?_
    refine Lo Zg (Zb (.inr rfl) rfl) ?_
    refine Lo Zg (Zb (.inr rfl) rfl) ?_
    refine Zf (Zc (Zd (Zd (Za ?_))))
    refine Lo Zg (Zb (.inl rfl) rfl) ?_
    refine Zf (Zc ?_)
    refine ZV rfl rfl ?_
    refine Zd ?_
    have hld := YK hl0
    have hl12 := hds_len' hld
    have hln := hl12.2
    refine Za ?_
    refine Lo Zg (W2b rfl rfl rfl rfl rfl) ?_
    refine Zk rfl rfl rfl XH10 ?_
    rintro _ _ ⟨rfl, rfl⟩
    refine Le Zg ?_
    refine Lo Zg (Zw rfl rfl) ?_
    refine Lo Zg (W13 rfl rfl rfl rfl rfl rfl rfl) ?_
    refine Zf (Zc (Zd (Za ?_)))
    refine Lo Zg (Zb (.inl rfl) rfl) ?_
    refine Zk rfl rfl rfl XH31 ?_
    rintro v _ ⟨hv, rfl⟩; rw [fzN_is] at hv; subst hv
    refine Le Zg ?_
    refine Lo Zg (rfl) ?_
    refine Lo Zg (W13 rfl rfl rfl rfl rfl rfl rfl) ?_
    refine Zf (Zc (Zd (Za ?_)))
    refine Lo Zg (Zb (.inl rfl) rfl) ?_
    refine Lo Zg (W2b rfl rfl rfl rfl rfl) ?_
    refine Zk rfl rfl rfl XH19 ?_
    rintro v _ ⟨hv, rfl⟩; rw [fd_is hl0] at hv; obtain rfl : v = .tuple [fzN l0, .bool true] := hv
    refine Le Zg ?_
    refine Lo Zg (Zb (.inl rfl) rfl) ?_
    refine Lo Zg (rfl) ?_
    refine Lo Zg (rfl) ?_
    refine Lo Zg (Zb (.inr rfl) rfl) ?_
    refine Lo Zg (Zb (.inr rfl) rfl) ?_
    refine Zf (Zc (Zd (Za ?_)))
    refine Lo Zg (Zb (.inl rfl) rfl) ?_
    refine Lo Zg (Zb (.inl rfl) rfl) ?_
    refine Lo Zg (Zb (.inl rfl) rfl) ?_
    refine Lo Zg (Zb (.inl rfl) rfl) ?_
    refine Zk rfl rfl rfl XH27 ?_
    rintro _ _ ⟨rfl, rfl⟩
    refine Le Zg ?_
    refine Lo Zg (Zx rfl rfl rfl) ?_
    refine Lo Zg (Zb (.inr rfl) rfl) ?_
    refine Zf (Zc ?_)
    try refine ZW (List.append_assoc _ _ _) ?_
    refine Zn (Zu ?_)
    refine W10 (.inr rfl) (Zi rfl rfl) ?_
    exact ⟨rfl, rfl⟩
   ·try simp only [qB, qN] at hg5
    try subst hg5
    refine Lf Zg ?_
    refine Lf Zg ?_
    refine Lf Zg ?_
    refine Lf Zg ?_
    refine Lf Zg ?_
    refine Lf Zg ?_
    refine Lf Zg ?_
    refine Lf Zg ?_
    refine Lf Zg ?_
    refine Lf Zg ?_
    refine Lo Zg (Zv (VVal.bool false) rfl rfl rfl) ?_
    refine Zf (Zc ?_)
    refine ZA rfl rfl ?_
    refine Zl (Zc (Zd (Za ?_)))
    refine Lo Zg (Zb (.inl rfl) rfl) ?_
    refine Lo Zg (W2b rfl rfl rfl rfl rfl) ?_
    refine Zk rfl rfl rfl XH10 ?_
    rintro _ _ ⟨rfl, rfl⟩
    refine Le Zg ?_
    refine Zk rfl rfl rfl XH13 ?_
    rintro v _ ⟨hv, rfl⟩; first | (obtain ⟨l0, hl0⟩ := Option.isSome_iff_exists.1 hcn.symm; rw [hl0] at hv; obtain rfl : v = .tuple [fzN l0, .bool true] := hv) | (rw [show leA (Zr p 9) = none from Option.not_isSome_iff_eq_none.1 XH22] at hv; obtain rfl : v = .tuple [fzN [], .bool false] := hv)
    refine Le Zg ?_
    refine Lo Zg (Zb (.inl rfl) rfl) ?_
    refine Lo Zg (rfl) ?_
    refine Lo Zg (rfl) ?_
    refine Lo Zg (Zb (.inr rfl) rfl) ?_
    refine Lo Zg (Zb (.inr rfl) rfl) ?_
    refine Zf (Zc (Zd (Zd (Za ?_))))
    refine Lo Zg (Zb (.inl rfl) rfl) ?_
    refine Zf (Zc ?_)
    refine ZA rfl rfl ?_
    refine Zl (Zc (Zd (Za ?_)))
    refine Lo Zg (Zb (.inl rfl) rfl) ?_
    refine Lo Zg (rfl) ?_
    refine Lo Zg (v_is true rfl (by rfl)) ?_
    refine Lo Zg (Zb (.inr rfl) rfl) ?_
    refine Zf (Zc ?_)
    try refine ZW (List.append_assoc _ _ _) ?_
    refine Zn ?_
    refine W10 (.inr rfl) (Zi rfl rfl) ?_
    exact ⟨rfl, rfl⟩
theorem SolveMore_walk01 {x : SW} (H : Ze) (p : Pb) (ms : List (BitVec 64)) (k : Int) (hu : -9223372036854775808 ≤ p.users ∧ p.users < 9223372036854775808) (hnw : (Zr p 9).who = []) (hnr : (Zr p 9).rules ≠ []) : F (psys x) 3 [.agg (pbB p), fzW ms, iI k] H fun v G => v = .bool true ∧ G = H := by
 have hL := fewP_L (m := 9) hu
 refine Zy Tryd.func3 rfl Zg rfl ?_
 refine Zd (Za ?_)
 refine Lo Zg (ZE rfl rfl rfl) ?_
 refine Lo Zg (Zj (VVal.bool false) (.inr rfl) rfl) ?_
 refine Zf (Zc (Zd ?_))
 refine Yg (Gh.freezePtrL (cs := pbB p) 3 0 rfl rfl rfl) ?_
 refine Za ?_
 refine Lo Zg (W2b rfl rfl rfl rfl rfl) ?_
 refine Zk rfl rfl rfl (by exact Few_spec _ p 9 hu) ?_
 rintro _ _ ⟨rfl, rfl⟩
 refine Le Zg ?_
 refine Lo Zg (Zw rfl rfl) ?_
 refine Lo Zg (W13 rfl rfl rfl rfl rfl rfl rfl) ?_
 refine Zf (Zc (Zd ?_))
 refine Yg (Gh.freezePtrL (cs := pbB (Zr p 9)) 7 1 rfl rfl rfl) ?_
 refine Za ?_
 refine Zk rfl rfl rfl (by exact sNew_spec _) ?_
 rintro _ _ ⟨rfl, rfl⟩; rw [List.append_assoc, List.length_append]
 refine Le Zg ?_
 refine Lo Zg (Zb (.inr rfl) rfl) ?_
 refine Zf (Zc (Zd (Zd (Za ?_))))
 refine Lo Zg (Zb (.inl rfl) rfl) ?_
 refine Lo Zg (v_is false rfl rfl) ?_
 refine Lo Zg (Zb (.inl rfl) rfl) ?_
 refine Zk rfl rfl rfl (by exact wakes_spec _) ?_
 rintro _ _ ⟨rfl, rfl⟩
 refine Le Zg ?_
 refine Lo Zg (rfl) ?_
 refine Lo Zg (Yf rfl rfl rfl) ?_
 refine Zf (Zc ?_)
 refine ZA rfl rfl ?_
 refine Zl (Zc (Zd (Zd (Za ?_))))
 refine Lo Zg (W2b rfl rfl rfl rfl rfl) ?_
 refine Zk rfl rfl rfl XH10 ?_
 rintro _ _ ⟨rfl, rfl⟩
 refine Le Zg ?_
 refine Zk rfl rfl rfl (by exact Yo _ (Zr p 9) hL) ?_
 rintro _ _ ⟨rfl, rfl⟩
 refine Le Zg ?_
 refine Lo Zg (rfl) ?_
 refine Zf (Zc ?_)
 refine Zo _ rfl (fun hc1 => ?_) (fun hc1 => ?_)
 ·try simp only [qB, qN] at hc1
  refine Zd ?_
  refine ZW (H' := (H ++ [VBlk.dead, VBlk.dead, gaB 0]) ++ []) XH23 ?_
  refine Za ?_
  refine Lo Zg (Zb (.inl rfl) rfl) ?_
  refine Lo Zg (W2b rfl rfl rfl rfl rfl) ?_
  refine Zk rfl rfl rfl XH10 ?_
  rintro _ _ ⟨rfl, rfl⟩
  refine Le Zg ?_
  refine Zk rfl rfl rfl XH21 ?_
  rintro v _ ⟨hv, rfl⟩; obtain rfl : v = .bool false := hv.trans (congrArg VVal.bool XH32)
  refine Le Zg ?_
  refine Lo Zg (rfl) ?_
  refine Lo Zg (Zb (.inr rfl) rfl) ?_
  refine Zf (Zc ?_)
  try refine ZW (List.append_assoc _ _ _) ?_
  refine Zn (Zu ?_)
  refine W10 (.inr rfl) (Zi rfl rfl) ?_
  exact ⟨rfl, rfl⟩
 ·try simp only [qB, qN] at hc1
  refine Zl (Zc (Zd ?_))
  have h0 : pck (Zr p 9) = 0 := by first | assumption | simp_all
  have g := pck_good.1 h0
  have g2 := g.u64; have g4 := g.u0; have g5 := g.fx
  have gn12 := g.n12; have gr := g.r32
  refine ZW (H' := (H ++ [VBlk.dead, VBlk.dead, gaB 0]) ++ []) XH23 ?_
  have hz : (Zr p 9).who.length = 0 := by rw [hnw]; rfl
  have hnr1 := List.length_pos_iff.2 hnr
  refine Za ?_
  refine Lo Zg (Zb (.inl rfl) rfl) ?_
  refine Lo Zg (W2b rfl rfl rfl rfl rfl) ?_
  refine Zk rfl rfl rfl XH10 ?_
  rintro _ _ ⟨rfl, rfl⟩
  refine Le Zg ?_
  refine Zk rfl rfl rfl XH21 ?_
  rintro v _ ⟨hv, rfl⟩; obtain ⟨c, hcn⟩ : ∃ c, c = (leA (Zr p 9)).isSome := ⟨_, rfl⟩; rw [← hcn] at hv; subst hv
  refine Le Zg ?_
  refine Lo Zg (Zb (.inr rfl) rfl) ?_
  refine Zf (Zc (Zd (Za ?_)))
  refine Lo Zg (W2b rfl rfl rfl rfl rfl) ?_
  refine Zk rfl rfl rfl XH10 ?_
  rintro _ _ ⟨rfl, rfl⟩
  refine Le Zg ?_
  refine Lo Zg (Zw rfl rfl) ?_
  refine Lo Zg (W13 rfl rfl rfl rfl rfl rfl rfl) ?_
  refine Zf (Zc (Zd (Zd ?_)))
  refine Yg (Gh.freezePtrL (H := (H ++ [VBlk.dead, VBlk.dead, gaB (0 + leG (Zr p 9))])) (L := [VBlk.cells (pbB (Zr p 9)) true]) (cs := pbB (Zr p 9)) 10 0 rfl rfl rfl) ?_
  refine Za ?_
  refine Lo Zg (Zj (VVal.int .i64 0) (.inr rfl) rfl) ?_
  refine Zf (Zc (Zp ?_))
  refine ZI (mk 151 2854495385411919762116571938898990272765489273) (env' := Zg) rfl ?_
  refine ZP (fun (i : Nat) => 0 - i) (fun (i : Nat) => [(11, iI (i : Nat))]) (fun (i : Nat) G => (i ≤ 0) ∧ G = (H ++ [VBlk.dead, VBlk.dead, gaB (0 + leG (Zr p 9))]) ++ [VBlk.dead]) 0 rfl ?_ ?_
  ·refine ⟨?_, rfl⟩
   exact Nat.zero_le _
  rintro i _ ⟨hi, rfl⟩
  refine ZZ (env' := Zg) rfl ?_
  refine Zd (Zd (Za ?_))
  refine Lo Zg (Zb (.inl rfl) rfl) ?_
  refine Lo Zg (rfl) ?_
  refine Lo Zg (W2d rfl rfl rfl rfl) ?_
  refine Lo Zg (rfl) ?_
  refine Lo Zg (rfl) ?_
  refine Lo Zg (Zb (.inl rfl) rfl) ?_
  refine ZF 49 (env1 := Zg) (env2 := Zg) rfl rfl rfl (fun hg2 => ?_) (fun hg2 => ?_)
  ·try simp only [qB, qN] at hg2
   exact absurd hg2 (by simp [hz])
  ·try simp only [qB, qN] at hg2
   try subst hg2
   refine Lf Zg ?_
   refine Lf Zg ?_
   refine Lf Zg ?_
   refine Lf Zg ?_
   refine Lo Zg (Zv (VVal.bool false) rfl rfl rfl) ?_
   refine Zf (Zc ?_)
   refine ZA rfl rfl ?_
   refine ZL (ZJ (ZB (ZK (Zc (Zd ?_)))))
   obtain ⟨X4, hX4⟩ : ∃ X4, X4 = [VBlk.dead] := ⟨_, rfl⟩
   rw [← hX4]
   refine Za ?_
   refine Lo Zg (W2b rfl rfl rfl rfl rfl) ?_
   refine Zk rfl rfl rfl (by exact Cut_Rf _ p 9 hnr) ?_
   rintro v G ⟨Y2, b, rfl, rfl, hb⟩
   refine Le Zg ?_
   refine Lo Zg (Zw rfl rfl) ?_
   refine Lo Zg (W13 rfl rfl rfl rfl rfl rfl rfl) ?_
   refine Zf (Zc (Zd (Zd ?_)))
   obtain ⟨m5, hm5⟩ : ∃ m, m = Y2.length := ⟨_, rfl⟩
   rw [← hm5]
   have hbl := ZD hb
   have hbm : b ≠ m5 := by omega
   obtain ⟨Z, hZ, hzb, hzm⟩ : ∃ Z, Y2 ++ [VBlk.cells [iI (Zr p 9).users, fzW (Zr p 9).who, fzI (Zr p 9).fixed, .slice (some (((H ++ [VBlk.dead, VBlk.dead, gaB (0 + leG (Zr p 9))]) ++ X4).length + b, 0)) (Zr p 9).rules.length (Zr p 9).rules.length false 3] true] = Z ∧ Z[b]? = some (.cells ((Zr p 9).rules.flatMap rlB) true) ∧ Z[m5]? = some (VBlk.cells [iI (Zr p 9).users, fzW (Zr p 9).who, fzI (Zr p 9).fixed, .slice (some (((H ++ [VBlk.dead, VBlk.dead, gaB (0 + leG (Zr p 9))]) ++ X4).length + b, 0)) (Zr p 9).rules.length (Zr p 9).rules.length false 3] true) := ⟨_, rfl, Zq hb, by rw [hm5]; exact get_end⟩
   refine ZW (H' := ((H ++ [VBlk.dead, VBlk.dead, gaB (0 + leG (Zr p 9))]) ++ X4) ++ Z) (congrArg (fun z => ((H ++ [VBlk.dead, VBlk.dead, gaB (0 + leG (Zr p 9))]) ++ X4) ++ z) hZ) ?_
   refine Za ?_
   refine Lo Zg (rfl) ?_
   refine Lo Zg (W5p rfl rfl rfl rfl) ?_
   refine Lo Zg (rfl) ?_
   refine Lo Zg (v_is true rfl (by simp; omega)) ?_
   refine Zf (Zc ?_)
   refine ZV rfl rfl ?_
   refine Zd (Za ?_)
   refine Lo Zg (Zb (.inl rfl) rfl) ?_
   refine Lo Zg (rfl) ?_
   refine Lo Zg (W5p rfl rfl rfl rfl) ?_
   refine Lo Zg (rfl) ?_
   refine Lo Zg (v_rem rfl rfl rfl XH3) ?_
   refine Lo Zg (Zb (.inr rfl) rfl) ?_
   refine Zf (Zc (Zd (Zd (Za ?_))))
   refine Lo Zg (Zb (.inl rfl) rfl) ?_
   refine Lo Zg (rfl) ?_
   refine Zf (Zc ?_)
   refine Zo _ rfl (fun hc3 => ?_) (fun hc3 => ?_)
   ·try simp only [qB, qN] at hc3
    have hng : k.tmod ((Zr p 9).rules.length : Nat) < 0 := by assumption
    have hb9 := (tm_n k (u := ((Zr p 9).rules.length : Int)) (by omega)).1
    refine Za ?_
    refine Lo Zg (Zb (.inl rfl) rfl) ?_
    refine Lo Zg (rfl) ?_
    refine Lo Zg (W5p rfl rfl rfl rfl) ?_
    refine Lo Zg (rfl) ?_
    refine Lo Zg (W14 rfl rfl rfl) ?_
    refine Lo Zg (Zb (.inr rfl) rfl) ?_
    refine Zf (Zc ?_)
    first | (obtain ⟨a, hae, hal⟩ := at_neg hnr1 (by assumption); rw [hae]) | (obtain ⟨a, hae, hal⟩ := at_pos hnr1 (by assumption); rw [hae])
    refine ZS [0, 1, 2, 3, 4, 5, 6, 7, 8, 9, 10, 11] #[0, 1, 0, 7, 0, 16, 0, 64, 240, 511, 1023, 2047] XH2 XH2 XH2 ?_
    refine Oo Zg .calm rfl (rfl) ?_
    refine Oo Zg .look rfl (W5p rfl rfl rfl rfl) ?_
    refine Oo Zg .calm rfl (Zb (.inl rfl) rfl) ?_
    refine Oo Zg .calm rfl (v_slHiE rfl rfl rfl rfl rfl rfl rfl (by omega) hnr1) ?_
    refine Oo Zg .calm rfl (rfl) ?_
    refine Oo Zg .look rfl (W5p rfl rfl rfl rfl) ?_
    refine Oo Zg .calm rfl (Zb (.inl rfl) rfl) ?_
    refine Oo Zg .calm rfl (W14 rfl rfl rfl) ?_
    refine O_opX .calm rfl rfl rfl (v_slTailE (l := a + 1) rfl rfl rfl rfl rfl rfl rfl (by omega) hnr1 (getBX hzb) fl3) rfl rfl ?_
    rintro v2 _ ⟨rfl, hv1, hv2⟩
    refine O_env (env' := Zg) rfl ?_
    refine O_opX .turn rfl rfl rfl (cut_app rfl rfl rfl rfl rfl rfl rfl hzb hv1 hv2 hal (by rfl) (by omega)) rfl rfl ?_
    rintro _ _ ⟨rfl, rfl⟩
    refine O_env (env' := Zg) rfl ?_
    refine Oo Zg .calm rfl (rfl) ?_
    refine Oo Zg .turn rfl (W5q rfl rfl rfl rfl rfl rfl rfl) ?_
    refine ZR [] XH2 (trivial) ?_
    refine Zc (Zd (Zd ?_))
    obtain ⟨Z2, hg4, hz2⟩ := ls_gh (S := psys x) (B := ((H ++ [VBlk.dead, VBlk.dead, gaB (0 + leG (Zr p 9))]) ++ X4)) (rs := (cutO (Zr p 9).rules a)) (len := a + ((Zr p 9).rules.length - (a + 1))) (n := (Zr p 9).rules.length) (Z0 (Yj hzb) hbm.symm) (Yj (Z0 hzm hbm)) (cut_cells hal) XH34 (by omega) hbm
    refine Yg (hg4 _ _) ?_
    refine Yg (Gh.freezePtrL (H := ((H ++ [VBlk.dead, VBlk.dead, gaB (0 + leG (Zr p 9))]) ++ X4)) (L := Z2) (cs := pbB (lsP (Zr p 9) (cutO (Zr p 9).rules a))) 13 m5 rfl hz2 rfl) ?_
    refine ZW (List.append_assoc _ _ _) ?_
    obtain ⟨X5, hX5⟩ : ∃ X5, X5 = X4 ++ Z2.set m5 .dead := ⟨_, rfl⟩
    rw [← hX5]
    refine Za ?_
    refine Lo Zg (Zb (.inl rfl) rfl) ?_
    refine Lo Zg (Zb (.inl rfl) rfl) ?_
    refine ZF 111 (env1 := Zg) (env2 := Zg) rfl rfl rfl (fun hg4 => ?_) (fun hg4 => ?_)
    ·try simp only [qB, qN] at hg4
     try subst hg4
     refine Lo Zg (Zb (.inl rfl) rfl) ?_
     refine Lo Zg (W2b rfl rfl rfl rfl rfl) ?_
     refine Zk rfl rfl rfl XH25 ?_
     rintro v _ ⟨hv, rfl⟩; obtain rfl : v = .bool true := hv.trans (congrArg VVal.bool (wd_some (@Wd_0 (Zr p 9)) hcn))
     refine Le Zg ?_
     refine Lo Zg (rfl) ?_
     refine Lo Zg (Zb (.inl rfl) rfl) ?_
     refine Lo Zg (Zb (.inl rfl) rfl) ?_
     refine Lo Zg (W2b rfl rfl rfl rfl rfl) ?_
     refine Zk rfl rfl rfl XH14 ?_
     rintro v _ ⟨hv, rfl⟩; obtain rfl : v = .bool true := hv.trans (congrArg VVal.bool (ls_some XH34 cutO_mem hcn))
     refine Le Zg ?_
     refine Lo Zg (rfl) ?_
     refine Lo Zg (Yf rfl rfl rfl) ?_
     refine Lo Zg (Zx rfl rfl rfl) ?_
     refine Zf (Zc ?_)
     refine ZA rfl rfl ?_
     refine Zl (Zc (Zd (Za ?_)))
     refine Lo Zg (Zb (.inl rfl) rfl) ?_
     refine Lo Zg (W2b rfl rfl rfl rfl rfl) ?_
     refine Zk rfl rfl rfl XH10 ?_
     rintro _ _ ⟨rfl, rfl⟩
     refine Le Zg ?_
     refine Zk rfl rfl rfl XH13 ?_
     rintro v _ ⟨hv, rfl⟩; first | (obtain ⟨l0, hl0⟩ := Option.isSome_iff_exists.1 hcn.symm; rw [hl0] at hv; obtain rfl : v = .tuple [fzN l0, .bool true] := hv) | (rw [show leA (Zr p 9) = none from Option.not_isSome_iff_eq_none.1 XH22] at hv; obtain rfl : v = .tuple [fzN [], .bool false] := hv)
     refine Le Zg ?_
     refine Lo Zg (Zb (.inl rfl) rfl) ?_
     refine Lo Zg (rfl) ?_
     refine Lo Zg (rfl) ?_
     refine Lo Zg (Zb (.inr rfl) rfl) ?_
     refine Lo Zg (Zb (.inr rfl) rfl) ?_
     refine Zf (Zc (Zd (Zd (Za ?_))))
     refine Lo Zg (Zb (.inl rfl) rfl) ?_
     refine Zf (Zc ?_)
     refine ZV rfl rfl ?_
     refine Zd ?_
     have hld := YK hl0
     have hl12 := hds_len' hld
     have hln := hl12.2
     refine Za ?_
     refine Lo Zg (W2b rfl rfl rfl rfl rfl) ?_
     refine Zk rfl rfl rfl XH10 ?_
     rintro _ _ ⟨rfl, rfl⟩
     refine Le Zg ?_
     refine Lo Zg (Zw rfl rfl) ?_
     refine Lo Zg (W13 rfl rfl rfl rfl rfl rfl rfl) ?_
     refine Zf (Zc (Zd (Za ?_)))
     refine Lo Zg (Zb (.inl rfl) rfl) ?_
     refine Zk rfl rfl rfl XH31 ?_
     rintro v _ ⟨hv, rfl⟩; rw [fzN_is] at hv; subst hv
     refine Le Zg ?_
     refine Lo Zg (rfl) ?_
     refine Lo Zg (W13 rfl rfl rfl rfl rfl rfl rfl) ?_
     refine Zf (Zc (Zd (Za ?_)))
     refine Lo Zg (Zb (.inl rfl) rfl) ?_
     refine Lo Zg (W2b rfl rfl rfl rfl rfl) ?_
     refine Zk rfl rfl rfl XH19 ?_
     rintro v _ ⟨hv, rfl⟩; rw [fd_is hl0] at hv; obtain rfl : v = .tuple [fzN l0, .bool true] := hv
     refine Le Zg ?_
     refine Lo Zg (Zb (.inl rfl) rfl) ?_
     refine Lo Zg (rfl) ?_
     refine Lo Zg (rfl) ?_
     refine Lo Zg (Zb (.inr rfl) rfl) ?_
     refine Lo Zg (Zb (.inr rfl) rfl) ?_
     refine Zf (Zc (Zd (Za ?_)))
     refine Lo Zg (Zb (.inl rfl) rfl) ?_
     refine Lo Zg (Zb (.inl rfl) rfl) ?_
     refine Lo Zg (Zb (.inl rfl) rfl) ?_
     refine Lo Zg (Zb (.inl rfl) rfl) ?_
     refine Zk rfl rfl rfl XH27 ?_
     rintro _ _ ⟨rfl, rfl⟩
     refine Le Zg ?_
     refine Lo Zg (Zx rfl rfl rfl) ?_
     refine Lo Zg (Zb (.inr rfl) rfl) ?_
     refine Zf (Zc ?_)
     try refine ZW (List.append_assoc _ _ _) ?_
     refine Zn (Zu ?_)
     refine W10 (.inr rfl) (Zi rfl rfl) ?_
     exact ⟨rfl, rfl⟩
    ·try simp only [qB, qN] at hg4
     try subst hg4
     refine Lf Zg ?_
     refine Lf Zg ?_
     refine Lf Zg ?_
     refine Lf Zg ?_
     refine Lf Zg ?_
     refine Lf Zg ?_
     refine Lf Zg ?_
     refine Lf Zg ?_
     refine Lf Zg ?_
     refine Lf Zg ?_
     refine Lo Zg (Zv (VVal.bool false) rfl rfl rfl) ?_
     refine Zf (Zc ?_)
     refine ZA rfl rfl ?_
     refine Zl (Zc (Zd (Za ?_)))
     refine Lo Zg (Zb (.inl rfl) rfl) ?_
     refine Lo Zg (W2b rfl rfl rfl rfl rfl) ?_
     refine Zk rfl rfl rfl XH10 ?_
     rintro _ _ ⟨rfl, rfl⟩
     refine Le Zg ?_
     refine Zk rfl rfl rfl XH13 ?_
     rintro v _ ⟨hv, rfl⟩; first | (obtain ⟨l0, hl0⟩ := Option.isSome_iff_exists.1 hcn.symm; rw [hl0] at hv; obtain rfl : v = .tuple [fzN l0, .bool true] := hv) | (rw [show leA (Zr p 9) = none from Option.not_isSome_iff_eq_none.1 XH22] at hv; obtain rfl : v = .tuple [fzN [], .bool false] := hv)
     refine Le Zg ?_
     refine Lo Zg (Zb (.inl rfl) rfl) ?_
     refine Lo Zg (rfl) ?_
     refine Lo Zg (rfl) ?_
     refine Lo Zg (Zb (.inr rfl) rfl) ?_
     refine Lo Zg (Zb (.inr rfl) rfl) ?_
     refine Zf (Zc (Zd (Zd (Za ?_))))
     refine Lo Zg (Zb (.inl rfl) rfl) ?_
     refine Zf (Zc ?_)
     refine ZA rfl rfl ?_
     refine Zl (Zc (Zd (Za ?_)))
     refine Lo Zg (Zb (.inl rfl) rfl) ?_
     refine Lo Zg (rfl) ?_
     refine Lo Zg (v_is true rfl (by rfl)) ?_
     refine Lo Zg (Zb (.inr rfl) rfl) ?_
     refine Zf (Zc ?_)
     try refine ZW (List.append_assoc _ _ _) ?_
     refine Zn ?_
     refine W10 (.inr rfl) (Zi rfl rfl) ?_
     exact ⟨rfl, rfl⟩
   ·try simp only [qB, qN] at hc3
    refine Zl (Zc ?_)
    first | (obtain ⟨a, hae, hal⟩ := at_neg hnr1 (by assumption); rw [hae]) | (obtain ⟨a, hae, hal⟩ := at_pos hnr1 (by assumption); rw [hae])
    refine ZS [0, 1, 2, 3, 4, 5, 6, 7, 8, 9, 10, 11] #[0, 1, 0, 7, 0, 16, 0, 64, 240, 511, 1023, 2047] XH2 XH2 XH2 ?_
    refine Oo Zg .calm rfl (rfl) ?_
    refine Oo Zg .look rfl (W5p rfl rfl rfl rfl) ?_
    refine Oo Zg .calm rfl (Zb (.inl rfl) rfl) ?_
    refine Oo Zg .calm rfl (v_slHiE rfl rfl rfl rfl rfl rfl rfl (by omega) hnr1) ?_
    refine Oo Zg .calm rfl (rfl) ?_
    refine Oo Zg .look rfl (W5p rfl rfl rfl rfl) ?_
    refine Oo Zg .calm rfl (Zb (.inl rfl) rfl) ?_
    refine Oo Zg .calm rfl (W14 rfl rfl rfl) ?_
    refine O_opX .calm rfl rfl rfl (v_slTailE (l := a + 1) rfl rfl rfl rfl rfl rfl rfl (by omega) hnr1 (getBX hzb) fl3) rfl rfl ?_
    rintro v2 _ ⟨rfl, hv1, hv2⟩
    refine O_env (env' := Zg) rfl ?_
    refine O_opX .turn rfl rfl rfl (cut_app rfl rfl rfl rfl rfl rfl rfl hzb hv1 hv2 hal (by rfl) (by omega)) rfl rfl ?_
    rintro _ _ ⟨rfl, rfl⟩
    refine O_env (env' := Zg) rfl ?_
    refine Oo Zg .calm rfl (rfl) ?_
    refine Oo Zg .turn rfl (W5q rfl rfl rfl rfl rfl rfl rfl) ?_
    refine ZR [] XH2 (trivial) ?_
    refine Zc (Zd (Zd ?_))
    obtain ⟨Z2, hg4, hz2⟩ := ls_gh (S := psys x) (B := ((H ++ [VBlk.dead, VBlk.dead, gaB (0 + leG (Zr p 9))]) ++ X4)) (rs := (cutO (Zr p 9).rules a)) (len := a + ((Zr p 9).rules.length - (a + 1))) (n := (Zr p 9).rules.length) (Z0 (Yj hzb) hbm.symm) (Yj (Z0 hzm hbm)) (cut_cells hal) XH34 (by omega) hbm
    refine Yg (hg4 _ _) ?_
    refine Yg (Gh.freezePtrL (H := ((H ++ [VBlk.dead, VBlk.dead, gaB (0 + leG (Zr p 9))]) ++ X4)) (L := Z2) (cs := pbB (lsP (Zr p 9) (cutO (Zr p 9).rules a))) 13 m5 rfl hz2 rfl) ?_
    refine ZW (List.append_assoc _ _ _) ?_
    obtain ⟨X5, hX5⟩ : ∃ X5, X5 = X4 ++ Z2.set m5 .dead := ⟨_, rfl⟩
    rw [← hX5]
    refine Za ?_
    refine Lo Zg (Zb (.inl rfl) rfl) ?_
    refine Lo Zg (Zb (.inl rfl) rfl) ?_
    refine ZF 111 (env1 := Zg) (env2 := Zg) rfl rfl rfl (fun hg5 => ?_) (fun hg5 => ?_)
    ·try simp only [qB, qN] at hg5
     try subst hg5
     refine Lo Zg (Zb (.inl rfl) rfl) ?_
     refine Lo Zg (W2b rfl rfl rfl rfl rfl) ?_
     refine Zk rfl rfl rfl XH25 ?_
     rintro v _ ⟨hv, rfl⟩; obtain rfl : v = .bool true := hv.trans (congrArg VVal.bool (wd_some (@Wd_0 (Zr p 9)) hcn))
     refine Le Zg ?_
     refine Lo Zg (rfl) ?_
     refine Lo Zg (Zb (.inl rfl) rfl) ?_
     refine Lo Zg (Zb (.inl rfl) rfl) ?_
     refine Lo Zg (W2b rfl rfl rfl rfl rfl) ?_
     refine Zk rfl rfl rfl XH14 ?_
     rintro v _ ⟨hv, rfl⟩; obtain rfl : v = .bool true := hv.trans (congrArg VVal.bool (ls_some XH34 cutO_mem hcn))
     refine Le Zg ?_
     refine Lo Zg (rfl) ?_
     refine Lo Zg (Yf rfl rfl rfl) ?_
     refine Lo Zg (Zx rfl rfl rfl) ?_
     refine Zf (Zc ?_)
     refine ZA rfl rfl ?_
     refine Zl (Zc (Zd (Za ?_)))
     refine Lo Zg (Zb (.inl rfl) rfl) ?_
     refine Lo Zg (W2b rfl rfl rfl rfl rfl) ?_
     refine Zk rfl rfl rfl XH10 ?_
     rintro _ _ ⟨rfl, rfl⟩
     refine Le Zg ?_
     refine Zk rfl rfl rfl XH13 ?_
     rintro v _ ⟨hv, rfl⟩; first | (obtain ⟨l0, hl0⟩ := Option.isSome_iff_exists.1 hcn.symm; rw [hl0] at hv; obtain rfl : v = .tuple [fzN l0, .bool true] := hv) | (rw [show leA (Zr p 9) = none from Option.not_isSome_iff_eq_none.1 XH22] at hv; obtain rfl : v = .tuple [fzN [], .bool false] := hv)
     refine Le Zg ?_
     refine Lo Zg (Zb (.inl rfl) rfl) ?_
     refine Lo Zg (rfl) ?_
     refine Lo Zg (rfl) ?_
     refine Lo Zg (Zb (.inr rfl) rfl) ?_
     refine Lo Zg (Zb (.inr rfl) rfl) ?_
     refine Zf (Zc (Zd (Zd (Za ?_))))
     refine Lo Zg (Zb (.inl rfl) rfl) ?_
     refine Zf (Zc ?_)
     refine ZV rfl rfl ?_
     refine Zd ?_
     have hld := YK hl0
     have hl12 := hds_len' hld
     have hln := hl12.2
     refine Za ?_
     refine Lo Zg (W2b rfl rfl rfl rfl rfl) ?_
     refine Zk rfl rfl rfl XH10 ?_
     rintro _ _ ⟨rfl, rfl⟩
     refine Le Zg ?_
     refine Lo Zg (Zw rfl rfl) ?_
     refine Lo Zg (W13 rfl rfl rfl rfl rfl rfl rfl) ?_
     refine Zf (Zc (Zd (Za ?_)))
     refine Lo Zg (Zb (.inl rfl) rfl) ?_
     refine Zk rfl rfl rfl XH31 ?_
     rintro v _ ⟨hv, rfl⟩; rw [fzN_is] at hv; subst hv
     refine Le Zg ?_
     refine Lo Zg (rfl) ?_
     refine Lo Zg (W13 rfl rfl rfl rfl rfl rfl rfl) ?_
     refine Zf (Zc (Zd (Za ?_)))
     refine Lo Zg (Zb (.inl rfl) rfl) ?_
     refine Lo Zg (W2b rfl rfl rfl rfl rfl) ?_
     refine Zk rfl rfl rfl XH19 ?_
     rintro v _ ⟨hv, rfl⟩; rw [fd_is hl0] at hv; obtain rfl : v = .tuple [fzN l0, .bool true] := hv
     refine Le Zg ?_
     refine Lo Zg (Zb (.inl rfl) rfl) ?_
     refine Lo Zg (rfl) ?_
     refine Lo Zg (rfl) ?_
     refine Lo Zg (Zb (.inr rfl) rfl) ?_
     refine Lo Zg (Zb (.inr rfl) rfl) ?_
     refine Zf (Zc (Zd (Za ?_)))
     refine Lo Zg (Zb (.inl rfl) rfl) ?_
     refine Lo Zg (Zb (.inl rfl) rfl) ?_
     refine Lo Zg (Zb (.inl rfl) rfl) ?_
     refine Lo Zg (Zb (.inl rfl) rfl) ?_
     refine Zk rfl rfl rfl XH27 ?_
     rintro _ _ ⟨rfl, rfl⟩
     refine Le Zg ?_
     refine Lo Zg (Zx rfl rfl rfl) ?_
     refine Lo Zg (Zb (.inr rfl) rfl) ?_
     refine Zf (Zc ?_)
     try refine ZW (List.append_assoc _ _ _) ?_
     refine Zn (Zu ?_)
     refine W10 (.inr rfl) (Zi rfl rfl) ?_
     exact ⟨rfl, rfl⟩
    ·try simp only [qB, qN] at hg5
     try subst hg5
     refine Lf Zg ?_
     refine Lf Zg ?_
     refine Lf Zg ?_
     refine Lf Zg ?_
     refine Lf Zg ?_
     refine Lf Zg ?_
     refine Lf Zg ?_
     refine Lf Zg ?_
     refine Lf Zg ?_
     refine Lf Zg ?_
     refine Lo Zg (Zv (VVal.bool false) rfl rfl rfl) ?_
     refine Zf (Zc ?_)
     refine ZA rfl rfl ?_
     refine Zl (Zc (Zd (Za ?_)))
     refine Lo Zg (Zb (.inl rfl) rfl) ?_
     refine Lo Zg (W2b rfl rfl rfl rfl rfl) ?_
     refine Zk rfl rfl rfl XH10 ?_
     rintro _ _ ⟨rfl, rfl⟩
     refine Le Zg ?_
     refine Zk rfl rfl rfl XH13 ?_
     rintro v _ ⟨hv, rfl⟩; first | (obtain ⟨l0, hl0⟩ := Option.isSome_iff_exists.1 hcn.symm; rw [hl0] at hv; obtain rfl : v = .tuple [fzN l0, .bool true] := hv) | (rw [show leA (Zr p 9) = none from Option.not_isSome_iff_eq_none.1 XH22] at hv; obtain rfl : v = .tuple [fzN [], .bool false] := hv)
     refine Le Zg ?_
     refine Lo Zg (Zb (.inl rfl) rfl) ?_
     refine Lo Zg (rfl) ?_
     refine Lo Zg (rfl) ?_
     refine Lo Zg (Zb (.inr rfl) rfl) ?_
     refine Lo Zg (Zb (.inr rfl) rfl) ?_
     refine Zf (Zc (Zd (Zd (Za ?_))))
     refine Lo Zg (Zb (.inl rfl) rfl) ?_
     refine Zf (Zc ?_)
     refine ZA rfl rfl ?_
     refine Zl (Zc (Zd (Za ?_)))
     refine Lo Zg (Zb (.inl rfl) rfl) ?_
     refine Lo Zg (rfl) ?_
     refine Lo Zg (v_is true rfl (by rfl)) ?_
     refine Lo Zg (Zb (.inr rfl) rfl) ?_
     refine Zf (Zc ?_)
     try refine ZW (List.append_assoc _ _ _) ?_
     refine Zn ?_
     refine W10 (.inr rfl) (Zi rfl rfl) ?_
     exact ⟨rfl, rfl⟩
theorem SolveMore_walk00 {x : SW} (H : Ze) (p : Pb) (ms : List (BitVec 64)) (k : Int) (hu : -9223372036854775808 ≤ p.users ∧ p.users < 9223372036854775808) (hnw : (Zr p 9).who = []) (hnr : (Zr p 9).rules = []) : F (psys x) 3 [.agg (pbB p), fzW ms, iI k] H fun v G => v = .bool true ∧ G = H := by
 have hL := fewP_L (m := 9) hu
 refine Zy Tryd.func3 rfl Zg rfl ?_
 refine Zd (Za ?_)
 refine Lo Zg (ZE rfl rfl rfl) ?_
 refine Lo Zg (Zj (VVal.bool false) (.inr rfl) rfl) ?_
 refine Zf (Zc (Zd ?_))
 refine Yg (Gh.freezePtrL (cs := pbB p) 3 0 rfl rfl rfl) ?_
 refine Za ?_
 refine Lo Zg (W2b rfl rfl rfl rfl rfl) ?_
 refine Zk rfl rfl rfl (by exact Few_spec _ p 9 hu) ?_
 rintro _ _ ⟨rfl, rfl⟩
 refine Le Zg ?_
 refine Lo Zg (Zw rfl rfl) ?_
 refine Lo Zg (W13 rfl rfl rfl rfl rfl rfl rfl) ?_
 refine Zf (Zc (Zd ?_))
 refine Yg (Gh.freezePtrL (cs := pbB (Zr p 9)) 7 1 rfl rfl rfl) ?_
 refine Za ?_
 refine Zk rfl rfl rfl (by exact sNew_spec _) ?_
 rintro _ _ ⟨rfl, rfl⟩; rw [List.append_assoc, List.length_append]
 refine Le Zg ?_
 refine Lo Zg (Zb (.inr rfl) rfl) ?_
 refine Zf (Zc (Zd (Zd (Za ?_))))
 refine Lo Zg (Zb (.inl rfl) rfl) ?_
 refine Lo Zg (v_is false rfl rfl) ?_
 refine Lo Zg (Zb (.inl rfl) rfl) ?_
 refine Zk rfl rfl rfl (by exact wakes_spec _) ?_
 rintro _ _ ⟨rfl, rfl⟩
 refine Le Zg ?_
 refine Lo Zg (rfl) ?_
 refine Lo Zg (Yf rfl rfl rfl) ?_
 refine Zf (Zc ?_)
 refine ZA rfl rfl ?_
 refine Zl (Zc (Zd (Zd (Za ?_))))
 refine Lo Zg (W2b rfl rfl rfl rfl rfl) ?_
 refine Zk rfl rfl rfl XH10 ?_
 rintro _ _ ⟨rfl, rfl⟩
 refine Le Zg ?_
 refine Zk rfl rfl rfl (by exact Yo _ (Zr p 9) hL) ?_
 rintro _ _ ⟨rfl, rfl⟩
 refine Le Zg ?_
 refine Lo Zg (rfl) ?_
 refine Zf (Zc ?_)
 refine Zo _ rfl (fun hc1 => ?_) (fun hc1 => ?_)
 ·try simp only [qB, qN] at hc1
  refine Zd ?_
  refine ZW (H' := (H ++ [VBlk.dead, VBlk.dead, gaB 0]) ++ []) XH23 ?_
  refine Za ?_
  refine Lo Zg (Zb (.inl rfl) rfl) ?_
  refine Lo Zg (W2b rfl rfl rfl rfl rfl) ?_
  refine Zk rfl rfl rfl XH10 ?_
  rintro _ _ ⟨rfl, rfl⟩
  refine Le Zg ?_
  refine Zk rfl rfl rfl XH21 ?_
  rintro v _ ⟨hv, rfl⟩; obtain rfl : v = .bool false := hv.trans (congrArg VVal.bool XH32)
  refine Le Zg ?_
  refine Lo Zg (rfl) ?_
  refine Lo Zg (Zb (.inr rfl) rfl) ?_
  refine Zf (Zc ?_)
  try refine ZW (List.append_assoc _ _ _) ?_
  refine Zn (Zu ?_)
  refine W10 (.inr rfl) (Zi rfl rfl) ?_
  exact ⟨rfl, rfl⟩
 ·try simp only [qB, qN] at hc1
  refine Zl (Zc (Zd ?_))
  have h0 : pck (Zr p 9) = 0 := by first | assumption | simp_all
  have g := pck_good.1 h0
  have g2 := g.u64; have g4 := g.u0; have g5 := g.fx
  have gn12 := g.n12; have gr := g.r32
  refine ZW (H' := (H ++ [VBlk.dead, VBlk.dead, gaB 0]) ++ []) XH23 ?_
  have hz : (Zr p 9).who.length = 0 := by rw [hnw]; rfl
  refine Za ?_
  refine Lo Zg (Zb (.inl rfl) rfl) ?_
  refine Lo Zg (W2b rfl rfl rfl rfl rfl) ?_
  refine Zk rfl rfl rfl XH10 ?_
  rintro _ _ ⟨rfl, rfl⟩
  refine Le Zg ?_
  refine Zk rfl rfl rfl XH21 ?_
  rintro v _ ⟨hv, rfl⟩; obtain ⟨c, hcn⟩ : ∃ c, c = (leA (Zr p 9)).isSome := ⟨_, rfl⟩; rw [← hcn] at hv; subst hv
  refine Le Zg ?_
  refine Lo Zg (Zb (.inr rfl) rfl) ?_
  refine Zf (Zc (Zd (Za ?_)))
  refine Lo Zg (W2b rfl rfl rfl rfl rfl) ?_
  refine Zk rfl rfl rfl XH10 ?_
  rintro _ _ ⟨rfl, rfl⟩
  refine Le Zg ?_
  refine Lo Zg (Zw rfl rfl) ?_
  refine Lo Zg (W13 rfl rfl rfl rfl rfl rfl rfl) ?_
  refine Zf (Zc (Zd (Zd ?_)))
  refine Yg (Gh.freezePtrL (H := (H ++ [VBlk.dead, VBlk.dead, gaB (0 + leG (Zr p 9))])) (L := [VBlk.cells (pbB (Zr p 9)) true]) (cs := pbB (Zr p 9)) 10 0 rfl rfl rfl) ?_
  refine Za ?_
  refine Lo Zg (Zj (VVal.int .i64 0) (.inr rfl) rfl) ?_
  refine Zf (Zc (Zp ?_))
  refine ZI (mk 151 2854495385411919762116571938898990272765489273) (env' := Zg) rfl ?_
  refine ZP (fun (i : Nat) => 0 - i) (fun (i : Nat) => [(11, iI (i : Nat))]) (fun (i : Nat) G => (i ≤ 0) ∧ G = (H ++ [VBlk.dead, VBlk.dead, gaB (0 + leG (Zr p 9))]) ++ [VBlk.dead]) 0 rfl ?_ ?_
  ·refine ⟨?_, rfl⟩
   exact Nat.zero_le _
  rintro i _ ⟨hi, rfl⟩
  refine ZZ (env' := Zg) rfl ?_
  refine Zd (Zd (Za ?_))
  refine Lo Zg (Zb (.inl rfl) rfl) ?_
  refine Lo Zg (rfl) ?_
  refine Lo Zg (W2d rfl rfl rfl rfl) ?_
  refine Lo Zg (rfl) ?_
  refine Lo Zg (rfl) ?_
  refine Lo Zg (Zb (.inl rfl) rfl) ?_
  refine ZF 49 (env1 := Zg) (env2 := Zg) rfl rfl rfl (fun hg2 => ?_) (fun hg2 => ?_)
  ·try simp only [qB, qN] at hg2
   exact absurd hg2 (by simp [hz])
  ·try simp only [qB, qN] at hg2
   try subst hg2
   refine Lf Zg ?_
   refine Lf Zg ?_
   refine Lf Zg ?_
   refine Lf Zg ?_
   refine Lo Zg (Zv (VVal.bool false) rfl rfl rfl) ?_
   refine Zf (Zc ?_)
   refine ZA rfl rfl ?_
   refine ZL (ZJ (ZB (ZK (Zc (Zd ?_)))))
   obtain ⟨X4, hX4⟩ : ∃ X4, X4 = [VBlk.dead] := ⟨_, rfl⟩
   rw [← hX4]
   refine Za ?_
   refine Lo Zg (W2b rfl rfl rfl rfl rfl) ?_
   refine Zk rfl rfl rfl XH10 ?_
   rintro _ _ ⟨rfl, rfl⟩
   refine Le Zg ?_
   refine Lo Zg (Zw rfl rfl) ?_
   refine Lo Zg (W13 rfl rfl rfl rfl rfl rfl rfl) ?_
   refine Zf (Zc (Zd (Zd ?_)))
   refine Yg (Gh.freezeEnd (B0 := (H ++ [VBlk.dead, VBlk.dead, gaB (0 + leG (Zr p 9))])) (X := X4) (cs := pbB (Zr p 9)) 13 rfl rfl) ?_
   refine Za ?_
   refine Lo Zg (rfl) ?_
   refine Lo Zg (W2d rfl rfl rfl rfl) ?_
   refine Lo Zg (rfl) ?_
   refine Lo Zg (v_is false rfl (by rw [hnr]; rfl)) ?_
   refine Zf (Zc ?_)
   refine ZA rfl rfl ?_
   refine Zl (Zc (Zd (Zd ?_)))
   obtain ⟨X5, hX5⟩ : ∃ X5, X5 = X4 ++ [VBlk.dead] := ⟨_, rfl⟩
   rw [← hX5]
   refine Za ?_
   refine Lo Zg (Zb (.inl rfl) rfl) ?_
   refine Lo Zg (Zb (.inl rfl) rfl) ?_
   refine ZF 111 (env1 := Zg) (env2 := Zg) rfl rfl rfl (fun hg3 => ?_) (fun hg3 => ?_)
   ·try simp only [qB, qN] at hg3
    try subst hg3
    refine Lo Zg (Zb (.inl rfl) rfl) ?_
    refine Lo Zg (W2b rfl rfl rfl rfl rfl) ?_
    refine Zk rfl rfl rfl XH25 ?_
    rintro v _ ⟨hv, rfl⟩; obtain rfl : v = .bool true := hv.trans (congrArg VVal.bool (wd_some (@Wd_0 (Zr p 9)) hcn))
    refine Le Zg ?_
    refine Lo Zg (rfl) ?_
    refine Lo Zg (Zb (.inl rfl) rfl) ?_
    refine Lo Zg (Zb (.inl rfl) rfl) ?_
    refine Lo Zg (W2b rfl rfl rfl rfl rfl) ?_
    refine Zk rfl rfl rfl (by exact Can_m _ (lsP (Zr p 9) (Zr p 9).rules) (lsP_L hL (Nat.le_refl _) (fun r hr => hr))) ?_
    rintro v _ ⟨hv, rfl⟩; obtain rfl : v = .bool true := hv.trans (congrArg VVal.bool (ls_some (Nat.le_refl _) (fun r hr => hr) hcn))
    refine Le Zg ?_
    refine Lo Zg (rfl) ?_
    refine Lo Zg (Yf rfl rfl rfl) ?_
    refine Lo Zg (Zx rfl rfl rfl) ?_
    refine Zf (Zc ?_)
    refine ZA rfl rfl ?_
    refine Zl (Zc (Zd (Za ?_)))
    refine Lo Zg (Zb (.inl rfl) rfl) ?_
    refine Lo Zg (W2b rfl rfl rfl rfl rfl) ?_
    refine Zk rfl rfl rfl XH10 ?_
    rintro _ _ ⟨rfl, rfl⟩
    refine Le Zg ?_
    refine Zk rfl rfl rfl XH13 ?_
    rintro v _ ⟨hv, rfl⟩; first | (obtain ⟨l0, hl0⟩ := Option.isSome_iff_exists.1 hcn.symm; rw [hl0] at hv; obtain rfl : v = .tuple [fzN l0, .bool true] := hv) | (rw [show leA (Zr p 9) = none from Option.not_isSome_iff_eq_none.1 XH22] at hv; obtain rfl : v = .tuple [fzN [], .bool false] := hv)
    refine Le Zg ?_
    refine Lo Zg (Zb (.inl rfl) rfl) ?_
    refine Lo Zg (rfl) ?_
    refine Lo Zg (rfl) ?_
    refine Lo Zg (Zb (.inr rfl) rfl) ?_
    refine Lo Zg (Zb (.inr rfl) rfl) ?_
    refine Zf (Zc (Zd (Zd (Za ?_))))
    refine Lo Zg (Zb (.inl rfl) rfl) ?_
    refine Zf (Zc ?_)
    refine ZV rfl rfl ?_
    refine Zd ?_
    have hld := YK hl0
    have hl12 := hds_len' hld
    have hln := hl12.2
    refine Za ?_
    refine Lo Zg (W2b rfl rfl rfl rfl rfl) ?_
    refine Zk rfl rfl rfl XH10 ?_
    rintro _ _ ⟨rfl, rfl⟩
    refine Le Zg ?_
    refine Lo Zg (Zw rfl rfl) ?_
    refine Lo Zg (W13 rfl rfl rfl rfl rfl rfl rfl) ?_
    refine Zf (Zc (Zd (Za ?_)))
    refine Lo Zg (Zb (.inl rfl) rfl) ?_
    refine Zk rfl rfl rfl XH31 ?_
    rintro v _ ⟨hv, rfl⟩; rw [fzN_is] at hv; subst hv
    refine Le Zg ?_
    refine Lo Zg (rfl) ?_
    refine Lo Zg (W13 rfl rfl rfl rfl rfl rfl rfl) ?_
    refine Zf (Zc (Zd (Za ?_)))
    refine Lo Zg (Zb (.inl rfl) rfl) ?_
    refine Lo Zg (W2b rfl rfl rfl rfl rfl) ?_
    refine Zk rfl rfl rfl XH19 ?_
    rintro v _ ⟨hv, rfl⟩; rw [fd_is hl0] at hv; obtain rfl : v = .tuple [fzN l0, .bool true] := hv
    refine Le Zg ?_
    refine Lo Zg (Zb (.inl rfl) rfl) ?_
    refine Lo Zg (rfl) ?_
    refine Lo Zg (rfl) ?_
    refine Lo Zg (Zb (.inr rfl) rfl) ?_
    refine Lo Zg (Zb (.inr rfl) rfl) ?_
    refine Zf (Zc (Zd (Za ?_)))
    refine Lo Zg (Zb (.inl rfl) rfl) ?_
    refine Lo Zg (Zb (.inl rfl) rfl) ?_
    refine Lo Zg (Zb (.inl rfl) rfl) ?_
    refine Lo Zg (Zb (.inl rfl) rfl) ?_
    refine Zk rfl rfl rfl XH27 ?_
    rintro _ _ ⟨rfl, rfl⟩
    refine Le Zg ?_
    refine Lo Zg (Zx rfl rfl rfl) ?_
    refine Lo Zg (Zb (.inr rfl) rfl) ?_
    refine Zf (Zc ?_)
    try refine ZW (List.append_assoc _ _ _) ?_
    refine Zn (Zu ?_)
    refine W10 (.inr rfl) (Zi rfl rfl) ?_
    exact ⟨rfl, rfl⟩
   ·try simp only [qB, qN] at hg3
    try subst hg3
    refine Lf Zg ?_
    refine Lf Zg ?_
    refine Lf Zg ?_
    refine Lf Zg ?_
    refine Lf Zg ?_
    refine Lf Zg ?_
    refine Lf Zg ?_
    refine Lf Zg ?_
    refine Lf Zg ?_
    refine Lf Zg ?_
    refine Lo Zg (Zv (VVal.bool false) rfl rfl rfl) ?_
    refine Zf (Zc ?_)
    refine ZA rfl rfl ?_
    refine Zl (Zc (Zd (Za ?_)))
    refine Lo Zg (Zb (.inl rfl) rfl) ?_
    refine Lo Zg (W2b rfl rfl rfl rfl rfl) ?_
    refine Zk rfl rfl rfl XH10 ?_
    rintro _ _ ⟨rfl, rfl⟩
    refine Le Zg ?_
    refine Zk rfl rfl rfl XH13 ?_
    rintro v _ ⟨hv, rfl⟩; first | (obtain ⟨l0, hl0⟩ := Option.isSome_iff_exists.1 hcn.symm; rw [hl0] at hv; obtain rfl : v = .tuple [fzN l0, .bool true] := hv) | (rw [show leA (Zr p 9) = none from Option.not_isSome_iff_eq_none.1 XH22] at hv; obtain rfl : v = .tuple [fzN [], .bool false] := hv)
    refine Le Zg ?_
    refine Lo Zg (Zb (.inl rfl) rfl) ?_
    refine Lo Zg (rfl) ?_
    refine Lo Zg (rfl) ?_
    refine Lo Zg (Zb (.inr rfl) rfl) ?_
    refine Lo Zg (Zb (.inr rfl) rfl) ?_
    refine Zf (Zc (Zd (Zd (Za ?_))))
    refine Lo Zg (Zb (.inl rfl) rfl) ?_
    refine Zf (Zc ?_)
    refine ZA rfl rfl ?_
    refine Zl (Zc (Zd (Za ?_)))
    refine Lo Zg (Zb (.inl rfl) rfl) ?_
    refine Lo Zg (rfl) ?_
    refine Lo Zg (v_is true rfl (by rfl)) ?_
    refine Lo Zg (Zb (.inr rfl) rfl) ?_
    refine Zf (Zc ?_)
    try refine ZW (List.append_assoc _ _ _) ?_
    refine Zn ?_
    refine W10 (.inr rfl) (Zi rfl rfl) ?_
    exact ⟨rfl, rfl⟩
end Go.Proofs.YtenkjadobkjaeaaDoor.VT
