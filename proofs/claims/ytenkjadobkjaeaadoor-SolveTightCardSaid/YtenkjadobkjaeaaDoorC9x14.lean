/- Proved: Rows.SolveTightCardSaid, the statement SolveTight with its card, of the given program at the commit; no conditions beyond those in the statement. -/
import Derived.Test.YtenkjadobkjaeaaDoorC9x13
set_option autoImplicit false
set_option linter.unusedVariables false
set_option linter.unusedSimpArgs false
set_option maxHeartbeats 4000000
set_option maxRecDepth 100000
namespace Go.Proofs.YtenkjadobkjaeaaDoor.VT
open Go Go.V Go.RowKit
abbrev ZI {a0 a1 a2 a3 a4 a5 a6 a7 a8 a9 a10 a11 a12 a13 a14 a15 a16 a17 a18 a19 a20 a21 a22 a23 a24 a25 a26 a27 a28 a29 a30 a31 a32 a33 a34 a35 a36 a37 a38 a39 a40 a41 a42 a43 a44 a45 a46 a47 a48 a49 a50 a51 a52 a53 a54 a55 a56 a57 a58 a59 a60 a61 a62 a63 a64 a65 a66 a67 a68 a69 a70 a71 a72 a73 a74 a75 a76 a77 a78 a79 a80 a81 a82 a83 a84 a85 a86 a87 a88 a89 a90 a91 a92 a93 a94 a95 a96 a97 a98 a99 a100 a101 : VVal} : VEnv := a0 :: a1 :: a2 :: a3 :: a4 :: a5 :: a6 :: a7 :: a8 :: a9 :: a10 :: a11 :: a12 :: a13 :: a14 :: a15 :: a16 :: a17 :: a18 :: a19 :: a20 :: a21 :: a22 :: a23 :: a24 :: a25 :: a26 :: a27 :: a28 :: a29 :: a30 :: a31 :: a32 :: a33 :: a34 :: a35 :: a36 :: a37 :: a38 :: a39 :: a40 :: a41 :: a42 :: a43 :: a44 :: a45 :: a46 :: a47 :: a48 :: a49 :: a50 :: a51 :: a52 :: a53 :: a54 :: a55 :: a56 :: a57 :: a58 :: a59 :: a60 :: a61 :: a62 :: a63 :: a64 :: a65 :: a66 :: a67 :: a68 :: a69 :: a70 :: a71 :: a72 :: a73 :: a74 :: a75 :: a76 :: a77 :: a78 :: a79 :: a80 :: a81 :: a82 :: a83 :: a84 :: a85 :: a86 :: a87 :: a88 :: a89 :: a90 :: a91 :: a92 :: a93 :: a94 :: a95 :: a96 :: a97 :: a98 :: a99 :: a100 :: a101 :: []
theorem W56 {T : TypeId → Option VTy} {H : Zc} {op : Op} {ρ : Operand → VVal} {t : TypeId} {a : Operand} {y : VTy} {p v : VVal} (ho : op = .load t a) (ha : ρ a = p) (hy : T t = some y) (hd : Zj y.desc = false) (h : LdOk H p v := by first | exact .inl ⟨_, _, rfl, by exact fget0W (by omega)⟩ | exact .inr ⟨_, _, _, _, rfl, by exact Zm (Zm ha), by exact fget0W (by omega)⟩) : vop T ρ H op = some (v, H) := v_ld ho ha hy hd h
theorem W58 {T : TypeId → Option VTy} {H : Zc} {op : Op} {ρ : Operand → VVal} {t : TypeId} {a : Operand} {y : VTy} {p v : VVal} (ho : op = .load t a) (ha : ρ a = p) (hy : T t = some y) (hd : Zj y.desc = false) (h : LdOk H p v := by first | exact .inl ⟨_, _, rfl, by exact fget0N (by omega)⟩ | exact .inr ⟨_, _, _, _, rfl, by exact Zm (Zm hb), by exact fget0N (by omega)⟩) : vop T ρ H op = some (v, H) := v_ld ho ha hy hd h
theorem W5a {S : V.Sys} {H : Zc} {fn : Func} {ex : Exit} {env : VEnv} {B L : Zc} {v : VVal} {R : VVal → Zc → Prop} (hx : ex = .normal ∨ ex = .ret) (hv : ZW S.C.T env (B ++ L) fn.results = some v) (h : R v B) (hB : BaseOk H B := by exact XH36) (hu : v.under H.length = true := by exact pb_under (p := (U, w, f, [], ()))) : fnK S fn H R ex env (B ++ L) := E_app hx hv hB hu h
theorem W5b {S : V.Sys} {H : Zc} {fn : Func} {ex : Exit} {env : VEnv} {B L : Zc} {v : VVal} {R : VVal → Zc → Prop} (hx : ex = .normal ∨ ex = .ret) (hv : ZW S.C.T env (B ++ L) fn.results = some v) (h : R v B) (hB : BaseOk H B := by exact XH36) (hu : v.under H.length = true := by exact mapI_under _ _) : fnK S fn H R ex env (B ++ L) := E_app hx hv hB hu h
theorem Cut_live {x : SW} (H : Zc) (U : Int) (w : List (BitVec 64)) (f : List Int) (a b : Nat) (ha : H[a]? = some (.cells (w.map iW) true)) (hb : H[b]? = some (.cells (f.map iI) true)) (hw : w.length ≤ 20) (hf : f.length ≤ 20) : F (psys x) 19 [.agg [iI U, .slice (some (a, 0)) w.length w.length false 1, .slice (some (b, 0)) f.length f.length false 1, Yk]] H fun v G => v = .agg (pbB (U, w, f, [], ())) ∧ G = H := by
 refine Zs Tryd.func19 rfl ZI rfl ?_
 refine Ze (Za ?_)
 refine Lo ZI (Zy rfl rfl rfl) ?_
 refine Lo ZI (ZG rfl rfl) ?_
 refine Zf (Zd (Ze (Za ?_)))
 refine Lo ZI (rfl) ?_
 refine Lo ZI (W1y rfl rfl rfl rfl) ?_
 refine Lo ZI (rfl) ?_
 refine Lo ZI (ZG rfl rfl) ?_
 refine Lo ZI (W13 rfl rfl rfl rfl rfl rfl rfl) ?_
 refine Zf (Zd ?_)
 refine B_seqJ (mk 102 5070602400912917605986812821489) (fun (u0 : Unit) => []) (fun (u0 : Unit) G => (True) ∧ ∃ lv X, G = (H ++ [VBlk.cells [iI U, .slice (some (a, 0)) w.length w.length false 1, .slice (some (b, 0)) f.length f.length false 1, Yk] true, pqB 0 Yk Yk Yk, pqB U lv Yk Yk]) ++ X ∧ LV (H.length + 3) 1 X lv (w.map iW) w.length) ?_ ?_
 ·skip
  refine Ze (Za ?_)
  refine Lo ZI (Zh (VVal.int .i64 0) (.inr rfl) rfl) ?_
  refine Zf (Zd (Zn ?_))
  refine ZD (mk 102 5070602400912917605986812821473) (env' := ZI) rfl ?_
  refine ZH (fun (i : Nat) => w.length - i) (fun (i : Nat) => [(4, iI (i : Nat))]) (fun (i : Nat) G => (i ≤ w.length) ∧ ∃ lv X, G = (H ++ [VBlk.cells [iI U, .slice (some (a, 0)) w.length w.length false 1, .slice (some (b, 0)) f.length f.length false 1, Yk] true, pqB 0 Yk Yk Yk, pqB U lv Yk Yk]) ++ X ∧ LV (H.length + 3) 1 X lv ((w.take i).map iW) (w.take i).length) 0 rfl ?_ ?_
  ·refine ⟨?_, ⟨_, [], (List.append_nil _).symm, LV.nil _ _ _⟩⟩
   exact Nat.zero_le _
  rintro i _ ⟨hi1, ⟨lv, X, rfl, hl⟩⟩
  refine Z4 (env' := ZI) rfl ?_
  refine Ze (Ze (Za ?_))
  refine Lo ZI (Zb (.inl rfl) rfl) ?_
  refine Lo ZI (rfl) ?_
  refine Lo ZI (W1y rfl rfl rfl rfl) ?_
  refine Lo ZI (rfl) ?_
  refine Lo ZI (rfl) ?_
  refine Lo ZI (Zb (.inl rfl) rfl) ?_
  refine ZT 18 (env1 := ZI) (env2 := ZI) rfl rfl rfl (fun hg1 => ?_) (fun hg1 => ?_)
  ·try simp only [qB, qN] at hg1
   refine Lo ZI (Zb (.inl rfl) rfl) ?_
   refine Lo ZI (rfl) ?_
   refine Lo ZI (ZA rfl rfl rfl) ?_
   refine Zf (Zd ?_)
   refine Zp _ rfl (fun hc2 => ?_) (fun hc2 => ?_)
   ·try simp only [qB, qN] at hc2
    refine Zo (Zd (Ze (Zn ?_)))
    refine ZZ [0, 1, 2, 3, 4, 5, 6, 7, 8, 9, 10] #[0, 1, 0, 4, 0, 28, 60, 124, 255, 511, 1023] XH2 XH2 XH2 ?_
    refine Oo ZI .calm rfl (rfl) ?_
    refine Oo ZI .look rfl (W1y rfl rfl rfl rfl) ?_
    refine Oo ZI .calm rfl (rfl) ?_
    refine Oo ZI .look rfl (W1y rfl rfl rfl rfl) ?_
    refine Oo ZI .calm rfl (Zb (.inl rfl) rfl) ?_
    refine Oo ZI .calm rfl (W18 rfl rfl rfl rfl rfl rfl rfl) ?_
    refine Oo ZI .look rfl (W56 rfl rfl rfl rfl) ?_
    refine Oo ZI .grow rfl (Zt rfl rfl (by decide) rfl) ?_
    refine O_opX .turn rfl rfl rfl (YE rfl rfl rfl rfl rfl rfl rfl (by simp) hl rfl rfl (by decide) (by rw [List.length_take]; show (_ + 1) * 8 ≤ _ ∧ _ + 1 ≤ _; omega) (by decide)) rfl rfl ?_
    rintro _ _ ⟨Y1, rfl, rfl, hY1, hY2, hY3⟩
    refine O_env (env' := ZI) rfl ?_
    refine Oo ZI .calm rfl (rfl) ?_
    refine Oo ZI .turn rfl (W13 rfl rfl rfl rfl rfl rfl rfl) ?_
    refine ZU [] XH2 (trivial) ?_
    refine ZB (Zd (Za ?_))
    refine Lo ZI (Zb (.inl rfl) rfl) ?_
    refine Lo ZI (W14 rfl rfl rfl) ?_
    refine Lo ZI (Zb (.inr rfl) rfl) ?_
    refine Zf ?_
    refine ZR (mk 102 5070602400912917605986812821473) (env' := ZI) rfl ⟨i + 1, ?_, rfl, ?_⟩
    ·first | omega | (simp only []; omega)
    ·exact ⟨by omega, _, _, rfl, by rw [Yv (d := 0) (by omega)]; exact LV.pushW hY3⟩
   ·try simp only [qB, qN] at hc2
    refine ZO (ZM (ZE (ZN ?_)))
    refine ZR (mk 102 5070602400912917605986812821489) (env' := ZI) rfl ⟨(), rfl, ?_⟩
    exact ⟨trivial, _, _, rfl, by rw [List.take_of_length_le (by omega)] at hl; exact hl⟩
  ·try simp only [qB, qN] at hg1
   refine Lf ZI ?_
   refine Lf ZI ?_
   refine Lo ZI (ZF (VVal.bool false) rfl rfl rfl) ?_
   refine Zf (Zd ?_)
   refine Yb rfl rfl ?_
   refine ZO (ZM (ZE (ZN ?_)))
   refine ZR (mk 102 5070602400912917605986812821489) (env' := ZI) rfl ⟨(), rfl, ?_⟩
   exact ⟨trivial, _, _, rfl, by rw [List.take_of_length_le (by omega)] at hl; exact hl⟩
 ·rintro u0 _ ⟨_, ⟨lv, X, rfl, hl⟩⟩
  refine Z4 (env' := ZI) rfl ?_
  refine B_seqJ (mk 102 5070602400912917605986812821489) (fun (u0 : Unit) => []) (fun (u0 : Unit) G => (True) ∧ ∃ lv X, G = (H ++ [VBlk.cells [iI U, .slice (some (a, 0)) w.length w.length false 1, .slice (some (b, 0)) f.length f.length false 1, Yk] true, pqB 0 Yk Yk Yk, pqB U (fzW w) lv Yk]) ++ X ∧ LV (H.length + 3) 1 X lv (f.map iI) f.length) ?_ ?_
  ·skip
   refine Ze ?_
   refine B_ghCell 2 1 hl rfl rfl (by simp) fun X1 _ _ => ?_
   refine Za ?_
   refine Lo ZI (Zh (VVal.int .i64 0) (.inr rfl) rfl) ?_
   refine Zf (Zd (Zn ?_))
   refine ZD (mk 102 5070602400912917605986812821457) (env' := ZI) rfl ?_
   refine ZH (fun (j : Nat) => f.length - j) (fun (j : Nat) => [(5, iI (j : Nat))]) (fun (j : Nat) G => (j ≤ f.length) ∧ ∃ lv X, G = (H ++ [VBlk.cells [iI U, .slice (some (a, 0)) w.length w.length false 1, .slice (some (b, 0)) f.length f.length false 1, Yk] true, pqB 0 Yk Yk Yk, pqB U (fzW w) lv Yk]) ++ X ∧ LV (H.length + 3) 1 X lv ((f.take j).map iI) (f.take j).length) 0 rfl ?_ ?_
   ·refine ⟨?_, ⟨_, X1, rfl, LV.nil _ _ _⟩⟩
    exact Nat.zero_le _
   rintro j _ ⟨hj1, ⟨lv, X, rfl, hl⟩⟩
   refine Z4 (env' := ZI) rfl ?_
   refine Ze (Ze (Za ?_))
   refine Lo ZI (Zb (.inl rfl) rfl) ?_
   refine Lo ZI (rfl) ?_
   refine Lo ZI (W1y rfl rfl rfl rfl) ?_
   refine Lo ZI (rfl) ?_
   refine Lo ZI (rfl) ?_
   refine Lo ZI (Zb (.inl rfl) rfl) ?_
   refine ZT 39 (env1 := ZI) (env2 := ZI) rfl rfl rfl (fun hg3 => ?_) (fun hg3 => ?_)
   ·try simp only [qB, qN] at hg3
    refine Lo ZI (Zb (.inl rfl) rfl) ?_
    refine Lo ZI (rfl) ?_
    refine Lo ZI (ZA rfl rfl rfl) ?_
    refine Zf (Zd ?_)
    refine Zp _ rfl (fun hc4 => ?_) (fun hc4 => ?_)
    ·try simp only [qB, qN] at hc4
     refine Zo (Zd (Ze (Zn ?_)))
     refine ZZ [0, 1, 2, 3, 4, 5, 6, 7, 8, 9, 10] #[0, 1, 0, 4, 0, 28, 60, 124, 255, 511, 1023] XH2 XH2 XH2 ?_
     refine Oo ZI .calm rfl (rfl) ?_
     refine Oo ZI .look rfl (W1y rfl rfl rfl rfl) ?_
     refine Oo ZI .calm rfl (rfl) ?_
     refine Oo ZI .look rfl (W1y rfl rfl rfl rfl) ?_
     refine Oo ZI .calm rfl (Zb (.inl rfl) rfl) ?_
     refine Oo ZI .calm rfl (W18 rfl rfl rfl rfl rfl rfl rfl) ?_
     refine Oo ZI .look rfl (W58 rfl rfl rfl rfl) ?_
     refine Oo ZI .grow rfl (Zt rfl rfl (by decide) rfl) ?_
     refine O_opX .turn rfl rfl rfl (YE rfl rfl rfl rfl rfl rfl rfl (by simp) hl rfl rfl (by decide) (by rw [List.length_take]; show (_ + 1) * 8 ≤ _ ∧ _ + 1 ≤ _; omega) (by decide)) rfl rfl ?_
     rintro _ _ ⟨Y1, rfl, rfl, hY1, hY2, hY3⟩
     refine O_env (env' := ZI) rfl ?_
     refine Oo ZI .calm rfl (rfl) ?_
     refine Oo ZI .turn rfl (W13 rfl rfl rfl rfl rfl rfl rfl) ?_
     refine ZU [] XH2 (trivial) ?_
     refine ZB (Zd (Za ?_))
     refine Lo ZI (Zb (.inl rfl) rfl) ?_
     refine Lo ZI (W14 rfl rfl rfl) ?_
     refine Lo ZI (Zb (.inr rfl) rfl) ?_
     refine Zf ?_
     refine ZR (mk 102 5070602400912917605986812821457) (env' := ZI) rfl ⟨j + 1, ?_, rfl, ?_⟩
     ·first | omega | (simp only []; omega)
     ·exact ⟨by omega, _, _, rfl, by rw [Yv (d := 0) (by omega)]; exact LV.pushI hY3⟩
    ·try simp only [qB, qN] at hc4
     refine ZO (ZM (ZE (ZN ?_)))
     refine ZR (mk 102 5070602400912917605986812821489) (env' := ZI) rfl ⟨(), rfl, ?_⟩
     exact ⟨trivial, _, _, rfl, by rw [List.take_of_length_le (by omega)] at hl; exact hl⟩
   ·try simp only [qB, qN] at hg3
    refine Lf ZI ?_
    refine Lf ZI ?_
    refine Lo ZI (ZF (VVal.bool false) rfl rfl rfl) ?_
    refine Zf (Zd ?_)
    refine Yb rfl rfl ?_
    refine ZO (ZM (ZE (ZN ?_)))
    refine ZR (mk 102 5070602400912917605986812821489) (env' := ZI) rfl ⟨(), rfl, ?_⟩
    exact ⟨trivial, _, _, rfl, by rw [List.take_of_length_le (by omega)] at hl; exact hl⟩
  ·rintro u0 _ ⟨_, ⟨lv, X, rfl, hl⟩⟩
   refine Z4 (env' := ZI) rfl ?_
   refine Ze (Ze ?_)
   refine B_ghCell 2 2 hl rfl rfl (by simp) fun X2 _ _ => ?_
   refine Za ?_
   refine Lo ZI (Zh (VVal.int .i64 0) (.inr rfl) rfl) ?_
   refine Zf (Zd (Zn ?_))
   refine ZD (mk 102 5070602400912917605986812821425) (env' := ZI) rfl ?_
   refine ZH (fun (m : Nat) => 0 - m) (fun (m : Nat) => [(6, iI (m : Nat))]) (fun (m : Nat) G => (m ≤ 0) ∧ ∃ X, G = (H ++ [VBlk.cells [iI U, .slice (some (a, 0)) w.length w.length false 1, .slice (some (b, 0)) f.length f.length false 1, Yk] true, pqB 0 Yk Yk Yk, pqB U (fzW w) (fzI f) Yk]) ++ X) 0 rfl ?_ ?_
   ·refine ⟨?_, ⟨X2, rfl⟩⟩
    exact Nat.zero_le _
   rintro m _ ⟨hm1, ⟨X, rfl⟩⟩
   refine Z4 (env' := ZI) rfl ?_
   refine Ze (Ze (Za ?_))
   refine Lo ZI (Zb (.inl rfl) rfl) ?_
   refine Lo ZI (rfl) ?_
   refine Lo ZI (W1y rfl rfl rfl rfl) ?_
   refine Lo ZI (rfl) ?_
   refine Lo ZI (rfl) ?_
   refine Lo ZI (Zb (.inl rfl) rfl) ?_
   refine ZT 60 (env1 := ZI) (env2 := ZI) rfl rfl rfl (fun hg5 => ?_) (fun hg5 => ?_)
   ·try simp only [qB, qN] at hg5
    exact absurd hg5 (by simp)
   ·try simp only [qB, qN] at hg5
    refine Lf ZI ?_
    refine Lf ZI ?_
    refine Lo ZI (ZF (VVal.bool false) rfl rfl rfl) ?_
    refine Zf (Zd ?_)
    refine Yb rfl rfl ?_
    refine ZO (ZM (ZE (ZN (Zd (Ze ?_)))))
    refine B_heap (List.append_assoc _ _ _) ?_
    refine B_gh (Gh.cellNilL 2 3 (es' := 3) rfl rfl) ?_
    refine Za ?_
    refine Lo ZI (W22 rfl rfl rfl rfl rfl) ?_
    refine Lo ZI (W13 rfl rfl rfl rfl rfl rfl rfl) ?_
    refine Zf (Zd (Zk ?_))
    refine W5a (.inr rfl) (vres_cellA rfl rfl rfl rfl XH0 (by first | rfl | assumption | exact fgetN (α := BitVec 64) 0 (by omega) | exact fgetN (α := Int) 0 (by omega))) ?_
    exact ⟨rfl, rfl⟩
theorem First_spec {x : SW} (H : Zc) (m : Nat) (hm : m ≤ 1000) : F (psys x) 28 [iI (m : Nat)] H fun v G => v = fzI (List.replicate m 0) ∧ G = H := by
 refine Zs Tryd.func28 rfl u5 rfl ?_
 refine Ze (Za ?_)
 refine Lo u5 (Zh (VVal.slice none 0 0 true 0) (.inr rfl) rfl) ?_
 refine Zf (Zd (Ze (Za ?_)))
 refine Lo u5 (Zb (.inl rfl) rfl) ?_
 refine Lo u5 (v_makeSlice rfl rfl rfl rfl rfl (by decide) ⟨by omega, Int.le_refl _, by show ((m : Nat) : Int) * (8 : Nat) ≤ _; omega, by omega⟩) ?_
 refine Lo u5 (Zb (.inr rfl) rfl) ?_
 refine Zf (Zd ?_)
 refine B_heap (H' := H ++ [VBlk.cells ((List.replicate m (0 : Int)).map iI) true]) (by show _ ++ [VBlk.cells (Zu [iI 0] _) true] = _; rw [rep_cellsI]; rfl) ?_
 refine B_gh (Gh.freezeL (l := (List.replicate m (0 : Int)).map iI) 2 0 rfl rfl (cellsAt_all (by rw [List.length_map, List.length_replicate]; rfl)) (Nat.le_refl _) rfl) ?_
 refine Zk ?_
 refine W5b (.inr rfl) (Zi rfl rfl) ?_
 exact ⟨by show _ = VVal.fsl _ (List.replicate m (0 : Int)).length 1 false; rw [List.length_replicate]; rfl, rfl⟩
abbrev u11 {a0 a1 a2 a3 a4 a5 a6 a7 a8 a9 a10 : VVal} : VEnv := a0 :: a1 :: a2 :: a3 :: a4 :: a5 :: a6 :: a7 :: a8 :: a9 :: a10 :: []
theorem tsum_spec {x : SW} (H : Zc) (a b c : Nat) : F (psys x) 27 [.agg [iN a, iN b, iN c]] H fun v G => v = iN (a + b + c) ∧ G = H := by
 refine Zs Tryd.func27 rfl u11 rfl ?_
 refine Ze (Za ?_)
 refine Lo u11 (Zy rfl rfl rfl) ?_
 refine Lo u11 (Zh (VVal.int .u64 0) (.inr rfl) rfl) ?_
 refine Zf (Zd (Ze (Za ?_)))
 refine Lo u11 (rfl) ?_
 refine Lo u11 (W12 rfl rfl rfl rfl) ?_
 refine Lo u11 (rfl) ?_
 refine Lo u11 (W12 rfl rfl rfl rfl) ?_
 refine Lo u11 (v_addW rfl rfl rfl) ?_
 refine Lo u11 (rfl) ?_
 refine Lo u11 (W12 rfl rfl rfl rfl) ?_
 refine Lo u11 (v_addW rfl rfl rfl) ?_
 refine Lo u11 (Zb (.inr rfl) rfl) ?_
 refine Zf (Zd (Zk ?_))
 refine W10 (.inr rfl) (Zi rfl rfl) ?_
 exact ⟨by rw [iN_add, iN_add], rfl⟩
theorem neg_w {x : Int} (h : -100 ≤ x ∧ x ≤ 100) : VVal.int .i64 (IntKind.i64.wrap (0 - x)) = iI (-x) := by rw [wrap_i _ (by omega), Int.zero_sub]
theorem Least_E {x : SW} {A : Zc} {y : Nat} (g : Gz) (q : Pb) (hq : PbL q) (h : A.length = y) : F (psys x) 21 [.ptr (some (y, 0)), .agg (pbB q)] (A ++ [gaB g]) fun v G => v = leT (leA q) ∧ G = A ++ [gaB (g + leG q)] := by
  subst h
  have := sLeast_spec (x := x) (A ++ [gaB g]) A.length g YF q hq
  rw [set_end] at this; exact this
theorem Gauge_E {x : SW} {A : Zc} {y : Nat} {g : Gz} (h : A.length = y) : F (psys x) 26 [.ptr (some (y, 0))] (A ++ [gaB g]) fun v G => v = .agg [iN g.n, iN g.p, iN g.e] ∧ G = A ++ [gaB g] := by
  subst h; exact Gauge_spec _ _ _ YF
theorem tg_spl {m u : Nat} {a w : BitVec 64} (h : 1 ≤ m) : Zv ((List.replicate (m - 1) (alW u) ++ [a]).map iW) (0 + (((m : Nat) : Int) - 1).toNat * 1) [iW w] = (List.replicate (m - 1) (alW u) ++ [w]).map iW := by
  rw [show (((m : Nat) : Int) - 1).toNat = m - 1 by omega, spl_W (by rw [List.length_append, List.length_replicate]; show m - 1 < m - 1 + 1; omega), tg_set h]
theorem tset2 {X : Zc} {b : Nat} {k : VBlk} {z z2 : List VVal} (e : z = z2) : (X.set b k).set b (.cells z true) = X.set b (.cells z2 true) := by rw [e, List.set_set]
theorem rep_push {α : Type} {f : α → VVal} {a : α} {i : Nat} : (List.replicate (i + 1) a).map f = (List.replicate i a).map f ++ [f a] := by rw [List.replicate_succ', List.map_append]; rfl
theorem le_no3 {g d : Gz} {m : Nat} (h : g.n + g.p + g.e + (d.n + d.p + d.e) < 9223372036854775808) (hm : d.t ≤ m) (hb : m < 9223372036854775808) : decide (((BitVec.ofNat 64 ((g + d).n + (g + d).p + (g + d).e) - BitVec.ofNat 64 (g.n + g.p + g.e)).toNat : Int) ≤ ((BitVec.ofNat 64 m).toNat : Int)) = true := by
  rw [show (g + d).n + (g + d).p + (g + d).e = g.n + g.p + g.e + (d.n + d.p + d.e) by rw [Gz.add_n, Gz.add_p, Gz.add_e]; omega, sub_ofN]
  exact le_yes hm hb
theorem tg_g {m u : Nat} (w : BitVec 64) (h0 : pck (tgP m u w) = 0) (h8 : m < 9) (h : 1 ≤ m) : (leG (tgP m u w)).t ≤ boN m u := by
  have := leG_le h0 (by rw [tg_len h]; omega)
  rw [tg_len h] at this
  rwa [show (tgP m u w).users.toNat = u from Int.toNat_natCast u] at this
theorem tg_ints {x : SW} (H : Zc) (m : Nat) (h : m ≤ 100) : F (psys x) 23 [fzN (List.replicate m 0), fzI (List.replicate m 0)] H fun v G => v = .bool true ∧ G = H := by
  have := kInts_spec (x := x) H (zI (List.replicate m 0)) (List.replicate m 0) (by rw [zI_len, List.length_replicate]; omega)
  rw [← fzN_is, show zI (List.replicate m 0) = List.replicate m (0 : Int) by unfold zI; rw [List.map_replicate]; rfl] at this
  simpa using this
end Go.Proofs.YtenkjadobkjaeaaDoor.VT
